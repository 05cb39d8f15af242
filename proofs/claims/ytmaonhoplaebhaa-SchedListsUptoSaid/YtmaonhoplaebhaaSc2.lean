/- Package sched and its document's answer: lists, parts in turns. -/
import Derived.Test.YtmaonhoplaebhaaSc1
import Derived.Test.YtmaonhoplaebhaaEngM
set_option linter.unusedVariables false
set_option linter.unusedSimpArgs false
set_option maxRecDepth 100000
namespace Go.Ab.Sc
open Go Go.Proofs Go.Ab
abbrev Lst := Option Addr × Nat × List Int
def encS (x : Lst) : List Value := [.slice x.1 x.2.2.length x.2.1]
theorem encS_len : ∀ x, (encS x).length = 1 := fun _ => rfl
theorem encS_one : ∀ x, (encS x).all Value.oneCell' = true := fun _ => rfl
/-- Of each part the number at k. -/
def row (ps : List (List Int)) (k : Nat) : List Int := ps.filterMap (·[k]?)
def full (ps : List (List Int)) : Nat → List Int
  | 0 => []
  | k + 1 => full ps k ++ row ps k
def lng (ps : List (List Int)) : Nat := ps.foldl (fun a p => max a p.length) 0
def trn (n : Nat) (ps : List (List Int)) : List Int := (full ps (lng ps)).take n ++ List.replicate (n - ((full ps (lng ps)).take n).length) 0
theorem row_next {ps : List (List Int)} {j k : Nat} {p : List Int} (h : ps[j]? = some p) : row (ps.take (j + 1)) k = row (ps.take j) k ++ p[k]?.toList := by
  have h2 : ps.take (j + 1) = ps.take j ++ [p] := by rw [List.take_add_one, h]; rfl
  rw [h2]
  unfold row
  rw [List.filterMap_append]
  cases hp : p[k]? <;> simp [hp]
theorem full_pre (ps : List (List Int)) {k m : Nat} (h : k ≤ m) : ∃ R, full ps m = full ps k ++ R := by
  induction m with
  | zero => exact ⟨[], by have : k = 0 := by omega
                          subst this; simp⟩
  | succ m ih =>
    by_cases hk : k = m + 1
    · subst hk; exact ⟨[], by simp⟩
    · obtain ⟨R, hR⟩ := ih (by omega)
      exact ⟨R ++ row ps m, by show full ps m ++ row ps m = _; rw [hR, List.append_assoc]⟩
theorem lng_ge {ps : List (List Int)} {p : List Int} (h : p ∈ ps) : p.length ≤ lng ps := by
  have key : ∀ (ps : List (List Int)) (a : Nat), a ≤ ps.foldl (fun a p => max a p.length) a ∧ ∀ p ∈ ps, p.length ≤ ps.foldl (fun a p => max a p.length) a := by
    intro ps
    induction ps with
    | nil => intro a; exact ⟨Nat.le_refl _, fun p h => by cases h⟩
    | cons q ps ih =>
      intro a
      obtain ⟨h1, h2⟩ := ih (max a q.length)
      refine ⟨Nat.le_trans (Nat.le_max_left _ _) h1, fun p hp => ?_⟩
      rcases List.mem_cons.1 hp with rfl | hp
      · exact Nat.le_trans (Nat.le_max_right _ _) h1
      · exact h2 p hp
  exact (key ps 0).2 p h
theorem lng_next {ps : List (List Int)} {j : Nat} {p : List Int} (h : ps[j]? = some p) : lng (ps.take (j + 1)) = max (lng (ps.take j)) p.length := by
  have h2 : ps.take (j + 1) = ps.take j ++ [p] := by rw [List.take_add_one, h]; rfl
  rw [h2]; unfold lng; rw [List.foldl_append]; rfl
theorem row_nil {ps : List (List Int)} {k : Nat} (h : lng ps ≤ k) : row ps k = [] := by
  unfold row
  rw [List.filterMap_eq_nil_iff]
  intro p hp
  rw [List.getElem?_eq_none]
  exact Nat.le_trans (lng_ge hp) h
theorem nil_row {ps : List (List Int)} {k m : Nat} (h : row ps k = []) (hm : k ≤ m) : row ps m = [] := by
  unfold row at *
  rw [List.filterMap_eq_nil_iff] at *
  intro p hp
  have := h p hp
  rw [List.getElem?_eq_none_iff] at this ⊢
  omega
theorem full_stay {ps : List (List Int)} {k m : Nat} (h : row ps k = []) (hm : k ≤ m) : full ps m = full ps k := by
  induction m with
  | zero => have : k = 0 := by omega
            subst this; rfl
  | succ m ih =>
    by_cases hk : k = m + 1
    · subst hk; rfl
    · show full ps m ++ row ps m = _
      rw [nil_row h (by omega), List.append_nil, ih (by omega)]
/-- At the end: nothing more, or all full. -/
theorem full_end {ps : List (List Int)} {k n : Nat} (h : n ≤ (full ps k).length ∨ row ps k = [] ∨ lng ps ≤ k) : (full ps k).take n = (full ps (lng ps)).take n := by
  rcases Nat.le_total k (lng ps) with hk | hk
  · rcases h with h | h | h
    · obtain ⟨R, hR⟩ := full_pre ps hk
      rw [hR, List.take_append_of_le_length h]
    · rw [full_stay h hk]
    · have : k = lng ps := by omega
      rw [this]
  · rw [full_stay (row_nil (Nat.le_refl _)) hk]
theorem take_push {A : List Int} {n : Nat} {v : Int} (h : (A.take n).length < n) : A.take n ++ [v] = (A ++ [v]).take n := by
  have h2 : A.length < n := by
    rw [List.length_take] at h; omega
  rw [List.take_of_length_le (by omega), List.take_of_length_le (by simp; omega)]
theorem take_keep {A B : List Int} {n : Nat} (h : B = [] ∨ n ≤ (A.take n).length) : A.take n = (A ++ B).take n := by
  rcases h with rfl | h
  · simp
  · rw [List.length_take] at h
    rw [List.take_append_of_le_length (by omega)]
/-- In the middle of a round. -/
abbrev mid (ps : List (List Int)) (k j : Nat) : List Int := full ps k ++ row (ps.take j) k
theorem mid_zero (ps : List (List Int)) (k : Nat) : mid ps k 0 = full ps k := by simp [mid, row]
theorem mid_end (ps : List (List Int)) (k : Nat) {j : Nat} (h : ps.length ≤ j) : mid ps k j = full ps (k + 1) := by
  unfold mid; rw [List.take_of_length_le h]; rfl
theorem mid_step {ps : List (List Int)} {j k : Nat} {p : List Int} (h : ps[j]? = some p) : mid ps k (j + 1) = mid ps k j ++ p[k]?.toList := by
  unfold mid; rw [row_next h, List.append_assoc]
theorem mid_in {ps : List (List Int)} {j k n : Nat} {p : List Int} {v : Int} {l : List Int} (h : ps[j]? = some p) (hv : p[k]? = some v) (hl : l = (mid ps k j).take n) (hlt : l.length < n) : l ++ [v] = (mid ps k (j + 1)).take n := by
  subst hl
  rw [mid_step h, hv]; exact take_push hlt
theorem mid_out {ps : List (List Int)} {j k n : Nat} {p : List Int} {l : List Int} (h : ps[j]? = some p) (hl : l = (mid ps k j).take n) (hn : ¬ (k < p.length ∧ l.length < n)) : l = (mid ps k (j + 1)).take n := by
  subst hl
  rw [mid_step h]
  refine take_keep ?_
  by_cases hk : k < p.length
  · exact .inr (by have := fun h => hn ⟨hk, h⟩; omega)
  · left; rw [List.getElem?_eq_none (by omega)]; rfl
theorem take_le (A : List Int) (n : Nat) : (A.take n).length ≤ n := by rw [List.length_take]; omega
theorem trn_of {ps : List (List Int)} {n : Nat} {l : List Int} (h : l = (full ps (lng ps)).take n) : l ++ List.replicate (n - l.length) 0 = trn n ps := by subst h; rfl
theorem lng_le {ps : List (List Int)} {B : Nat} (h : ∀ p ∈ ps, p.length ≤ B) : lng ps ≤ B := by
  have key : ∀ (ps : List (List Int)) (a : Nat), a ≤ B → (∀ p ∈ ps, p.length ≤ B) → ps.foldl (fun a p => max a p.length) a ≤ B := by
    intro ps
    induction ps with
    | nil => intro a ha _; exact ha
    | cons q ps ih =>
      intro a ha h
      exact ih _ (Nat.max_le.2 ⟨ha, h q (by simp)⟩) fun p hp => h p (List.mem_cons_of_mem _ hp)
  exact key ps 0 (Nat.zero_le _) h
theorem rds_nil {α : Type} {A : HProp} {ao : Option Addr} {sz : Nat} {enc : α → List Value} {xs : List α} (h : RdS A ao (xs.flatMap enc)) (hsz : ∀ x, (enc x).length = sz + 1) (hn : ao = none) : xs = [] := by
  rcases h with h | ⟨b, o, h, -⟩
  · have := flat_len hsz xs
    rw [h, List.length_nil] at this
    have h2 : xs.length = 0 := by
      rcases Nat.mul_eq_zero.1 this.symm with h3 | h3
      · exact h3
      · omega
    exact List.eq_nil_of_length_eq_zero h2
  · rw [hn] at h; cases h

theorem clonew_spec (xs : List Int) (ao : Option Addr) (n c : Nat) (A : HProp) (hn : xs.length = n) (hr : RdS A ao (xs.flatMap encW)) (hb : xs.length ≤ 4000000000000) : Spec Try.prog 45 [.slice ao n c] [A] (fun (r : Option Addr × Nat) => .slice r.1 n r.2) (fun r => True) (fun r => [A, own 1 encW r.1 r.2 xs]) := by
  refine spec_mk (n := 8) Try.func45 rfl rfl rfl ?_
  intro Γ w0
  simp only [argE, List.cons_append, List.nil_append, Nat.zero_add, Nat.reduceAdd]
  refine c_seq ?_
  refine c_plain (.q 0 (.done)) (by kernel_rfl) ?_
  refine q_assign rfl rfl rfl rfl ?_
  refine r_done ?_
  refine k_then_n ?_
  refine c_seq ?_
  refine c_seq ?_
  refine c_plain (.q 0 (.q 1 (.done))) (by kernel_rfl) ?_
  refine q_move rfl rfl rfl rfl ?_
  refine q_eq_nils rfl rfl rfl rfl Try.underlying24 ?_
  refine r_done ?_
  refine k_then_n ?_
  refine c_cond rfl (fun hno => ?_) (fun hno => ?_)
  · skip
    try simp only [Bool.and_eq_true, Bool.or_eq_true, Bool.not_eq_true', Bool.not_eq_false', Bool.and_eq_false_iff, Bool.or_eq_false_iff, decide_eq_true_eq, decide_eq_false_iff_not] at hno
    have hx := rds_nil hr encW_len (by simpa using hno)
    subst hx
    obtain rfl : n = 0 := by simpa using hn.symm
    refine s_heap (fun _ h => own_nil (sz := 1) (enc := encW) h) ?_
    refine c_seq ?_
    refine c_plain (.q 0 (.done)) (by kernel_rfl) ?_
    refine q_assign rfl rfl rfl rfl ?_
    refine r_done ?_
    refine k_then_n ?_
    refine c_ret ?_
    refine k_then_ret ?_
    refine ret1 rfl rfl ((none, 0)) (by first | rfl | (first | rfl | (congr 1; done) | (congr 1 <;> first | rfl | omega | (simp; done) | (simp; omega)))) (by trivial) ?_
    (repeat ((with_reducible apply Takes.cons); focus (first | (with_reducible (repeat (first | exact Take.here | apply Take.there)); done) | (repeat (first | exact Take.here | apply Take.there))))); (repeat (first | exact Takes.nil | exact Takes.self | refine takes_drop2 ?_))
  · skip
    try simp only [Bool.and_eq_true, Bool.or_eq_true, Bool.not_eq_true', Bool.not_eq_false', Bool.and_eq_false_iff, Bool.or_eq_false_iff, decide_eq_true_eq, decide_eq_false_iff_not] at hno
    refine c_skip ?_
    refine k_then_n ?_
    refine c_seq ?_
    refine c_plain ((.l 0 [] (.q 1 ((.l 2 [] (.q 3 (.done))))))) (by kernel_rfl) ?_
    refine l_buildSlice0 rfl rfl rfl rfl Try.underlying24 Try.sizeOf25 ?_
    intro b5
    refine ag_nil ?_
    refine q_move rfl rfl rfl rfl ?_
    refine s_take (A := cells b5 0 []) (by with_reducible (repeat (first | exact Take.here | apply Take.there))) ?_
    refine s_heap (fun _ h => own_mk (sz := 1) (enc := encW) (xs := []) (sp := []) (cap := 0) (Nat.le_refl _) rfl h) ?_
    refine l_append (sz := 1) (enc := encW) (xs := []) rfl rfl rfl rfl rfl Try.underlying24 Try.typeInfo25 rfl rfl rfl (by decide) (by with_reducible (repeat (first | exact Take.here | apply Take.there))) (by with_reducible (repeat (first | exact Take.here | apply Take.there))) (by first | rfl | omega | (simp; done) | (simp; omega)) (ys := xs) (hr) (by rfl) (by exact hn) (encW_len) (encW_one) (by omega) (by show _ * 4 ≤ _; omega) ?_
    intro ao7 cp7
    try simp only [List.nil_append]
    refine ag_nil ?_
    refine q_assign rfl rfl rfl rfl ?_
    refine r_done ?_
    refine s_keep [2] (e' := [(2, _)]) rfl ?_
    refine k_then_n ?_
    refine c_ret ?_
    refine ret1 rfl rfl ((ao7, cp7)) (by rw [Nat.zero_add]) (by trivial) ?_
    (repeat ((with_reducible apply Takes.cons); focus (first | (with_reducible (repeat (first | exact Take.here | apply Take.there)); done) | (repeat (first | exact Take.here | apply Take.there))))); (repeat (first | exact Takes.nil | exact Takes.self | refine takes_drop2 ?_))

theorem clonez_spec (xs : List Int) (ao : Option Addr) (n c : Nat) (A : HProp) (hn : xs.length = n) (hr : RdS A ao (xs.flatMap encZ)) (hb : xs.length ≤ 4000000000000) : Spec Try.prog 48 [.slice ao n c] [A] (fun (r : Option Addr × Nat) => .slice r.1 n r.2) (fun r => True) (fun r => [A, own 1 encZ r.1 r.2 xs]) := by
  refine spec_mk (n := 8) Try.func48 rfl rfl rfl ?_
  intro Γ w0
  simp only [argE, List.cons_append, List.nil_append, Nat.zero_add, Nat.reduceAdd]
  refine c_seq ?_
  refine c_plain (.q 0 (.done)) (by kernel_rfl) ?_
  refine q_assign rfl rfl rfl rfl ?_
  refine r_done ?_
  refine k_then_n ?_
  refine c_seq ?_
  refine c_seq ?_
  refine c_plain (.q 0 (.q 1 (.done))) (by kernel_rfl) ?_
  refine q_move rfl rfl rfl rfl ?_
  refine q_eq_nils rfl rfl rfl rfl Try.underlying53 ?_
  refine r_done ?_
  refine k_then_n ?_
  refine c_cond rfl (fun hno => ?_) (fun hno => ?_)
  · skip
    try simp only [Bool.and_eq_true, Bool.or_eq_true, Bool.not_eq_true', Bool.not_eq_false', Bool.and_eq_false_iff, Bool.or_eq_false_iff, decide_eq_true_eq, decide_eq_false_iff_not] at hno
    have hx := rds_nil hr encZ_len (by simpa using hno)
    subst hx
    obtain rfl : n = 0 := by simpa using hn.symm
    refine s_heap (fun _ h => own_nil (sz := 1) (enc := encZ) h) ?_
    refine c_seq ?_
    refine c_plain (.q 0 (.done)) (by kernel_rfl) ?_
    refine q_assign rfl rfl rfl rfl ?_
    refine r_done ?_
    refine k_then_n ?_
    refine c_ret ?_
    refine k_then_ret ?_
    refine ret1 rfl rfl ((none, 0)) (by first | rfl | (first | rfl | (congr 1; done) | (congr 1 <;> first | rfl | omega | (simp; done) | (simp; omega)))) (by trivial) ?_
    (repeat ((with_reducible apply Takes.cons); focus (first | (with_reducible (repeat (first | exact Take.here | apply Take.there)); done) | (repeat (first | exact Take.here | apply Take.there))))); (repeat (first | exact Takes.nil | exact Takes.self | refine takes_drop2 ?_))
  · skip
    try simp only [Bool.and_eq_true, Bool.or_eq_true, Bool.not_eq_true', Bool.not_eq_false', Bool.and_eq_false_iff, Bool.or_eq_false_iff, decide_eq_true_eq, decide_eq_false_iff_not] at hno
    refine c_skip ?_
    refine k_then_n ?_
    refine c_seq ?_
    refine c_plain ((.l 0 [] (.q 1 ((.l 2 [] (.q 3 (.done))))))) (by kernel_rfl) ?_
    refine l_buildSlice0 rfl rfl rfl rfl Try.underlying53 Try.sizeOf3 ?_
    intro b5
    refine ag_nil ?_
    refine q_move rfl rfl rfl rfl ?_
    refine s_take (A := cells b5 0 []) (by with_reducible (repeat (first | exact Take.here | apply Take.there))) ?_
    refine s_heap (fun _ h => own_mk (sz := 1) (enc := encZ) (xs := []) (sp := []) (cap := 0) (Nat.le_refl _) rfl h) ?_
    refine l_append (sz := 1) (enc := encZ) (xs := []) rfl rfl rfl rfl rfl Try.underlying53 Try.typeInfo3 rfl rfl rfl (by decide) (by with_reducible (repeat (first | exact Take.here | apply Take.there))) (by with_reducible (repeat (first | exact Take.here | apply Take.there))) (by first | rfl | omega | (simp; done) | (simp; omega)) (ys := xs) (hr) (by rfl) (by exact hn) (encZ_len) (encZ_one) (by omega) (by show _ * 8 ≤ _; omega) ?_
    intro ao7 cp7
    try simp only [List.nil_append]
    refine ag_nil ?_
    refine q_assign rfl rfl rfl rfl ?_
    refine r_done ?_
    refine s_keep [2] (e' := [(2, _)]) rfl ?_
    refine k_then_n ?_
    refine c_ret ?_
    refine ret1 rfl rfl ((ao7, cp7)) (by rw [Nat.zero_add]) (by trivial) ?_
    (repeat ((with_reducible apply Takes.cons); focus (first | (with_reducible (repeat (first | exact Take.here | apply Take.there)); done) | (repeat (first | exact Take.here | apply Take.there))))); (repeat (first | exact Takes.nil | exact Takes.self | refine takes_drop2 ?_))

def tnL (n : Int) (ps : List (List Int)) : List Int := if lenE n = 0 then trn n.toNat ps else []

theorem turns_spec (L : List Lst) (n : Int) (bo : Option Addr) (m c : Nat) (A : HProp) (hr : RdS A bo (L.flatMap encS)) (hm : L.length = m) (hc : ∀ x ∈ L, RdS A x.1 (x.2.2.flatMap encW)) (hb : m ≤ 4000000000000) (hb2 : ∀ x ∈ L, x.2.2.length ≤ 4000000000000) : Spec Try.prog 12 [.int .i64 n, .slice bo m c] [A] (fun (r : Option Addr × Nat) => .tuple #[.slice r.1 (tnL n (L.map (·.2.2))).length r.2, .int .i64 (lenE n)]) (fun r => True) (fun r => [A, own 1 encW r.1 r.2 (tnL n (L.map (·.2.2)))]) := by
  refine spec_mk (n := 52) Try.func12 rfl rfl rfl ?_
  intro Γ w0
  simp only [argE, List.cons_append, List.nil_append, Nat.zero_add, Nat.reduceAdd]
  have hps : (L.map (·.2.2)).length = m := by rw [List.length_map]; exact hm
  refine c_seq ?_
  refine c_plain (.q 0 (.q 1 (.done))) (by kernel_rfl) ?_
  refine q_assign rfl rfl rfl rfl ?_
  refine q_assign rfl rfl rfl rfl ?_
  refine r_done ?_
  refine k_then_n ?_
  refine c_seq ?_
  refine c_seq ?_
  refine c_plain (.q 0 ((.l 1 [] (.q 2 (.done))))) (by kernel_rfl) ?_
  refine q_move rfl rfl rfl rfl ?_
  have sp_1 := length_spec n
  refine l_call rfl rfl rfl rfl rfl rfl Try.call38 (sp_1) (by (repeat ((with_reducible apply Takes.cons); focus (first | (with_reducible (repeat (first | exact Take.here | apply Take.there)); done) | (repeat (first | exact Take.here | apply Take.there))))); exact Takes.nil) ?_
  rintro ⟨⟩ -
  try simp only [List.cons_append, List.nil_append]
  refine ag_nil ?_
  refine q_assign rfl rfl rfl rfl ?_
  refine r_done ?_
  refine s_keep [0, 1, 6] (e' := [(0, _), (1, _), (6, _)]) rfl ?_
  refine k_then_n ?_
  refine c_seq ?_
  refine c_plain (.q 0 (.q 1 (.done))) (by kernel_rfl) ?_
  refine q_move rfl rfl rfl rfl ?_
  refine q_int rfl rfl rfl rfl rfl (b_neq _ _ _ _) ?_
  refine r_done ?_
  refine k_then_n ?_
  refine c_cond_p rfl (fun he => ?_) (fun he => ?_)
  · skip
    refine c_seq ?_
    refine c_plain (.q 0 (.q 1 (.q 2 (.done)))) (by kernel_rfl) ?_
    refine q_move rfl rfl rfl rfl ?_
    refine q_assign rfl rfl rfl rfl ?_
    refine q_assign rfl rfl rfl rfl ?_
    refine r_done ?_
    refine s_keep [4, 5] (e' := [(4, _), (5, _)]) rfl ?_
    refine k_then_n ?_
    refine c_ret ?_
    refine k_then_ret ?_
    refine s_heap (fun _ h => own_nil (sz := 1) (enc := encW) h) ?_
    rw [show tnL n (L.map (·.2.2)) = [] from by simp [tnL, he]]
    refine ret2 rfl rfl rfl ((none, 0)) (by simp [tnL, he]) (by trivial) ?_
    (repeat ((with_reducible apply Takes.cons); focus (first | (with_reducible (repeat (first | exact Take.here | apply Take.there)); done) | (repeat (first | exact Take.here | apply Take.there))))); (repeat (first | exact Takes.nil | exact Takes.self | refine takes_drop2 ?_))
  · skip
    refine c_skip ?_
    refine k_then_n ?_
    refine c_seq ?_
    have he : lenE n = 0 := Classical.byContradiction he
    have hok := lenE_ok he
    obtain ⟨n, rfl⟩ : ∃ q : Nat, n = (q : Int) := ⟨n.toNat, by omega⟩
    refine c_plain (.q 0 ((.l 1 [] (.q 2 (.done))))) (by kernel_rfl) ?_
    refine q_move rfl rfl rfl rfl ?_
    refine l_make (sz := 1) (enc := encW) (len := 0) (cap := n) (0) rfl rfl rfl rfl rfl (by first | rfl | omega) (by first | rfl | omega) Try.underlying24 Try.typeInfo25 rfl rfl rfl (by decide) (by omega) (by omega) (by show 4 * _ ≤ _; omega) (by rfl) (encW_len) ?_
    intro b18
    refine ag_nil ?_
    refine q_assign rfl rfl rfl rfl ?_
    refine r_done ?_
    refine s_keep [0, 1, 7] (e' := [(0, _), (1, _), (7, _)]) rfl ?_
    refine k_then_n ?_
    refine c_seq ?_
    refine c_seq ?_
    refine c_plain (.q 0 (.q 1 (.done))) (by kernel_rfl) ?_
    refine q_assign rfl rfl rfl rfl ?_
    refine q_assign rfl rfl rfl rfl ?_
    refine r_done ?_
    refine k_then_n ?_
    refine c_block ?_
    refine c_loop2 (α := Nat × Bool × Option Addr × Nat × List Int) (fun (x_ : Nat × Bool × Option Addr × Nat × List Int) => match x_ with | (k, mo, ao, cp, l) => (l = (full (L.map (·.2.2)) k).take n) ∧ (mo = false → ((full (L.map (·.2.2)) k).take n = (full (L.map (·.2.2)) (lng (L.map (·.2.2)))).take n)) ∧ (k ≤ l.length + (if mo then 0 else 1))) (fun (x_ : Nat × Bool × Option Addr × Nat × List Int) => match x_ with | (k, mo, ao, cp, l) => [(7, .slice ao l.length cp), (8, .int .i64 ((k : Nat) : Int)), (9, .bool mo)]) (fun (x_ : Nat × Bool × Option Addr × Nat × List Int) => match x_ with | (k, mo, ao, cp, l) => [own 1 encW ao cp l]) (fun (x_ : Nat × Bool × Option Addr × Nat × List Int) => match x_ with | (k, mo, ao, cp, l) => if mo then n - l.length + 1 else 0) [0, 1] (er := [(0, _), (1, _)]) rfl (0, true, some ⟨b18, 0, none⟩, n, []) ?_ (by exact ⟨rfl, rfl, rfl, trivial⟩) (by (try dsimp only); (try simp only [Nat.add_zero, Nat.zero_add]); (repeat ((with_reducible apply Takes.cons); focus (first | (with_reducible (repeat (first | exact Take.here | apply Take.there)); done) | (repeat (first | exact Take.here | apply Take.there))))); exact Takes.nil) ?_
    · exact ⟨by simp [full], fun h => (by cases h), by simp⟩
    rintro ⟨k, mo, ao, cp, l⟩ ⟨hl, hmo, hkl⟩
    try simp only [List.cons_append, List.nil_append]
    have hln := take_le (full (L.map (·.2.2)) k) n
    rw [← hl] at hln
    refine c_seq ?_
    refine c_seq ?_
    refine c_plain (.q 0 (.done)) (by kernel_rfl) ?_
    refine q_move rfl rfl rfl rfl ?_
    refine r_done ?_
    refine k_then_n ?_
    refine c_cond rfl (fun hmot => ?_) (fun hmot => ?_)
    · skip
      try simp only [Bool.and_eq_true, Bool.or_eq_true, Bool.not_eq_true', Bool.not_eq_false', Bool.and_eq_false_iff, Bool.or_eq_false_iff, decide_eq_true_eq, decide_eq_false_iff_not] at hmot
      subst hmot
      have hkl : k ≤ l.length := by simpa using hkl
      refine c_skip ?_
      refine k_then_n ?_
      refine c_seq ?_
      refine c_block ?_
      refine c_seq ?_
      refine c_plain (.q 0 (.done)) (by kernel_rfl) ?_
      refine q_assign rfl rfl rfl rfl ?_
      refine r_done ?_
      refine k_then_n ?_
      refine c_seq ?_
      refine c_plain (.q 0 (.q 1 (.q 2 (.done)))) (by kernel_rfl) ?_
      refine q_move rfl rfl rfl rfl ?_
      refine q_len rfl rfl rfl rfl Try.underlying23 ?_
      refine q_move rfl rfl rfl rfl ?_
      refine r_done ?_
      refine k_then_n ?_
      refine c_block ?_
      refine c_loop2 (α := Nat × Bool × Option Addr × Nat × List Int) (fun (x_ : Nat × Bool × Option Addr × Nat × List Int) => match x_ with | (j, mo2, ao2, cp2, l2) => j ≤ m ∧ l2 = (mid (L.map (·.2.2)) k j).take n ∧ l.length ≤ l2.length ∧ ((mo2 = true → l.length < l2.length) ∧ (mo2 = false → l2 = l ∧ (n ≤ (full (L.map (·.2.2)) k).length ∨ row ((L.map (·.2.2)).take j) k = [])))) (fun (x_ : Nat × Bool × Option Addr × Nat × List Int) => match x_ with | (j, mo2, ao2, cp2, l2) => [(7, .slice ao2 l2.length cp2), (9, .bool mo2), (24, .int .i64 ((j : Nat) : Int))]) (fun (x_ : Nat × Bool × Option Addr × Nat × List Int) => match x_ with | (j, mo2, ao2, cp2, l2) => [own 1 encW ao2 cp2 l2]) (fun (x_ : Nat × Bool × Option Addr × Nat × List Int) => match x_ with | (j, mo2, ao2, cp2, l2) => m - j) [0, 1, 8, 22, 23] (er := [(0, _), (1, _), (8, _), (22, _), (23, _)]) rfl (0, false, ao, cp, l) ?_ (by exact ⟨rfl, rfl, rfl, trivial⟩) (by (try dsimp only); (try simp only [Nat.add_zero, Nat.zero_add]); (repeat ((with_reducible apply Takes.cons); focus (first | (with_reducible (repeat (first | exact Take.here | apply Take.there)); done) | (repeat (first | exact Take.here | apply Take.there))))); exact Takes.nil) ?_
      · exact ⟨by omega, by rw [mid_zero]; exact hl, Nat.le_refl _, fun h => (by cases h), fun _ => ⟨rfl, .inr (by simp [row])⟩⟩
      rintro ⟨j, mo2, ao2, cp2, l2⟩ ⟨hj, hl2, hll, hmo2⟩
      try simp only [List.cons_append, List.nil_append]
      have hln2 := take_le (mid (L.map (·.2.2)) k j) n
      rw [← hl2] at hln2
      refine c_seq ?_
      refine c_plain (.q 0 (.done)) (by kernel_rfl) ?_
      refine q_int rfl rfl rfl rfl rfl (b_lss _ _ _ _) ?_
      refine r_done ?_
      refine k_then_n ?_
      refine c_seq ?_
      refine c_cond_p rfl (fun hlj => ?_) (fun hlj => ?_)
      · skip
        refine c_skip ?_
        refine k_then_n ?_
        refine c_seq ?_
        refine c_block ?_
        refine c_seq ?_
        refine c_plain (.q 0 (.q 1 (.q 2 (.done)))) (by kernel_rfl) ?_
        obtain ⟨p, hp⟩ := get_lt (l := L) (i := j) (by omega)
        have hpj : (L.map (·.2.2))[j]? = some p.2.2 := by rw [List.getElem?_map, hp]; rfl
        refine q_idxR (sz := 0) (k := j) rfl rfl rfl rfl rfl Try.underlying23 Try.sizeOf24 (hr) hp encS_len (by first | rfl | omega) (by omega) ?_
        intro ib26 io26 _ hd26
        refine q_load rfl rfl rfl rfl Try.isAgg24 (by with_reducible (repeat (first | exact Take.here | apply Take.there))) (hd26 0 _ rfl) ?_
        refine q_assign rfl rfl rfl rfl ?_
        refine r_done ?_
        refine k_then_n ?_
        refine c_seq ?_
        refine c_plain (.q 0 (.q 1 (.q 2 (.q 3 (.q 4 (.q 5 (.q 6 (.q 7 (.q 8 (.q 9 (.done))))))))))) (by kernel_rfl) ?_
        refine q_move rfl rfl rfl rfl ?_
        refine q_move rfl rfl rfl rfl ?_
        refine q_len rfl rfl rfl rfl Try.underlying24 ?_
        refine q_int rfl rfl rfl rfl rfl (b_lss _ _ _ _) ?_
        refine q_move rfl rfl rfl rfl ?_
        refine s_bool_p 32 rfl (fun hk => ?_) (fun hk => ?_)
        · skip
          refine q_move rfl rfl rfl rfl ?_
          refine q_len rfl rfl rfl rfl Try.underlying24 ?_
          refine q_move rfl rfl rfl rfl ?_
          refine q_int rfl rfl rfl rfl rfl (b_lss _ _ _ _) ?_
          refine q_pick_t rfl rfl rfl rfl rfl ?_
          refine r_done ?_
          refine s_keep [0, 1, 7, 8, 9, 11, 22, 23, 24, 33, 34, 35, 36, 37] (e' := [(0, _), (1, _), (7, _), (8, _), (9, _), (11, _), (22, _), (23, _), (24, _), (33, _), (34, _), (35, _), (36, _), (37, _)]) rfl ?_
          refine k_then_n ?_
          refine c_cond_p rfl (fun hin => ?_) (fun hin => ?_)
          · skip
            refine c_seq ?_
            refine c_plain (.q 0 (.q 1 (.q 2 (.q 3 (.q 4 ((.l 5 [] ((.l 6 [] (.q 7 (.done))))))))))) (by kernel_rfl) ?_
            refine q_move rfl rfl rfl rfl ?_
            refine q_move rfl rfl rfl rfl ?_
            refine q_move rfl rfl rfl rfl ?_
            obtain ⟨x, hx⟩ := get_lt (l := p.2.2) (i := k) (by omega)
            refine q_idxR (sz := 0) (k := k) rfl rfl rfl rfl rfl Try.underlying24 Try.sizeOf25 ((hc _ (List.mem_of_getElem? hp))) hx encW_len (by first | rfl | omega) (by omega) ?_
            intro ib41 io41 _ hd41
            refine q_load rfl rfl rfl rfl Try.isAgg25 (by with_reducible (repeat (first | exact Take.here | apply Take.there))) (hd41 0 _ rfl) ?_
            refine l_buildSlice rfl rfl rfl rfl (run_build1 (us := [_]) Try.underlying24 Try.sizeOf25 rfl Try.zeroValue25 rfl rfl rfl) ?_
            intro b43
            refine ag_nil ?_
            refine l_append (sz := 1) (enc := encW) (xs := l2) rfl rfl rfl rfl rfl Try.underlying24 Try.typeInfo25 rfl rfl rfl (by decide) (by with_reducible (repeat (first | exact Take.here | apply Take.there))) (by with_reducible (repeat (first | exact Take.here | apply Take.there))) (by first | rfl | omega | (simp; done) | (simp; omega)) (ys := [x]) (rds_some rdn_cells) (by rfl) (by first | rfl | omega) (encW_len) (encW_one) (by omega) (by show _ * 4 ≤ _; omega) ?_
            intro ao44 cp44
            refine ag_nil ?_
            refine q_assign rfl rfl rfl rfl ?_
            refine r_done ?_
            refine s_keep [0, 1, 7, 8, 22, 23, 24, 33, 34, 35, 36] (e' := [(0, _), (1, _), (7, _), (8, _), (22, _), (23, _), (24, _), (33, _), (34, _), (35, _), (36, _)]) rfl ?_
            refine k_then_n ?_
            refine c_plain (.q 0 (.done)) (by kernel_rfl) ?_
            refine q_assign rfl rfl rfl rfl ?_
            refine r_done ?_
            refine k_blk_n ?_
            refine k_then_n ?_
            refine c_plain (.q 0 (.q 1 (.done))) (by kernel_rfl) ?_
            refine q_int rfl rfl rfl rfl rfl (b_add' _ (by (first | exact fits_i64 (by omega) (by omega) | exact fits_u64 (by omega) (by omega) | exact fits_u32 (by omega) (by omega) | exact fits_u8 (by omega) (by omega)))) ?_
            refine q_move rfl rfl rfl rfl ?_
            refine r_done ?_
            refine k_then_n ?_
            refine s_eq 7 rfl (v' := .slice ao44 (l2 ++ [x]).length cp44) (by first | rfl | (congr 1; done) | (congr 1 <;> first | rfl | omega | (simp only [List.length_append, List.length_singleton]; done) | (simp only [List.length_append, List.length_singleton]; omega) | (simp [List.length_append, List.length_singleton]; done) | (simp [List.length_append, List.length_singleton]; omega))) ?_
            refine loop_next (x := (j, mo2, ao2, cp2, l2)) ((j + 1, true, ao44, cp44, l2 ++ [x])) ?_ ?_ ?_ ?_
            · try dsimp only
              exact ⟨by omega, mid_in hpj hx hl2 (by omega), by rw [List.length_append]; omega, fun _ => by rw [List.length_append, List.length_singleton]; omega, fun h => by cases h⟩
            · show m - (j + 1) < m - j; omega
            · exact ⟨rfl, rfl, rfl, rfl, rfl, rfl, rfl, rfl, trivial⟩
            · (try simp only [List.cons_append, List.nil_append]); (repeat ((with_reducible apply Takes.cons); focus (first | (with_reducible (repeat (first | exact Take.here | apply Take.there)); done) | (repeat (first | exact Take.here | apply Take.there))))); (repeat (first | exact Takes.nil | exact Takes.self | refine takes_drop2 ?_))
          · skip
            refine c_skip ?_
            refine k_blk_n ?_
            refine k_then_n ?_
            refine c_plain (.q 0 (.q 1 (.done))) (by kernel_rfl) ?_
            refine q_int rfl rfl rfl rfl rfl (b_add' _ (by (first | exact fits_i64 (by omega) (by omega) | exact fits_u64 (by omega) (by omega) | exact fits_u32 (by omega) (by omega) | exact fits_u8 (by omega) (by omega)))) ?_
            refine q_move rfl rfl rfl rfl ?_
            refine r_done ?_
            refine k_then_n ?_
            refine loop_next (x := (j, mo2, ao2, cp2, l2)) ((j + 1, mo2, ao2, cp2, l2)) ?_ ?_ ?_ ?_
            · try dsimp only
              exact ⟨by omega, mid_out hpj hl2 (by omega), hll, hmo2.1, fun h => ⟨(hmo2.2 h).1, Or.inl (by have h1 := (hmo2.2 h).1; rw [hl] at h1; have := congrArg List.length h1; rw [List.length_take] at this; omega)⟩⟩
            · show m - (j + 1) < m - j; omega
            · exact ⟨rfl, rfl, rfl, rfl, rfl, rfl, rfl, rfl, trivial⟩
            · (try simp only [List.cons_append, List.nil_append]); (repeat ((with_reducible apply Takes.cons); focus (first | (with_reducible (repeat (first | exact Take.here | apply Take.there)); done) | (repeat (first | exact Take.here | apply Take.there))))); (repeat (first | exact Takes.nil | exact Takes.self | refine takes_drop2 ?_))
        · skip
          refine q_skip rfl rfl rfl rfl ?_
          refine q_skip rfl rfl rfl rfl ?_
          refine q_skip rfl rfl rfl rfl ?_
          refine q_skip rfl rfl rfl rfl ?_
          refine q_pick_f rfl rfl rfl rfl rfl ?_
          refine r_done ?_
          refine s_keep [0, 1, 7, 8, 9, 11, 22, 23, 24, 33, 34, 35, 36, 37] (e' := [(0, _), (1, _), (7, _), (8, _), (9, _), (11, _), (22, _), (23, _), (24, _), (33, _), (34, _), (35, _), (36, _), (37, _)]) rfl ?_
          refine k_then_n ?_
          refine c_cond_f rfl ?_
          refine c_skip ?_
          refine k_blk_n ?_
          refine k_then_n ?_
          refine c_plain (.q 0 (.q 1 (.done))) (by kernel_rfl) ?_
          refine q_int rfl rfl rfl rfl rfl (b_add' _ (by (first | exact fits_i64 (by omega) (by omega) | exact fits_u64 (by omega) (by omega) | exact fits_u32 (by omega) (by omega) | exact fits_u8 (by omega) (by omega)))) ?_
          refine q_move rfl rfl rfl rfl ?_
          refine r_done ?_
          refine k_then_n ?_
          refine loop_next (x := (j, mo2, ao2, cp2, l2)) ((j + 1, mo2, ao2, cp2, l2)) ?_ ?_ ?_ ?_
          · try dsimp only
            exact ⟨by omega, mid_out hpj hl2 (by omega), hll, hmo2.1, fun h => ⟨(hmo2.2 h).1, (hmo2.2 h).2.imp id fun h => by rw [row_next hpj, h, List.getElem?_eq_none (by omega)]; rfl⟩⟩
          · show m - (j + 1) < m - j; omega
          · exact ⟨rfl, rfl, rfl, rfl, rfl, rfl, rfl, rfl, trivial⟩
          · (try simp only [List.cons_append, List.nil_append]); (repeat ((with_reducible apply Takes.cons); focus (first | (with_reducible (repeat (first | exact Take.here | apply Take.there)); done) | (repeat (first | exact Take.here | apply Take.there))))); (repeat (first | exact Takes.nil | exact Takes.self | refine takes_drop2 ?_))
      · skip
        refine c_exit ?_
        refine k_then_exit ?_
        refine k_then_exit ?_
        refine k_blk_here ?_
        refine k_blk_n ?_
        refine k_then_n ?_
        refine c_plain (.q 0 (.q 1 (.q 2 (.done)))) (by kernel_rfl) ?_
        refine q_move rfl rfl rfl rfl ?_
        refine q_int rfl rfl rfl rfl rfl (b_add' _ (by (first | exact fits_i64 (by omega) (by omega) | exact fits_u64 (by omega) (by omega) | exact fits_u32 (by omega) (by omega) | exact fits_u8 (by omega) (by omega)))) ?_
        refine q_assign rfl rfl rfl rfl ?_
        refine r_done ?_
        refine s_keep [0, 1, 7, 8, 9] (e' := [(0, _), (1, _), (7, _), (8, _), (9, _)]) rfl ?_
        refine k_then_n ?_
        refine loop_next (x := (k, true, ao, cp, l)) ((k + 1, mo2, ao2, cp2, l2)) ?_ ?_ ?_ ?_
        · try dsimp only
          exact ⟨by rw [hl2, mid_end _ _ (by omega)], fun h => by
              rw [← mid_end (L.map (·.2.2)) k (j := j) (by omega), ← hl2]
              have h2 := (hmo2.2 h)
              rw [h2.1, hl]; exact full_end (h2.2.imp id fun h => .inl (by rw [List.take_of_length_le (by omega)] at h; exact h)), by have := hmo2.1; cases mo2 with
              | true => have := this rfl; simp; omega
              | false => have h3 := (hmo2.2 rfl).1; rw [h3]; simp; omega⟩
        · show (if mo2 then n - l2.length + 1 else 0) < (if true = true then n - l.length + 1 else 0)
          have h1 := hmo2.1
          cases mo2 with
          | true => have := h1 rfl; simp; omega
          | false => simp
        · exact ⟨rfl, rfl, rfl, rfl, rfl, trivial⟩
        · (try simp only [List.cons_append, List.nil_append]); (repeat ((with_reducible apply Takes.cons); focus (first | (with_reducible (repeat (first | exact Take.here | apply Take.there)); done) | (repeat (first | exact Take.here | apply Take.there))))); (repeat (first | exact Takes.nil | exact Takes.self | refine takes_drop2 ?_))
    · skip
      try simp only [Bool.and_eq_true, Bool.or_eq_true, Bool.not_eq_true', Bool.not_eq_false', Bool.and_eq_false_iff, Bool.or_eq_false_iff, decide_eq_true_eq, decide_eq_false_iff_not] at hmot
      subst hmot
      refine c_exit ?_
      refine k_then_exit ?_
      refine k_then_exit ?_
      refine k_blk_here ?_
      refine k_then_n ?_
      refine c_seq ?_
      have hl := hl.trans (hmo rfl)
      have hln := take_le (full (L.map (·.2.2)) (lng (L.map (·.2.2)))) n
      rw [← hl] at hln
      refine c_plain (.q 0 (.q 1 (.q 2 (.q 3 (.q 4 ((.l 5 [] (.q 6 (.q 7 (.done)))))))))) (by kernel_rfl) ?_
      refine q_move rfl rfl rfl rfl ?_
      refine q_move rfl rfl rfl rfl ?_
      refine q_move rfl rfl rfl rfl ?_
      refine q_len rfl rfl rfl rfl Try.underlying24 ?_
      refine q_int rfl rfl rfl rfl rfl (b_sub' _ (by (first | exact fits_i64 (by omega) (by omega) | exact fits_u64 (by omega) (by omega) | exact fits_u32 (by omega) (by omega) | exact fits_u8 (by omega) (by omega)))) ?_
      refine l_appendZ (sz := 1) (enc := encW) (m := n - l.length) (xs := l) (0 : Int) rfl rfl rfl rfl rfl Try.underlying24 Try.underlying3 Try.typeInfo25 rfl rfl rfl (by decide) (by with_reducible (repeat (first | exact Take.here | apply Take.there))) (by rfl) (by omega) rfl encW_len encW_one (by omega) (by show _ * 4 ≤ _; omega) ?_
      intro ao51 cp51
      rw [trn_of hl]
      refine ag_nil ?_
      refine q_assign rfl rfl rfl rfl ?_
      refine q_assign rfl rfl rfl rfl ?_
      refine r_done ?_
      refine s_keep [4, 5] (e' := [(4, _), (5, _)]) rfl ?_
      refine k_then_n ?_
      refine c_ret ?_
      refine ret2 rfl rfl rfl ((ao51, cp51)) (by simp only [tnL, he, if_true, Int.toNat_natCast]; rw [← trn_of hl, List.length_append, List.length_replicate]) (by trivial) ?_
      rw [show tnL (n : Int) (L.map (·.2.2)) = trn n (L.map (·.2.2)) from by simp [tnL, he]]
      (repeat ((with_reducible apply Takes.cons); focus (first | (with_reducible (repeat (first | exact Take.here | apply Take.there)); done) | (repeat (first | exact Take.here | apply Take.there))))); (repeat (first | exact Takes.nil | exact Takes.self | refine takes_drop2 ?_))

theorem mid_pre (ps : List (List Int)) (k : Nat) {i j : Nat} (h : i ≤ j) : ∃ R, mid ps k j = mid ps k i ++ R := by
  refine ⟨row ((ps.take j).drop i) k, ?_⟩
  have h1 : ps.take j = ps.take i ++ (ps.take j).drop i := by
    conv => lhs; rw [← List.take_append_drop i (ps.take j)]
    rw [List.take_take, Nat.min_eq_left h]
  unfold mid
  rw [List.append_assoc]
  congr 1
  conv => lhs; rw [h1]
  unfold row
  rw [List.filterMap_append]
theorem mid_last {ps : List (List Int)} {k i j n : Nat} {l : List Int} (hl : l = (mid ps k i).take n) (hj : ps.length ≤ j) (h : j ≤ i ∨ n ≤ l.length) : l = (full ps (k + 1)).take n := by
  rcases Nat.lt_or_ge i j with hi | hi
  · obtain ⟨R, hR⟩ := mid_pre ps k (i := i) (j := j) (by omega)
    have h2 : n ≤ (mid ps k i).length := by
      have := congrArg List.length hl
      rw [List.length_take] at this; omega
    rw [← mid_end ps k hj, hR, List.take_append_of_le_length h2]; exact hl
  · rw [← mid_end ps k (j := i) (by omega)]; exact hl

theorem rturns_spec (L : List Lst) (n : Int) (bo : Option Addr) (m c : Nat) (A : HProp) (hr : RdS A bo (L.flatMap encS)) (hm : L.length = m) (hc : ∀ x ∈ L, RdS A x.1 (x.2.2.flatMap encW)) (hb : m ≤ 4000000000000) (hb2 : ∀ x ∈ L, x.2.2.length ≤ 4000000000000) : Spec Try.prog 11 [.int .i64 n, .slice bo m c] [A] (fun (r : Option Addr × Nat) => .tuple #[.slice r.1 (tnL n (L.map (·.2.2))).length r.2, .int .i64 (lenE n)]) (fun r => True) (fun r => [A, own 1 encW r.1 r.2 (tnL n (L.map (·.2.2)))]) := by
  refine spec_mk (n := 78) Try.func11 rfl rfl rfl ?_
  intro Γ w0
  simp only [argE, List.cons_append, List.nil_append, Nat.zero_add, Nat.reduceAdd]
  have hps : (L.map (·.2.2)).length = m := by rw [List.length_map]; exact hm
  have hlb : lng (L.map (·.2.2)) ≤ 4000000000000 := lng_le (fun p hp => by obtain ⟨x, hx, rfl⟩ := List.mem_map.1 hp; exact hb2 x hx)
  refine c_seq ?_
  refine c_plain (.q 0 (.q 1 (.done))) (by kernel_rfl) ?_
  refine q_assign rfl rfl rfl rfl ?_
  refine q_assign rfl rfl rfl rfl ?_
  refine r_done ?_
  refine k_then_n ?_
  refine c_seq ?_
  refine c_plain (.q 0 ((.l 1 [] (.q 2 (.done))))) (by kernel_rfl) ?_
  refine q_move rfl rfl rfl rfl ?_
  have sp_1 := rlength_spec n
  refine l_call rfl rfl rfl rfl rfl rfl Try.call37 (sp_1) (by (repeat ((with_reducible apply Takes.cons); focus (first | (with_reducible (repeat (first | exact Take.here | apply Take.there)); done) | (repeat (first | exact Take.here | apply Take.there))))); exact Takes.nil) ?_
  rintro ⟨⟩ -
  try simp only [List.cons_append, List.nil_append]
  refine ag_nil ?_
  refine q_assign rfl rfl rfl rfl ?_
  refine r_done ?_
  refine s_keep [0, 1, 6] (e' := [(0, _), (1, _), (6, _)]) rfl ?_
  refine k_then_n ?_
  refine c_seq ?_
  refine c_seq ?_
  refine c_plain (.q 0 (.q 1 (.done))) (by kernel_rfl) ?_
  refine q_move rfl rfl rfl rfl ?_
  refine q_int rfl rfl rfl rfl rfl (b_neq _ _ _ _) ?_
  refine r_done ?_
  refine k_then_n ?_
  refine c_cond_p rfl (fun he => ?_) (fun he => ?_)
  · skip
    refine c_seq ?_
    refine c_plain (.q 0 (.q 1 (.q 2 (.done)))) (by kernel_rfl) ?_
    refine q_move rfl rfl rfl rfl ?_
    refine q_assign rfl rfl rfl rfl ?_
    refine q_assign rfl rfl rfl rfl ?_
    refine r_done ?_
    refine s_keep [4, 5] (e' := [(4, _), (5, _)]) rfl ?_
    refine k_then_n ?_
    refine c_ret ?_
    refine k_then_ret ?_
    refine s_heap (fun _ h => own_nil (sz := 1) (enc := encW) h) ?_
    rw [show tnL n (L.map (·.2.2)) = [] from by simp [tnL, he]]
    refine ret2 rfl rfl rfl ((none, 0)) (by simp [tnL, he]) (by trivial) ?_
    (repeat ((with_reducible apply Takes.cons); focus (first | (with_reducible (repeat (first | exact Take.here | apply Take.there)); done) | (repeat (first | exact Take.here | apply Take.there))))); (repeat (first | exact Takes.nil | exact Takes.self | refine takes_drop2 ?_))
  · skip
    refine c_skip ?_
    refine k_then_n ?_
    refine c_seq ?_
    have he : lenE n = 0 := Classical.byContradiction he
    have hok := lenE_ok he
    obtain ⟨n, rfl⟩ : ∃ q : Nat, n = (q : Int) := ⟨n.toNat, by omega⟩
    refine c_plain (.q 0 (.done)) (by kernel_rfl) ?_
    refine q_assign rfl rfl rfl rfl ?_
    refine r_done ?_
    refine k_then_n ?_
    refine c_seq ?_
    refine c_seq ?_
    refine c_plain (.q 0 (.done)) (by kernel_rfl) ?_
    refine q_assign rfl rfl rfl rfl ?_
    refine r_done ?_
    refine k_then_n ?_
    refine c_block ?_
    refine c_loop2 (α := Nat) (fun (j : Nat) => j ≤ m) (fun (j : Nat) => [(7, .int .i64 ((lng ((L.map (·.2.2)).take j) : Nat) : Int)), (8, .int .i64 ((j : Nat) : Int))]) (fun (j : Nat) => []) (fun (j : Nat) => m - j) [0, 1] (er := [(0, _), (1, _)]) rfl (0) ?_ (by exact ⟨rfl, rfl, trivial⟩) (by (try dsimp only); (try simp only [Nat.add_zero, Nat.zero_add]); (repeat ((with_reducible apply Takes.cons); focus (first | (with_reducible (repeat (first | exact Take.here | apply Take.there)); done) | (repeat (first | exact Take.here | apply Take.there))))); exact Takes.nil) ?_
    · exact Nat.zero_le _
    rintro j hle_j
    try simp only [List.cons_append, List.nil_append]
    refine c_seq ?_
    refine c_seq ?_
    refine c_plain (.q 0 (.q 1 (.q 2 (.q 3 (.done))))) (by kernel_rfl) ?_
    refine q_move rfl rfl rfl rfl ?_
    refine q_move rfl rfl rfl rfl ?_
    refine q_len rfl rfl rfl rfl Try.underlying23 ?_
    refine q_int rfl rfl rfl rfl rfl (b_lss _ _ _ _) ?_
    refine r_done ?_
    refine k_then_n ?_
    refine c_cond_p rfl (fun hlj => ?_) (fun hlj => ?_)
    · skip
      refine c_skip ?_
      refine k_then_n ?_
      refine c_seq ?_
      refine c_block ?_
      refine c_plain (.q 0 (.q 1 (.q 2 (.q 3 (.q 4 (.q 5 (.q 6 (.q 7 (.done))))))))) (by kernel_rfl) ?_
      refine q_move rfl rfl rfl rfl ?_
      refine q_move rfl rfl rfl rfl ?_
      refine q_move rfl rfl rfl rfl ?_
      obtain ⟨p, hp⟩ := get_lt (l := L) (i := j) (by omega)
      have hpj : (L.map (·.2.2))[j]? = some p.2.2 := by rw [List.getElem?_map, hp]; rfl
      have hpb := hb2 _ (List.mem_of_getElem? hp)
      refine q_idxR (sz := 0) (k := j) rfl rfl rfl rfl rfl Try.underlying23 Try.sizeOf24 (hr) hp encS_len (by first | rfl | omega) (by omega) ?_
      intro ib26 io26 _ hd26
      refine q_load rfl rfl rfl rfl Try.isAgg24 (by with_reducible (repeat (first | exact Take.here | apply Take.there))) (hd26 0 _ rfl) ?_
      refine q_len rfl rfl rfl rfl Try.underlying24 ?_
      refine q_max rfl rfl rfl rfl rfl ?_
      refine q_assign rfl rfl rfl rfl ?_
      refine s_eq 7 rfl (v' := .int .i64 ((lng ((L.map (·.2.2)).take (j + 1)) : Nat) : Int)) (by congr 1; rw [lng_next hpj]; omega) ?_
      refine r_done ?_
      refine s_keep [0, 1, 7, 8] (e' := [(0, _), (1, _), (7, _), (8, _)]) rfl ?_
      refine k_blk_n ?_
      refine k_then_n ?_
      refine c_plain (.q 0 (.q 1 (.q 2 (.done)))) (by kernel_rfl) ?_
      refine q_move rfl rfl rfl rfl ?_
      refine q_int rfl rfl rfl rfl rfl (b_add' _ (by (first | exact fits_i64 (by omega) (by omega) | exact fits_u64 (by omega) (by omega) | exact fits_u32 (by omega) (by omega) | exact fits_u8 (by omega) (by omega)))) ?_
      refine q_assign rfl rfl rfl rfl ?_
      refine r_done ?_
      refine k_then_n ?_
      refine loop_next (x := j) (j + 1) ?_ ?_ ?_ ?_
      · exact by show j + 1 ≤ m; omega
      · show m - (j + 1) < m - j; omega
      · exact ⟨rfl, rfl, rfl, rfl, trivial⟩
      · (try simp only [List.cons_append, List.nil_append]); (repeat ((with_reducible apply Takes.cons); focus (first | (with_reducible (repeat (first | exact Take.here | apply Take.there)); done) | (repeat (first | exact Take.here | apply Take.there))))); (repeat (first | exact Takes.nil | exact Takes.self | refine takes_drop2 ?_))
    · skip
      refine c_exit ?_
      refine k_then_exit ?_
      refine k_then_exit ?_
      refine k_blk_here ?_
      refine k_then_n ?_
      refine c_seq ?_
      refine c_plain (.q 0 (.done)) (by kernel_rfl) ?_
      refine q_assign rfl rfl rfl rfl ?_
      refine r_done ?_
      refine s_keep [0, 1, 7, 9] (e' := [(0, _), (1, _), (7, _), (9, _)]) rfl ?_
      refine k_then_n ?_
      refine c_seq ?_
      refine c_seq ?_
      refine c_plain (.q 0 (.done)) (by kernel_rfl) ?_
      refine q_assign rfl rfl rfl rfl ?_
      refine r_done ?_
      refine k_then_n ?_
      refine c_block ?_
      refine s_heap (fun _ h => own_nil (sz := 1) (enc := encW) h) ?_
      obtain rfl : j = m := by omega
      refine s_eq 7 rfl (v' := .int .i64 ((lng (L.map (·.2.2)) : Nat) : Int)) (by rw [List.take_of_length_le (by omega)]) ?_
      refine c_loop2 (α := Nat × Option Addr × Nat × List Int) (fun (x_ : Nat × Option Addr × Nat × List Int) => match x_ with | (k, ao, cp, l) => k ≤ lng (L.map (·.2.2)) ∧ l = (full (L.map (·.2.2)) k).take n) (fun (x_ : Nat × Option Addr × Nat × List Int) => match x_ with | (k, ao, cp, l) => [(9, .slice ao l.length cp), (10, .int .i64 ((k : Nat) : Int))]) (fun (x_ : Nat × Option Addr × Nat × List Int) => match x_ with | (k, ao, cp, l) => [own 1 encW ao cp l]) (fun (x_ : Nat × Option Addr × Nat × List Int) => match x_ with | (k, ao, cp, l) => lng (L.map (·.2.2)) - k) [0, 1, 7] (er := [(0, _), (1, _), (7, _)]) rfl (0, none, 0, []) ?_ (by exact ⟨rfl, rfl, trivial⟩) (by (try dsimp only); (try simp only [Nat.add_zero, Nat.zero_add]); (repeat ((with_reducible apply Takes.cons); focus (first | (with_reducible (repeat (first | exact Take.here | apply Take.there)); done) | (repeat (first | exact Take.here | apply Take.there))))); exact Takes.nil) ?_
      · exact ⟨Nat.zero_le _, by simp [full]⟩
      rintro ⟨k, ao, cp, l⟩ ⟨hk, hl⟩
      try simp only [List.cons_append, List.nil_append]
      have hln := take_le (full (L.map (·.2.2)) k) n
      rw [← hl] at hln
      refine c_seq ?_
      refine c_seq ?_
      refine c_plain (.q 0 (.q 1 (.q 2 (.q 3 (.q 4 (.q 5 (.q 6 (.q 7 (.q 8 (.done)))))))))) (by kernel_rfl) ?_
      refine q_move rfl rfl rfl rfl ?_
      refine q_move rfl rfl rfl rfl ?_
      refine q_int rfl rfl rfl rfl rfl (b_lss _ _ _ _) ?_
      refine q_move rfl rfl rfl rfl ?_
      refine s_bool_p 33 rfl (fun hkl => ?_) (fun hkl => ?_)
      · skip
        refine q_move rfl rfl rfl rfl ?_
        refine q_len rfl rfl rfl rfl Try.underlying24 ?_
        refine q_move rfl rfl rfl rfl ?_
        refine q_int rfl rfl rfl rfl rfl (b_lss _ _ _ _) ?_
        refine q_pick_t rfl rfl rfl rfl rfl ?_
        refine r_done ?_
        refine s_keep [0, 1, 7, 9, 10, 34, 35, 36, 37, 38] (e' := [(0, _), (1, _), (7, _), (9, _), (10, _), (34, _), (35, _), (36, _), (37, _), (38, _)]) rfl ?_
        refine k_then_n ?_
        refine c_cond_p rfl (fun hin => ?_) (fun hin => ?_)
        · skip
          refine c_skip ?_
          refine k_then_n ?_
          refine c_seq ?_
          refine c_block ?_
          refine c_seq ?_
          refine c_plain (.q 0 (.done)) (by kernel_rfl) ?_
          refine q_assign rfl rfl rfl rfl ?_
          refine r_done ?_
          refine k_then_n ?_
          refine c_block ?_
          refine c_loop2 (α := Nat × Option Addr × Nat × List Int) (fun (x_ : Nat × Option Addr × Nat × List Int) => match x_ with | (i, ao2, cp2, l2) => i ≤ j ∧ l2 = (mid (L.map (·.2.2)) k i).take n) (fun (x_ : Nat × Option Addr × Nat × List Int) => match x_ with | (i, ao2, cp2, l2) => [(9, .slice ao2 l2.length cp2), (11, .int .i64 ((i : Nat) : Int))]) (fun (x_ : Nat × Option Addr × Nat × List Int) => match x_ with | (i, ao2, cp2, l2) => [own 1 encW ao2 cp2 l2]) (fun (x_ : Nat × Option Addr × Nat × List Int) => match x_ with | (i, ao2, cp2, l2) => j - i) [0, 1, 7, 10, 34, 35, 36, 37] (er := [(0, _), (1, _), (7, _), (10, _), (34, _), (35, _), (36, _), (37, _)]) rfl (0, ao, cp, l) ?_ (by exact ⟨rfl, rfl, trivial⟩) (by (try dsimp only); (try simp only [Nat.add_zero, Nat.zero_add]); (repeat ((with_reducible apply Takes.cons); focus (first | (with_reducible (repeat (first | exact Take.here | apply Take.there)); done) | (repeat (first | exact Take.here | apply Take.there))))); exact Takes.nil) ?_
          · exact ⟨Nat.zero_le _, by rw [mid_zero]; exact hl⟩
          rintro ⟨i, ao2, cp2, l2⟩ ⟨hi, hl2⟩
          try simp only [List.cons_append, List.nil_append]
          have hln2 := take_le (mid (L.map (·.2.2)) k i) n
          rw [← hl2] at hln2
          refine c_seq ?_
          refine c_seq ?_
          refine c_plain (.q 0 (.q 1 (.q 2 (.q 3 (.q 4 (.q 5 (.q 6 (.q 7 (.q 8 (.q 9 (.done))))))))))) (by kernel_rfl) ?_
          refine q_move rfl rfl rfl rfl ?_
          refine q_move rfl rfl rfl rfl ?_
          refine q_len rfl rfl rfl rfl Try.underlying23 ?_
          refine q_int rfl rfl rfl rfl rfl (b_lss _ _ _ _) ?_
          refine q_move rfl rfl rfl rfl ?_
          refine s_bool_p 45 rfl (fun hij => ?_) (fun hij => ?_)
          · skip
            refine q_move rfl rfl rfl rfl ?_
            refine q_len rfl rfl rfl rfl Try.underlying24 ?_
            refine q_move rfl rfl rfl rfl ?_
            refine q_int rfl rfl rfl rfl rfl (b_lss _ _ _ _) ?_
            refine q_pick_t rfl rfl rfl rfl rfl ?_
            refine r_done ?_
            refine s_keep [0, 1, 7, 9, 10, 11, 34, 35, 36, 37, 46, 47, 48, 49, 50] (e' := [(0, _), (1, _), (7, _), (9, _), (10, _), (11, _), (34, _), (35, _), (36, _), (37, _), (46, _), (47, _), (48, _), (49, _), (50, _)]) rfl ?_
            refine k_then_n ?_
            refine c_cond_p rfl (fun hin2 => ?_) (fun hin2 => ?_)
            · skip
              refine c_skip ?_
              refine k_then_n ?_
              refine c_seq ?_
              refine c_block ?_
              refine c_seq ?_
              refine c_plain (.q 0 (.q 1 (.q 2 (.q 3 (.q 4 (.q 5 (.q 6 (.done)))))))) (by kernel_rfl) ?_
              refine q_move rfl rfl rfl rfl ?_
              refine q_move rfl rfl rfl rfl ?_
              refine q_move rfl rfl rfl rfl ?_
              obtain ⟨p, hp⟩ := get_lt (l := L) (i := i) (by omega)
              have hpj : (L.map (·.2.2))[i]? = some p.2.2 := by rw [List.getElem?_map, hp]; rfl
              have hpb := hb2 _ (List.mem_of_getElem? hp)
              refine q_idxR (sz := 0) (k := i) rfl rfl rfl rfl rfl Try.underlying23 Try.sizeOf24 (hr) hp encS_len (by first | rfl | omega) (by omega) ?_
              intro ib56 io56 _ hd56
              refine q_load rfl rfl rfl rfl Try.isAgg24 (by with_reducible (repeat (first | exact Take.here | apply Take.there))) (hd56 0 _ rfl) ?_
              refine q_len rfl rfl rfl rfl Try.underlying24 ?_
              refine q_int rfl rfl rfl rfl rfl (b_lss _ _ _ _) ?_
              refine r_done ?_
              refine s_keep [0, 1, 7, 9, 10, 11, 34, 35, 36, 37, 46, 47, 48, 49, 59] (e' := [(0, _), (1, _), (7, _), (9, _), (10, _), (11, _), (34, _), (35, _), (36, _), (37, _), (46, _), (47, _), (48, _), (49, _), (59, _)]) rfl ?_
              refine k_then_n ?_
              refine c_cond_p rfl (fun hkp => ?_) (fun hkp => ?_)
              · skip
                refine c_plain (.q 0 (.q 1 (.q 2 (.q 3 (.q 4 (.q 5 (.q 6 (.q 7 ((.l 8 [] ((.l 9 [] (.q 10 (.done)))))))))))))) (by kernel_rfl) ?_
                refine q_move rfl rfl rfl rfl ?_
                refine q_move rfl rfl rfl rfl ?_
                refine q_move rfl rfl rfl rfl ?_
                refine q_idxR (sz := 0) (k := i) rfl rfl rfl rfl rfl Try.underlying23 Try.sizeOf24 (hr) hp encS_len (by first | rfl | omega) (by omega) ?_
                intro ib63 io63 _ hd63
                refine q_load rfl rfl rfl rfl Try.isAgg24 (by with_reducible (repeat (first | exact Take.here | apply Take.there))) (hd63 0 _ rfl) ?_
                refine q_move rfl rfl rfl rfl ?_
                obtain ⟨x, hx⟩ := get_lt (l := p.2.2) (i := k) (by omega)
                refine q_idxR (sz := 0) (k := k) rfl rfl rfl rfl rfl Try.underlying24 Try.sizeOf25 ((hc _ (List.mem_of_getElem? hp))) hx encW_len (by first | rfl | omega) (by omega) ?_
                intro ib66 io66 _ hd66
                refine q_load rfl rfl rfl rfl Try.isAgg25 (by with_reducible (repeat (first | exact Take.here | apply Take.there))) (hd66 0 _ rfl) ?_
                refine l_buildSlice rfl rfl rfl rfl (run_build1 (us := [_]) Try.underlying24 Try.sizeOf25 rfl Try.zeroValue25 rfl rfl rfl) ?_
                intro b68
                refine ag_nil ?_
                refine l_append (sz := 1) (enc := encW) (xs := l2) rfl rfl rfl rfl rfl Try.underlying24 Try.typeInfo25 rfl rfl rfl (by decide) (by with_reducible (repeat (first | exact Take.here | apply Take.there))) (by with_reducible (repeat (first | exact Take.here | apply Take.there))) (by first | rfl | omega | (simp; done) | (simp; omega)) (ys := [x]) (rds_some rdn_cells) (by rfl) (by first | rfl | omega) (encW_len) (encW_one) (by omega) (by show _ * 4 ≤ _; omega) ?_
                intro ao69 cp69
                refine ag_nil ?_
                refine q_assign rfl rfl rfl rfl ?_
                refine r_done ?_
                refine s_keep [0, 1, 7, 9, 10, 11, 34, 35, 36, 37, 46, 47, 48, 49] (e' := [(0, _), (1, _), (7, _), (9, _), (10, _), (11, _), (34, _), (35, _), (36, _), (37, _), (46, _), (47, _), (48, _), (49, _)]) rfl ?_
                refine k_blk_n ?_
                refine k_then_n ?_
                refine c_plain (.q 0 (.q 1 (.q 2 (.done)))) (by kernel_rfl) ?_
                refine q_move rfl rfl rfl rfl ?_
                refine q_int rfl rfl rfl rfl rfl (b_add' _ (by (first | exact fits_i64 (by omega) (by omega) | exact fits_u64 (by omega) (by omega) | exact fits_u32 (by omega) (by omega) | exact fits_u8 (by omega) (by omega)))) ?_
                refine q_assign rfl rfl rfl rfl ?_
                refine r_done ?_
                refine k_then_n ?_
                refine s_eq 9 rfl (v' := .slice ao69 (l2 ++ [x]).length cp69) (by first | rfl | (congr 1; done) | (congr 1 <;> first | rfl | omega | (simp only [List.length_append, List.length_singleton]; done) | (simp only [List.length_append, List.length_singleton]; omega) | (simp [List.length_append, List.length_singleton]; done) | (simp [List.length_append, List.length_singleton]; omega))) ?_
                refine loop_next (x := (i, ao2, cp2, l2)) ((i + 1, ao69, cp69, l2 ++ [x])) ?_ ?_ ?_ ?_
                · try dsimp only
                  exact ⟨by omega, mid_in hpj hx hl2 (by omega)⟩
                · show j - (i + 1) < j - i; omega
                · exact ⟨rfl, rfl, rfl, rfl, rfl, rfl, rfl, rfl, rfl, rfl, trivial⟩
                · (try simp only [List.cons_append, List.nil_append]); (repeat ((with_reducible apply Takes.cons); focus (first | (with_reducible (repeat (first | exact Take.here | apply Take.there)); done) | (repeat (first | exact Take.here | apply Take.there))))); (repeat (first | exact Takes.nil | exact Takes.self | refine takes_drop2 ?_))
              · skip
                refine c_skip ?_
                refine k_blk_n ?_
                refine k_then_n ?_
                refine c_plain (.q 0 (.q 1 (.q 2 (.done)))) (by kernel_rfl) ?_
                refine q_move rfl rfl rfl rfl ?_
                refine q_int rfl rfl rfl rfl rfl (b_add' _ (by (first | exact fits_i64 (by omega) (by omega) | exact fits_u64 (by omega) (by omega) | exact fits_u32 (by omega) (by omega) | exact fits_u8 (by omega) (by omega)))) ?_
                refine q_assign rfl rfl rfl rfl ?_
                refine r_done ?_
                refine k_then_n ?_
                refine loop_next (x := (i, ao2, cp2, l2)) ((i + 1, ao2, cp2, l2)) ?_ ?_ ?_ ?_
                · try dsimp only
                  exact ⟨by omega, mid_out hpj hl2 (by omega)⟩
                · show j - (i + 1) < j - i; omega
                · exact ⟨rfl, rfl, rfl, rfl, rfl, rfl, rfl, rfl, rfl, rfl, trivial⟩
                · (try simp only [List.cons_append, List.nil_append]); (repeat ((with_reducible apply Takes.cons); focus (first | (with_reducible (repeat (first | exact Take.here | apply Take.there)); done) | (repeat (first | exact Take.here | apply Take.there))))); (repeat (first | exact Takes.nil | exact Takes.self | refine takes_drop2 ?_))
            · skip
              refine c_exit ?_
              refine k_then_exit ?_
              refine k_then_exit ?_
              refine k_blk_here ?_
              refine k_blk_n ?_
              refine k_then_n ?_
              refine c_plain (.q 0 (.q 1 (.q 2 (.done)))) (by kernel_rfl) ?_
              refine q_move rfl rfl rfl rfl ?_
              refine q_int rfl rfl rfl rfl rfl (b_add' _ (by (first | exact fits_i64 (by omega) (by omega) | exact fits_u64 (by omega) (by omega) | exact fits_u32 (by omega) (by omega) | exact fits_u8 (by omega) (by omega)))) ?_
              refine q_assign rfl rfl rfl rfl ?_
              refine r_done ?_
              refine s_keep [0, 1, 7, 9, 10, 34, 35, 36, 37, 46, 47, 48, 49] (e' := [(0, _), (1, _), (7, _), (9, _), (10, _), (34, _), (35, _), (36, _), (37, _), (46, _), (47, _), (48, _), (49, _)]) rfl ?_
              refine k_then_n ?_
              refine loop_next (x := (k, ao, cp, l)) ((k + 1, ao2, cp2, l2)) ?_ ?_ ?_ ?_
              · try dsimp only
                exact ⟨by omega, mid_last (j := j) hl2 (by omega) (by omega)⟩
              · show lng (L.map (·.2.2)) - (k + 1) < lng (L.map (·.2.2)) - k; omega
              · exact ⟨rfl, rfl, rfl, rfl, rfl, trivial⟩
              · (try simp only [List.cons_append, List.nil_append]); (repeat ((with_reducible apply Takes.cons); focus (first | (with_reducible (repeat (first | exact Take.here | apply Take.there)); done) | (repeat (first | exact Take.here | apply Take.there))))); (repeat (first | exact Takes.nil | exact Takes.self | refine takes_drop2 ?_))
          · skip
            refine q_skip rfl rfl rfl rfl ?_
            refine q_skip rfl rfl rfl rfl ?_
            refine q_skip rfl rfl rfl rfl ?_
            refine q_skip rfl rfl rfl rfl ?_
            refine q_pick_f rfl rfl rfl rfl rfl ?_
            refine r_done ?_
            refine s_keep [0, 1, 7, 9, 10, 11, 34, 35, 36, 37, 46, 47, 48, 49, 50] (e' := [(0, _), (1, _), (7, _), (9, _), (10, _), (11, _), (34, _), (35, _), (36, _), (37, _), (46, _), (47, _), (48, _), (49, _), (50, _)]) rfl ?_
            refine k_then_n ?_
            refine c_cond_f rfl ?_
            refine c_exit ?_
            refine k_then_exit ?_
            refine k_then_exit ?_
            refine k_blk_here ?_
            refine k_blk_n ?_
            refine k_then_n ?_
            refine c_plain (.q 0 (.q 1 (.q 2 (.done)))) (by kernel_rfl) ?_
            refine q_move rfl rfl rfl rfl ?_
            refine q_int rfl rfl rfl rfl rfl (b_add' _ (by (first | exact fits_i64 (by omega) (by omega) | exact fits_u64 (by omega) (by omega) | exact fits_u32 (by omega) (by omega) | exact fits_u8 (by omega) (by omega)))) ?_
            refine q_assign rfl rfl rfl rfl ?_
            refine r_done ?_
            refine s_keep [0, 1, 7, 9, 10, 34, 35, 36, 37, 46, 47, 48, 49] (e' := [(0, _), (1, _), (7, _), (9, _), (10, _), (34, _), (35, _), (36, _), (37, _), (46, _), (47, _), (48, _), (49, _)]) rfl ?_
            refine k_then_n ?_
            refine loop_next (x := (k, ao, cp, l)) ((k + 1, ao2, cp2, l2)) ?_ ?_ ?_ ?_
            · try dsimp only
              exact ⟨by omega, mid_last (j := j) hl2 (by omega) (by omega)⟩
            · show lng (L.map (·.2.2)) - (k + 1) < lng (L.map (·.2.2)) - k; omega
            · exact ⟨rfl, rfl, rfl, rfl, rfl, trivial⟩
            · (try simp only [List.cons_append, List.nil_append]); (repeat ((with_reducible apply Takes.cons); focus (first | (with_reducible (repeat (first | exact Take.here | apply Take.there)); done) | (repeat (first | exact Take.here | apply Take.there))))); (repeat (first | exact Takes.nil | exact Takes.self | refine takes_drop2 ?_))
        · skip
          refine c_exit ?_
          refine k_then_exit ?_
          refine k_then_exit ?_
          refine k_blk_here ?_
          refine k_then_n ?_
          refine c_seq ?_
          refine c_block ?_
          have hl := hl.trans (full_end (n := n) (k := k) (by first | exact .inr (.inr (by omega)) | exact .inl (by rw [hl, List.length_take] at hin; omega)))
          refine c_loop2 (α := Nat × Option Addr × Nat) (fun (x_ : Nat × Option Addr × Nat) => match x_ with | (q, ao, cp) => l.length + q ≤ n) (fun (x_ : Nat × Option Addr × Nat) => match x_ with | (q, ao, cp) => [(9, .slice ao (l.length + q) cp)]) (fun (x_ : Nat × Option Addr × Nat) => match x_ with | (q, ao, cp) => [own 1 encW ao cp (l ++ List.replicate q 0)]) (fun (x_ : Nat × Option Addr × Nat) => match x_ with | (q, ao, cp) => n - q) [0] (er := [(0, _)]) rfl (0, ao, cp) ?_ (by exact ⟨rfl, trivial⟩) (by dsimp only; rw [List.replicate_zero, List.append_nil]; (repeat ((with_reducible apply Takes.cons); focus (first | (with_reducible (repeat (first | exact Take.here | apply Take.there)); done) | (repeat (first | exact Take.here | apply Take.there))))); exact Takes.nil) ?_
          · show l.length + 0 ≤ n; omega
          rintro ⟨q, ao, cp⟩ hq
          try simp only [List.cons_append, List.nil_append]
          refine c_seq ?_
          refine c_seq ?_
          refine c_plain (.q 0 (.q 1 (.q 2 (.q 3 (.done))))) (by kernel_rfl) ?_
          refine q_move rfl rfl rfl rfl ?_
          refine q_len rfl rfl rfl rfl Try.underlying24 ?_
          refine q_move rfl rfl rfl rfl ?_
          refine q_int rfl rfl rfl rfl rfl (b_lss _ _ _ _) ?_
          refine r_done ?_
          refine k_then_n ?_
          refine c_cond_p rfl (fun hlq => ?_) (fun hlq => ?_)
          · skip
            refine c_skip ?_
            refine k_then_n ?_
            refine c_block ?_
            refine c_plain (.q 0 ((.l 1 [] ((.l 2 [] (.q 3 (.done))))))) (by kernel_rfl) ?_
            refine q_move rfl rfl rfl rfl ?_
            refine l_buildSlice rfl rfl rfl rfl (run_build1 (us := [_]) Try.underlying24 Try.sizeOf25 rfl Try.zeroValue25 rfl rfl rfl) ?_
            intro b75
            refine ag_nil ?_
            refine l_append (sz := 1) (enc := encW) (xs := (l ++ List.replicate q 0)) rfl rfl rfl rfl rfl Try.underlying24 Try.typeInfo25 rfl rfl rfl (by decide) (by with_reducible (repeat (first | exact Take.here | apply Take.there))) (by with_reducible (repeat (first | exact Take.here | apply Take.there))) (by rw [List.length_append, List.length_replicate]) (ys := [0]) (rds_some rdn_cells) (by rfl) (by first | rfl | omega) (encW_len) (encW_one) (by omega) (by show _ * 4 ≤ _; omega) ?_
            intro ao76 cp76
            refine ag_nil ?_
            refine q_assign rfl rfl rfl rfl ?_
            refine r_done ?_
            refine s_keep [0, 9] (e' := [(0, _), (9, _)]) rfl ?_
            refine k_blk_n ?_
            refine k_then_n ?_
            rw [List.append_assoc, show List.replicate q (0 : Int) ++ [0] = List.replicate (q + 1) 0 from by rw [List.replicate_succ']]
            refine s_eq 9 rfl (v' := .slice ao76 (l.length + (q + 1)) cp76) (by first | rfl | (congr 1; done) | (congr 1 <;> first | rfl | omega | (simp only [List.length_append, List.length_singleton]; done) | (simp only [List.length_append, List.length_singleton]; omega) | (simp [List.length_append, List.length_singleton]; done) | (simp [List.length_append, List.length_singleton]; omega))) ?_
            refine loop_next (x := (q, ao, cp)) ((q + 1, ao76, cp76)) ?_ ?_ ?_ ?_
            · try dsimp only
              show l.length + (q + 1) ≤ n; omega
            · show n - (q + 1) < n - q; omega
            · exact ⟨rfl, rfl, trivial⟩
            · (try simp only [List.cons_append, List.nil_append]); (repeat ((with_reducible apply Takes.cons); focus (first | (with_reducible (repeat (first | exact Take.here | apply Take.there)); done) | (repeat (first | exact Take.here | apply Take.there))))); (repeat (first | exact Takes.nil | exact Takes.self | refine takes_drop2 ?_))
          · skip
            refine c_exit ?_
            refine k_then_exit ?_
            refine k_then_exit ?_
            refine k_blk_here ?_
            refine k_then_n ?_
            refine c_seq ?_
            refine c_plain (.q 0 (.q 1 (.q 2 (.done)))) (by kernel_rfl) ?_
            refine q_move rfl rfl rfl rfl ?_
            refine q_assign rfl rfl rfl rfl ?_
            refine q_assign rfl rfl rfl rfl ?_
            refine r_done ?_
            refine s_keep [4, 5] (e' := [(4, _), (5, _)]) rfl ?_
            refine k_then_n ?_
            refine c_ret ?_
            obtain rfl : q = n - l.length := by omega
            refine ret2 rfl rfl rfl ((ao, cp)) (by simp only [tnL, he, if_true, Int.toNat_natCast]; rw [← trn_of hl, List.length_append, List.length_replicate]) (by trivial) ?_
            rw [show tnL (n : Int) (L.map (·.2.2)) = l ++ List.replicate (n - l.length) 0 from by simp only [tnL, he, if_true, Int.toNat_natCast]; rw [← trn_of hl]]
            (repeat ((with_reducible apply Takes.cons); focus (first | (with_reducible (repeat (first | exact Take.here | apply Take.there)); done) | (repeat (first | exact Take.here | apply Take.there))))); (repeat (first | exact Takes.nil | exact Takes.self | refine takes_drop2 ?_))
      · skip
        refine q_skip rfl rfl rfl rfl ?_
        refine q_skip rfl rfl rfl rfl ?_
        refine q_skip rfl rfl rfl rfl ?_
        refine q_skip rfl rfl rfl rfl ?_
        refine q_pick_f rfl rfl rfl rfl rfl ?_
        refine r_done ?_
        refine s_keep [0, 1, 7, 9, 10, 34, 35, 36, 37, 38] (e' := [(0, _), (1, _), (7, _), (9, _), (10, _), (34, _), (35, _), (36, _), (37, _), (38, _)]) rfl ?_
        refine k_then_n ?_
        refine c_cond_f rfl ?_
        refine c_exit ?_
        refine k_then_exit ?_
        refine k_then_exit ?_
        refine k_blk_here ?_
        refine k_then_n ?_
        refine c_seq ?_
        refine c_block ?_
        have hl := hl.trans (full_end (n := n) (k := k) (by first | exact .inr (.inr (by omega)) | exact .inl (by rw [hl, List.length_take] at hin; omega)))
        refine c_loop2 (α := Nat × Option Addr × Nat) (fun (x_ : Nat × Option Addr × Nat) => match x_ with | (q, ao, cp) => l.length + q ≤ n) (fun (x_ : Nat × Option Addr × Nat) => match x_ with | (q, ao, cp) => [(9, .slice ao (l.length + q) cp)]) (fun (x_ : Nat × Option Addr × Nat) => match x_ with | (q, ao, cp) => [own 1 encW ao cp (l ++ List.replicate q 0)]) (fun (x_ : Nat × Option Addr × Nat) => match x_ with | (q, ao, cp) => n - q) [0] (er := [(0, _)]) rfl (0, ao, cp) ?_ (by exact ⟨rfl, trivial⟩) (by dsimp only; rw [List.replicate_zero, List.append_nil]; (repeat ((with_reducible apply Takes.cons); focus (first | (with_reducible (repeat (first | exact Take.here | apply Take.there)); done) | (repeat (first | exact Take.here | apply Take.there))))); exact Takes.nil) ?_
        · show l.length + 0 ≤ n; omega
        rintro ⟨q, ao, cp⟩ hq
        try simp only [List.cons_append, List.nil_append]
        refine c_seq ?_
        refine c_seq ?_
        refine c_plain (.q 0 (.q 1 (.q 2 (.q 3 (.done))))) (by kernel_rfl) ?_
        refine q_move rfl rfl rfl rfl ?_
        refine q_len rfl rfl rfl rfl Try.underlying24 ?_
        refine q_move rfl rfl rfl rfl ?_
        refine q_int rfl rfl rfl rfl rfl (b_lss _ _ _ _) ?_
        refine r_done ?_
        refine k_then_n ?_
        refine c_cond_p rfl (fun hlq => ?_) (fun hlq => ?_)
        · skip
          refine c_skip ?_
          refine k_then_n ?_
          refine c_block ?_
          refine c_plain (.q 0 ((.l 1 [] ((.l 2 [] (.q 3 (.done))))))) (by kernel_rfl) ?_
          refine q_move rfl rfl rfl rfl ?_
          refine l_buildSlice rfl rfl rfl rfl (run_build1 (us := [_]) Try.underlying24 Try.sizeOf25 rfl Try.zeroValue25 rfl rfl rfl) ?_
          intro b75
          refine ag_nil ?_
          refine l_append (sz := 1) (enc := encW) (xs := (l ++ List.replicate q 0)) rfl rfl rfl rfl rfl Try.underlying24 Try.typeInfo25 rfl rfl rfl (by decide) (by with_reducible (repeat (first | exact Take.here | apply Take.there))) (by with_reducible (repeat (first | exact Take.here | apply Take.there))) (by rw [List.length_append, List.length_replicate]) (ys := [0]) (rds_some rdn_cells) (by rfl) (by first | rfl | omega) (encW_len) (encW_one) (by omega) (by show _ * 4 ≤ _; omega) ?_
          intro ao76 cp76
          refine ag_nil ?_
          refine q_assign rfl rfl rfl rfl ?_
          refine r_done ?_
          refine s_keep [0, 9] (e' := [(0, _), (9, _)]) rfl ?_
          refine k_blk_n ?_
          refine k_then_n ?_
          rw [List.append_assoc, show List.replicate q (0 : Int) ++ [0] = List.replicate (q + 1) 0 from by rw [List.replicate_succ']]
          refine s_eq 9 rfl (v' := .slice ao76 (l.length + (q + 1)) cp76) (by first | rfl | (congr 1; done) | (congr 1 <;> first | rfl | omega | (simp only [List.length_append, List.length_singleton]; done) | (simp only [List.length_append, List.length_singleton]; omega) | (simp [List.length_append, List.length_singleton]; done) | (simp [List.length_append, List.length_singleton]; omega))) ?_
          refine loop_next (x := (q, ao, cp)) ((q + 1, ao76, cp76)) ?_ ?_ ?_ ?_
          · try dsimp only
            show l.length + (q + 1) ≤ n; omega
          · show n - (q + 1) < n - q; omega
          · exact ⟨rfl, rfl, trivial⟩
          · (try simp only [List.cons_append, List.nil_append]); (repeat ((with_reducible apply Takes.cons); focus (first | (with_reducible (repeat (first | exact Take.here | apply Take.there)); done) | (repeat (first | exact Take.here | apply Take.there))))); (repeat (first | exact Takes.nil | exact Takes.self | refine takes_drop2 ?_))
        · skip
          refine c_exit ?_
          refine k_then_exit ?_
          refine k_then_exit ?_
          refine k_blk_here ?_
          refine k_then_n ?_
          refine c_seq ?_
          refine c_plain (.q 0 (.q 1 (.q 2 (.done)))) (by kernel_rfl) ?_
          refine q_move rfl rfl rfl rfl ?_
          refine q_assign rfl rfl rfl rfl ?_
          refine q_assign rfl rfl rfl rfl ?_
          refine r_done ?_
          refine s_keep [4, 5] (e' := [(4, _), (5, _)]) rfl ?_
          refine k_then_n ?_
          refine c_ret ?_
          obtain rfl : q = n - l.length := by omega
          refine ret2 rfl rfl rfl ((ao, cp)) (by simp only [tnL, he, if_true, Int.toNat_natCast]; rw [← trn_of hl, List.length_append, List.length_replicate]) (by trivial) ?_
          rw [show tnL (n : Int) (L.map (·.2.2)) = l ++ List.replicate (n - l.length) 0 from by simp only [tnL, he, if_true, Int.toNat_natCast]; rw [← trn_of hl]]
          (repeat ((with_reducible apply Takes.cons); focus (first | (with_reducible (repeat (first | exact Take.here | apply Take.there)); done) | (repeat (first | exact Take.here | apply Take.there))))); (repeat (first | exact Takes.nil | exact Takes.self | refine takes_drop2 ?_))
end Go.Ab.Sc
