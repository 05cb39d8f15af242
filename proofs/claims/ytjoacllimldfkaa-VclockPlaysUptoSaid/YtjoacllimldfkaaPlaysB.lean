/- What the law Plays rests on, part 2 of 5. -/
import Derived.Test.YtjoacllimldfkaaPlaysA
import Derived.Test.YtjoacllimldfkaaProg
import Derived.Laws.Cells
import Derived.ControlIn
import Derived.MapKept
import Derived.Laws.Externs
import Derived.Laws.IdiomRangeMap
import Derived.LaidEqlPtr
set_option linter.unusedVariables false
set_option linter.unusedSimpArgs false
set_option maxRecDepth 100000
namespace Go.Ab.Vc
open Go Go.Proofs Go.Ab
def encU (z : Int) : List Value := [.int .u64 z]
theorem encU_len : ∀ x, (encU x).length = 1 := fun _ => rfl
theorem encU_one : ∀ x, (encU x).all Value.oneCell' = true := fun _ => rfl
abbrev maxC : Int := 281474976710655
/-- How long a list is without the zeros at its end. -/
def trN (l : List Int) : Nat → Nat
  | 0 => 0
  | n + 1 => if l.getD n 0 = 0 then trN l n else n + 1
def tr (l : List Int) : List Int := l.take (trN l l.length)
theorem trN_le (l : List Int) : ∀ n, trN l n ≤ n
  | 0 => Nat.le_refl _
  | n + 1 => by
    unfold trN
    split
    · have := trN_le l n; omega
    · omega
theorem tr_len (l : List Int) : (tr l).length = trN l l.length := by
  rw [tr, List.length_take, Nat.min_eq_left (trN_le _ _)]
theorem tr_le (l : List Int) : (tr l).length ≤ l.length := by rw [tr_len]; exact trN_le _ _
theorem trN_z (l : List Int) : ∀ n j, trN l n ≤ j → j < n → l.getD j 0 = 0
  | 0, j, _, h => by omega
  | n + 1, j, h1, h2 => by
    unfold trN at h1
    split at h1
    · rename_i h
      by_cases hj : j = n
      · subst hj; exact h
      · exact trN_z l n j h1 (by omega)
    · omega
theorem tr_g (l : List Int) (i : Nat) : (tr l).getD i 0 = l.getD i 0 := by
  by_cases h : i < trN l l.length
  · simp only [List.getD_eq_getElem?_getD, tr]; rw [List.getElem?_take_of_lt h]
  · have h1 : (tr l).getD i 0 = 0 := by simp only [List.getD_eq_getElem?_getD]; rw [List.getElem?_eq_none (by rw [tr_len]; omega)]; rfl
    rw [h1]
    by_cases h2 : i < l.length
    · exact (trN_z l l.length i (by omega) h2).symm
    · simp only [List.getD_eq_getElem?_getD]; rw [List.getElem?_eq_none (by omega)]; rfl
/-- No zero at the end. -/
def Tr (l : List Int) : Prop := l = [] ∨ l.getD (l.length - 1) 0 ≠ 0
theorem trN_tr (l : List Int) : ∀ n, trN l n = 0 ∨ l.getD (trN l n - 1) 0 ≠ 0
  | 0 => .inl rfl
  | n + 1 => by
    unfold trN
    split
    · exact trN_tr l n
    · rename_i h; exact .inr h
theorem tr_Tr (l : List Int) : Tr (tr l) := by
  rcases trN_tr l l.length with h | h
  · exact .inl (by rw [tr, h]; rfl)
  · right; rw [tr_g, tr_len]; exact h
theorem getD_mem {l : List Int} {i : Nat} {x : Int} (h : l[i]? = some x) : l.getD i 0 = x := by simp [h]
/-- Vectors without zeros at the end are their clocks. -/
theorem Tr_ext {a b : List Int} (ha : Tr a) (hb : Tr b) (h : ∀ i, a.getD i 0 = b.getD i 0) : a = b := by
  have key : ∀ {a b : List Int}, Tr b → (∀ i, a.getD i 0 = b.getD i 0) → b.length ≤ a.length := by
    intro a b hb h
    rcases hb with hb | hb
    · subst hb; exact Nat.zero_le _
    · rcases Nat.lt_or_ge a.length b.length with h1 | h1
      · rw [← h] at hb
        simp only [List.getD_eq_getElem?_getD] at hb
        rw [List.getElem?_eq_none (by omega)] at hb
        exact absurd rfl hb
      · exact h1
  have h1 := key hb h
  have h2 := key ha fun i => (h i).symm
  apply List.ext_getElem?
  intro i
  by_cases hi : i < a.length
  · obtain ⟨x, hx⟩ := get_lt hi
    obtain ⟨y, hy⟩ := get_lt (l := b) (i := i) (by omega)
    have := h i
    rw [getD_mem hx, getD_mem hy] at this
    rw [hx, hy, this]
  · rw [List.getElem?_eq_none (by omega), List.getElem?_eq_none (by omega)]
theorem tr_fix {l : List Int} (h : Tr l) : tr l = l := Tr_ext (tr_Tr l) h (tr_g l)
/-- A vector, as it may be. -/
structure CV (l : List Int) : Prop where
  tr : Tr l
  len : l.length ≤ 65535
  rng : ∀ x ∈ l, 0 ≤ x ∧ x ≤ maxC
theorem tr_cv {l : List Int} (h : l.length ≤ 65535) (hr : ∀ x ∈ l, 0 ≤ x ∧ x ≤ maxC) : CV (tr l) := ⟨tr_Tr l, Nat.le_trans (tr_le l) h, fun x hx => hr x (List.mem_of_mem_take hx)⟩
/-- As long as m at the least. -/
def pd (l : List Int) (m : Nat) : List Int := l ++ List.replicate (m - l.length) 0
theorem pd_len (l : List Int) (m : Nat) : (pd l m).length = max l.length m := by simp [pd]; omega
theorem pd_g (l : List Int) (m i : Nat) : (pd l m).getD i 0 = l.getD i 0 := by
  simp only [List.getD_eq_getElem?_getD, pd]
  by_cases h : i < l.length
  · rw [List.getElem?_append_left h]
  · rw [List.getElem?_append_right (by omega), List.getElem?_replicate, List.getElem?_eq_none (l := l) (by omega)]
    split <;> rfl
/-- The join of two. -/
def jn (l m : List Int) : List Int := (List.range (max l.length m.length)).map fun i => max (l.getD i 0) (m.getD i 0)
theorem jn_len (l m : List Int) : (jn l m).length = max l.length m.length := by simp [jn]
theorem mem_g {l : List Int} {i : Nat} (h : i < l.length) : l.getD i 0 ∈ l := by
  obtain ⟨x, hx⟩ := get_lt h
  rw [getD_mem hx]; exact List.mem_of_getElem? hx
theorem g_rng {l : List Int} {B : Int} (hr : ∀ x ∈ l, 0 ≤ x ∧ x ≤ B) (hB : 0 ≤ B) (i : Nat) : 0 ≤ l.getD i 0 ∧ l.getD i 0 ≤ B := by
  by_cases h : i < l.length
  · exact hr _ (mem_g h)
  · have : l.getD i 0 = 0 := by simp only [List.getD_eq_getElem?_getD]; rw [List.getElem?_eq_none (by omega)]; rfl
    omega
theorem jn_g {l m : List Int} (hl : CV l) (hm : CV m) (i : Nat) : (jn l m).getD i 0 = max (l.getD i 0) (m.getD i 0) := by
  by_cases h : i < max l.length m.length
  · simp only [List.getD_eq_getElem?_getD, jn, List.getElem?_map, List.getElem?_range h, Option.map_some, Option.getD_some]
  · have h1 : ∀ q : List Int, q.length ≤ i → q.getD i 0 = 0 := fun q hq => by simp only [List.getD_eq_getElem?_getD]; rw [List.getElem?_eq_none hq]; rfl
    rw [h1 _ (by rw [jn_len]; omega), h1 l (by omega), h1 m (by omega)]; rfl
theorem jn_cv {l m : List Int} (hl : CV l) (hm : CV m) : CV (jn l m) := by
  have h1 := hl.len
  have h2 := hm.len
  refine ⟨?_, by rw [jn_len]; omega, fun x hx => ?_⟩
  · by_cases h : max l.length m.length = 0
    · exact .inl (List.eq_nil_of_length_eq_zero (by rw [jn_len]; exact h))
    · right
      rw [jn_g hl hm, jn_len]
      have a := g_rng hl.rng (by decide) (max l.length m.length - 1)
      have b := g_rng hm.rng (by decide) (max l.length m.length - 1)
      rcases Nat.le_total m.length l.length with h3 | h3
      · rcases hl.tr with e | e
        · exfalso; apply h; rw [e] at h3 ⊢; simp at h3; rw [h3]; rfl
        · rw [show max l.length m.length - 1 = l.length - 1 from by omega] at a b ⊢; omega
      · rcases hm.tr with e | e
        · exfalso; apply h; rw [e] at h3 ⊢; simp at h3; rw [h3]; rfl
        · rw [show max l.length m.length - 1 = m.length - 1 from by omega] at a b ⊢; omega
  · obtain ⟨i, -, rfl⟩ := List.mem_map.1 hx
    have a := g_rng hl.rng (by decide) i
    have b := g_rng hm.rng (by decide) i
    omega
/-- What is joined so far, up to thread i. -/
def jnI (l m : List Int) (i : Nat) : List Int := (List.range (max l.length m.length)).map fun k => if k < i then max (l.getD k 0) (m.getD k 0) else l.getD k 0
theorem jnI_len (l m : List Int) (i : Nat) : (jnI l m i).length = max l.length m.length := by simp [jnI]
theorem jnI_get {l m : List Int} {i k : Nat} (h : k < max l.length m.length) : (jnI l m i)[k]? = some (if k < i then max (l.getD k 0) (m.getD k 0) else l.getD k 0) := by
  simp only [jnI, List.getElem?_map, List.getElem?_range h, Option.map_some]
theorem jnI_zero (l m : List Int) : jnI l m 0 = pd l m.length := by
  apply List.ext_getElem?
  intro k
  by_cases h : k < max l.length m.length
  · rw [jnI_get h, if_neg (by omega)]
    obtain ⟨x, hx⟩ := get_lt (l := pd l m.length) (i := k) (by rw [pd_len]; exact h)
    rw [hx, ← pd_g l m.length k, getD_mem hx]
  · rw [List.getElem?_eq_none (by rw [jnI_len]; omega), List.getElem?_eq_none (by rw [pd_len]; omega)]
theorem jnI_next {l m : List Int} {i : Nat} {y : Int} (hy : m[i]? = some y) : (jnI l m i).set i (max (l.getD i 0) y) = jnI l m (i + 1) := by
  have hi := (List.getElem?_eq_some_iff.1 hy).1
  apply List.ext_getElem?
  intro k
  by_cases h : k < max l.length m.length
  · by_cases hk : k = i
    · subst hk
      rw [List.getElem?_set_self (by rw [jnI_len]; omega), jnI_get h, if_pos (by omega), getD_mem hy]
    · rw [List.getElem?_set_ne (Ne.symm hk), jnI_get h, jnI_get h]
      by_cases h2 : k < i
      · rw [if_pos h2, if_pos (by omega)]
      · rw [if_neg h2, if_neg (by omega)]
  · rw [List.getElem?_eq_none (by rw [List.length_set, jnI_len]; omega), List.getElem?_eq_none (by rw [jnI_len]; omega)]
theorem jnI_end {l m : List Int} (hl : CV l) {i : Nat} (h : m.length ≤ i) : jnI l m i = jn l m := by
  apply List.ext_getElem?
  intro k
  by_cases hk : k < max l.length m.length
  · rw [jnI_get hk, jn, List.getElem?_map, List.getElem?_range hk, Option.map_some]
    by_cases h2 : k < i
    · rw [if_pos h2]
    · rw [if_neg h2]
      have h3 : m.getD k 0 = 0 := by simp only [List.getD_eq_getElem?_getD]; rw [List.getElem?_eq_none (by omega)]; rfl
      have := g_rng hl.rng (by decide) k
      rw [h3, Int.max_eq_left this.1]
  · rw [List.getElem?_eq_none (by rw [jnI_len]; omega), List.getElem?_eq_none (by rw [jn_len]; omega)]
/-- A vector somewhere: where, its list's place and room, its clocks. -/
abbrev K := Nat × Option Addr × Nat × List Int
abbrev kf (x : K) : HProp := Bun [cells x.1 0 [.slice x.2.1 x.2.2.2.length x.2.2.1], own 1 encU x.2.1 x.2.2.1 x.2.2.2]
def encP (x : K) : List Value := [.pointer (some ⟨x.1, 0, none⟩)]
theorem encP_len : ∀ x, (encP x).length = 1 := fun _ => rfl
def jnA (l : List Int) (os : List K) : List Int := os.foldl (fun l x => jn l x.2.2.2) l
theorem jnA_next {l : List Int} {os : List K} {i : Nat} {x : K} (h : os[i]? = some x) : jnA l (os.take (i + 1)) = jn (jnA l (os.take i)) x.2.2.2 := by
  rw [List.take_add_one, h, jnA, jnA, List.foldl_append]; rfl
/-- Is each clock at most the other's? -/
def LeqL (l m : List Int) : Prop := l.length ≤ m.length ∧ ∀ i, i < l.length → l.getD i 0 ≤ m.getD i 0
instance (l m : List Int) : Decidable (LeqL l m) := inferInstanceAs (Decidable (_ ∧ ∀ i, i < l.length → _))
theorem same_spec (xs ys : List Int) (ao bo : Option Addr) (n m c d : Nat) (A : HProp) (hn : xs.length = n) (hr : RdS A ao (xs.flatMap encU)) (hm : ys.length = m) (hr2 : RdS A bo (ys.flatMap encU)) (hb : n ≤ 4000000000000) : Spec Try.prog 17 [.slice ao n c, .slice bo m d] [A] (fun (_ : Unit) => .bool (decide (xs = ys))) (fun _ => True) (fun _ => [A]) := by
 refine spec_mk (n := 26) Try.func17 rfl rfl rfl ?_
 intro Γ w0
 simp only [argE, List.cons_append, List.nil_append, Nat.zero_add, Nat.reduceAdd]
 refine c_seq (c_plain (.q 0 (.done)) (by kernel_rfl) ?_)
 refine q_assign rfl rfl rfl rfl (r_done (k_then_n (c_seq (c_seq (c_plain (.q 0 (.q 1 (.q 2 (.q 3 (.q 4 (.done)))))) (by kernel_rfl) ?_)))))
 refine q_move rfl rfl rfl rfl (q_len rfl rfl rfl rfl Try.underlying23 ?_)
 refine q_move rfl rfl rfl rfl (q_len rfl rfl rfl rfl Try.underlying23 ?_)
 refine q_int rfl rfl rfl rfl rfl (b_neq _ _ _ _) ?_
 refine r_done (s_keep [0, 1, 10] (e' := [(0, _), (1, _), (10, _)]) rfl ?_)
 refine k_then_n ?_
 refine c_cond_p rfl (fun hne => ?_) (fun hne => ?_)
 ·
  refine c_seq (c_plain (.q 0 (.done)) (by kernel_rfl) ?_)
  refine q_assign rfl rfl rfl rfl (r_done (k_then_n (c_ret (k_then_ret (ret1 rfl rfl (()) (by congr 1; symm; simp only [decide_eq_false_iff_not]; intro e; rw [e] at hn; omega) (by trivial) ?_)))))
  exact Tf
 refine c_skip (k_then_n (c_seq (c_seq (c_plain (.q 0 (.done)) (by kernel_rfl) ?_))))
 refine q_assign rfl rfl rfl rfl (r_done (k_then_n (c_block ?_)))
 have hnm : n = m := by omega
 subst hnm
 refine c_loop2 (α := Nat) (fun (i : Nat) => i ≤ n ∧ (xs.take i = ys.take i)) (fun (i : Nat) => [(5, .int .i64 ((i : Nat) : Int))]) (fun (i : Nat) => []) (fun (i : Nat) => n - i) [0, 1] (er := [(0, _), (1, _)]) rfl (0) ?_ (by exact ⟨rfl, trivial⟩) (by (try dsimp only); (try simp only [Nat.add_zero, Nat.zero_add]); (repeat ((with_reducible apply Z2); focus (first | (with_reducible (repeat (first | exact Z0 | apply Z1)); done) | (repeat (first | exact Z0 | apply Z1))))); exact Z3) ?_
 · exact ⟨Nat.zero_le _, rfl⟩
 rintro i ⟨hle_i, ht⟩
 try simp only [List.cons_append, List.nil_append]
 refine c_seq (c_seq (c_plain (.q 0 (.q 1 (.q 2 (.q 3 (.done))))) (by kernel_rfl) ?_))
 refine q_move rfl rfl rfl rfl (q_move rfl rfl rfl rfl (q_len rfl rfl rfl rfl Try.underlying23 ?_))
 refine q_int rfl rfl rfl rfl rfl (b_lss _ _ _ _) ?_
 refine r_done (k_then_n ?_)
 refine c_cond_p rfl (fun hlt => ?_) (fun hlt => ?_)
 ·
  refine c_skip (k_then_n (c_seq (c_block (c_seq (c_draw rfl (.q 0 (.q 1 (.q 2 (.q 3 (.q 4 (.q 5 (.q 6 (.q 7 (.q 8 (.done)))))))))) (by kernel_rfl) ?_)))))
  refine q_move rfl rfl rfl rfl (q_move rfl rfl rfl rfl ?_)
  obtain ⟨x, hx⟩ := get_lt (l := xs) (i := i) (by first | omega | (simp; done) | (simp; omega))
  refine q_idxR (sz := 0) (k := i) rfl rfl rfl rfl rfl Try.underlying23 Try.sizeOf30 (hr) hx encU_len (by first | rfl | omega) (by omega) ?_
  intro ib19 io19 _ hd19
  refine q_load rfl rfl rfl rfl Try.isAgg30 Tk (hd19 0 (.int .u64 x) rfl) ?_
  refine q_move rfl rfl rfl rfl (q_move rfl rfl rfl rfl ?_)
  obtain ⟨y, hy⟩ := get_lt (l := ys) (i := i) (by first | omega | (simp; done) | (simp; omega))
  refine q_idxR (sz := 0) (k := i) rfl rfl rfl rfl rfl Try.underlying23 Try.sizeOf30 (hr2) hy encU_len (by first | rfl | omega) (by omega) ?_
  intro ib23 io23 _ hd23
  refine q_load rfl rfl rfl rfl Try.isAgg30 Tk (hd23 0 (.int .u64 y) rfl) ?_
  refine q_int rfl rfl rfl rfl rfl (b_neq _ _ _ _) ?_
  refine r_done (s_keep [0, 1, 5, 25] (e' := [(0, _), (1, _), (5, _), (25, _)]) rfl ?_)
  refine k_then_n ?_
  refine c_cond_p rfl (fun hxy => ?_) (fun hxy => ?_)
  ·
   refine c_seq (c_plain (.q 0 (.done)) (by kernel_rfl) ?_)
   refine q_assign rfl rfl rfl rfl (r_done (s_keep [4] (e' := [(4, _)]) rfl ?_))
   refine k_then_n (c_ret (k_blk_ret (k_then_ret (k_then_ret (k_blk_ret (k_then_ret (ret1 rfl rfl (()) (by congr 1; symm; simp only [decide_eq_false_iff_not]; intro e; rw [e, hy] at hx; cases hx; exact hxy rfl) (by trivial) ?_)))))))
   exact Tf
  have hxy : x = y := Classical.byContradiction hxy
  refine c_skip (k_blk_n (k_then_n (c_plain (.q 0 (.q 1 (.q 2 (.done)))) (by kernel_rfl) ?_)))
  refine q_move rfl rfl rfl rfl (q_int rfl rfl rfl rfl rfl (b_add' _ (by exact fits_i64 (by omega) (by omega))) ?_)
  refine q_assign rfl rfl rfl rfl (r_done (k_then_n ?_))
  refine loop_next (x := i) (i + 1) ?_ ?_ ?_ ?_
  · exact ⟨by omega, by rw [List.take_add_one, List.take_add_one, hx, hy, ht, hxy]⟩
  · show n - (i + 1) < n - i; omega
  · exact ⟨rfl, rfl, rfl, trivial⟩
  · (try simp only [List.cons_append, List.nil_append]); exact Tf
 refine c_exit (k_then_exit (k_then_exit (k_blk_here (k_then_n (c_seq (c_plain (.q 0 (.done)) (by kernel_rfl) ?_))))))
 refine q_assign rfl rfl rfl rfl (r_done (s_keep [4] (e' := [(4, _)]) rfl ?_))
 refine k_then_n (c_ret (ret1 rfl rfl (()) (by congr 1; symm; simp only [decide_eq_true_eq]; obtain rfl : i = n := (by omega); rw [List.take_of_length_le (by omega), List.take_of_length_le (by omega)] at ht; exact ht) (by trivial) ?_))
 exact Tf
theorem rds_nil {α : Type} {A : HProp} {ao : Option Addr} {sz : Nat} {enc : α → List Value} {xs : List α} (h : RdS A ao (xs.flatMap enc)) (hsz : ∀ x, (enc x).length = sz + 1) (hn : ao = none) : xs = [] := by
  rcases h with h | ⟨b, o, h, -⟩
  · have := flat_len hsz xs
    rw [h, List.length_nil] at this
    have h2 : xs.length = 0 := by
      rcases Nat.mul_eq_zero.1 this.symm with h3 | h3
      · exact h3
      · omega
    exact List.eq_nil_of_length_eq_zero h2
  · rw [hn] at h; cases h
theorem clone_spec (xs : List Int) (ao : Option Addr) (n c : Nat) (A : HProp) (hn : xs.length = n) (hr : RdS A ao (xs.flatMap encU)) (hb : xs.length ≤ 4000000000000) : Spec Try.prog 41 [.slice ao n c] [A] (fun (r : Option Addr × Nat) => .slice r.1 n r.2) (fun r => True) (fun r => [A, own 1 encU r.1 r.2 xs]) := by
 refine spec_mk (n := 8) Try.func41 rfl rfl rfl ?_
 intro Γ w0
 simp only [argE, List.cons_append, List.nil_append, Nat.zero_add, Nat.reduceAdd]
 refine c_seq (c_plain (.q 0 (.done)) (by kernel_rfl) ?_)
 refine q_assign rfl rfl rfl rfl (r_done (k_then_n (c_seq (c_seq (c_plain (.q 0 (.q 1 (.done))) (by kernel_rfl) ?_)))))
 refine q_move rfl rfl rfl rfl (q_eq_nils rfl rfl rfl rfl Try.underlying23 ?_)
 refine r_done (k_then_n ?_)
 refine c_cond rfl (fun hno => ?_) (fun hno => ?_)
 ·
  try simp only [Bool.and_eq_true, Bool.or_eq_true, Bool.not_eq_true', Bool.not_eq_false', Bool.and_eq_false_iff, Bool.or_eq_false_iff, decide_eq_true_eq, decide_eq_false_iff_not] at hno
  have hx := rds_nil hr encU_len (by simpa using hno)
  subst hx
  obtain rfl : n = 0 := by simpa using hn.symm
  refine s_heap (fun _ h => own_nil (sz := 1) (enc := encU) h) ?_
  refine c_seq (c_plain (.q 0 (.done)) (by kernel_rfl) ?_)
  refine q_assign rfl rfl rfl rfl (r_done (k_then_n (c_ret (k_then_ret (ret1 rfl rfl ((none, 0)) (by first | rfl | (first | rfl | (congr 1; done) | (congr 1 <;> first | rfl | omega | (simp; done) | (simp; omega)))) (by trivial) ?_)))))
  exact Tf
 try simp only [Bool.and_eq_true, Bool.or_eq_true, Bool.not_eq_true', Bool.not_eq_false', Bool.and_eq_false_iff, Bool.or_eq_false_iff, decide_eq_true_eq, decide_eq_false_iff_not] at hno
 refine c_skip (k_then_n (c_seq (c_plain ((.l 0 [] (.q 1 ((.l 2 [] (.q 3 (.done))))))) (by kernel_rfl) ?_)))
 refine l_buildSlice0 rfl rfl rfl rfl Try.underlying23 Try.sizeOf30 ?_
 intro b5
 refine ag_nil (q_move rfl rfl rfl rfl (s_take (A := cells b5 0 []) Tk ?_))
 refine s_heap (fun _ h => own_mk (sz := 1) (enc := encU) (xs := []) (sp := []) (cap := 0) (Nat.le_refl _) rfl h) ?_
 refine l_append (sz := 1) (enc := encU) (xs := []) rfl rfl rfl rfl rfl Try.underlying23 Try.typeInfo30 rfl rfl rfl (by decide) Tk Tk (by first | rfl | omega | (simp; done) | (simp; omega)) (ys := xs) (hr) (by rfl) (by exact hn) (encU_len) (encU_one) (by omega) (by show _ * 8 ≤ _; omega) ?_
 intro ao7 cp7
 try simp only [List.nil_append]
 refine ag_nil (q_assign rfl rfl rfl rfl (r_done (s_keep [2] (e' := [(2, _)]) rfl ?_)))
 refine k_then_n (c_ret (ret1 rfl rfl ((ao7, cp7)) (by rw [Nat.zero_add]) (by trivial) ?_))
 exact Tf
theorem num_spec (z : Int) : Spec Try.prog 23 [.int .i64 z] [] (fun (_ : Unit) => .int .i64 z) (fun _ => True) (fun _ => []) := by
 refine spec_mk (n := 4) Try.func23 rfl rfl rfl ?_
 intro Γ w0
 simp only [argE, List.cons_append, List.nil_append, Nat.zero_add, Nat.reduceAdd]
 refine c_seq (c_plain (.q 0 (.done)) (by kernel_rfl) ?_)
 refine q_assign rfl rfl rfl rfl (r_done (k_then_n (c_seq (c_plain (.q 0 (.q 1 (.done))) (by kernel_rfl) ?_))))
 refine q_move rfl rfl rfl rfl (q_assign rfl rfl rfl rfl (r_done (k_then_n (c_ret (ret1 rfl rfl (()) (by first | rfl | (first | rfl | (congr 1; done) | (congr 1 <;> first | rfl | omega | (simp; done) | (simp; omega)))) (by trivial) ?_)))))
 exact Tf
theorem trim_spec (b : Nat) (l : List Int) (ao : Option Addr) (n cap : Nat) (hn : l.length = n) (hb : n ≤ 4000000000) : Spec Try.prog 44 [.pointer (some ⟨b, 0, none⟩)] [cells b 0 [.slice ao n cap], own 1 encU ao cap l] (fun (_ : Unit) => .tuple #[]) (fun _ => True) (fun _ => [cells b 0 [.slice ao (tr l).length cap], own 1 encU ao cap (tr l)]) := by
 refine spec_mk (n := 32) Try.func44 rfl rfl rfl ?_
 intro Γ w0
 simp only [argE, List.cons_append, List.nil_append, Nat.zero_add, Nat.reduceAdd]
 refine c_seq (c_plain (.q 0 (.q 1 (.q 2 (.q 3 (.q 4 (.q 5 (.done))))))) (by kernel_rfl) ?_)
 refine q_move rfl rfl rfl rfl (q_nil_p rfl rfl rfl rfl (q_field (k := 0) rfl rfl rfl rfl Try.underlying64 rfl Try.sizeOf23 rfl ?_))
 refine q_load_c (j := 0) rfl rfl rfl rfl Try.isAgg23 Tk Az (by rfl) ?_
 refine q_len rfl rfl rfl rfl Try.underlying23 ?_
 refine q_assign rfl rfl rfl rfl (r_done (s_keep [0, 2] (e' := [(0, _), (2, _)]) rfl ?_))
 refine k_then_n (c_seq (c_block ?_))
 refine c_loop2 (α := Nat) (fun (k : Nat) => trN l l.length = trN l k ∧ k ≤ n) (fun (k : Nat) => [(2, .int .i64 ((k : Nat) : Int))]) (fun (k : Nat) => []) (fun (k : Nat) => k) [0] (er := [(0, _)]) rfl (n) ?_ (by exact ⟨rfl, trivial⟩) (by (try dsimp only); (try simp only [Nat.add_zero, Nat.zero_add]); (repeat ((with_reducible apply Z2); focus (first | (with_reducible (repeat (first | exact Z0 | apply Z1)); done) | (repeat (first | exact Z0 | apply Z1))))); exact Z3) ?_
 · exact ⟨by rw [hn], Nat.le_refl _⟩
 rintro k ⟨hk, hkn⟩
 try simp only [List.cons_append, List.nil_append]
 refine c_seq (c_seq (c_plain (.q 0 (.q 1 (.q 2 (.q 3 (.q 4 (.q 5 (.q 6 (.q 7 (.q 8 (.q 9 (.q 10 (.q 11 (.q 12 (.done)))))))))))))) (by kernel_rfl) ?_))
 refine q_move rfl rfl rfl rfl (q_int rfl rfl rfl rfl rfl (b_gtr _ _ _ _) ?_)
 refine q_move rfl rfl rfl rfl ?_
 refine s_bool_p 10 rfl (fun hk0 => ?_) (fun hk0 => ?_)
 ·
  obtain ⟨k, rfl⟩ : ∃ j, k = j + 1 := ⟨k - 1, by omega⟩
  obtain ⟨x, hx⟩ := get_lt (l := l) (i := k) (by omega)
  refine q_move rfl rfl rfl rfl (q_nil_p rfl rfl rfl rfl (q_field (k := 0) rfl rfl rfl rfl Try.underlying64 rfl Try.sizeOf23 rfl ?_))
  refine q_load_c (j := 0) rfl rfl rfl rfl Try.isAgg23 Tk Az (by rfl) ?_
  refine q_move rfl rfl rfl rfl (q_int rfl rfl rfl rfl rfl (b_sub' _ (by exact fits_i64 (by omega) (by omega))) ?_)
  refine s_eq 16 rfl (v' := .int .i64 ((k : Nat) : Int)) (by congr 1; omega) ?_
  refine q_idxO (sz := 0) (k := k) (enc := encU) (xs := l) rfl rfl rfl rfl rfl Try.underlying23 Try.sizeOf30 hx (by first | rfl | omega) (by omega) Tk ?_
  intro ib17 io17 ha17 hl17 hc17
  refine q_load_O (v := (.int .u64 x)) (j := 0) (k' := k) (enc := encU) (off := io17) rfl rfl rfl rfl Try.isAgg30 ha17 encU_len hx Tk (by first | rfl | exact (Nat.add_zero _).symm | omega) (by rfl) ?_
  refine q_int rfl rfl rfl rfl rfl (b_eql _ _ _ _) ?_
  refine q_pick_t rfl rfl rfl rfl rfl (r_done (k_then_n ?_))
  refine c_cond_p rfl (fun hz => ?_) (fun hz => ?_)
  ·
   have hz2 : trN l (k + 1) = trN l k := by rw [trN, if_pos (by rw [getD_mem hx]; exact hz)]
   refine c_skip (k_then_n (c_block (c_plain (.q 0 (.q 1 (.q 2 (.done)))) (by kernel_rfl) ?_)))
   refine q_move rfl rfl rfl rfl (q_int rfl rfl rfl rfl rfl (b_sub' _ (by exact fits_i64 (by omega) (by omega))) ?_)
   refine s_eq 22 rfl (v' := .int .i64 ((k : Nat) : Int)) (by congr 1; omega) ?_
   refine q_assign rfl rfl rfl rfl (r_done (s_keep [0, 2, 11, 12, 13, 14, 15, 16, 17, 18, 19] (e' := [(0, _), (2, _), (11, _), (12, _), (13, _), (14, _), (15, _), (16, _), (17, _), (18, _), (19, _)]) rfl ?_))
   refine k_blk_n (k_then_n ?_)
   refine loop_next (x := k + 1) (k) ?_ ?_ ?_ ?_
   · exact ⟨by rw [hk, hz2], by omega⟩
   · show k < k + 1; omega
   · exact ⟨rfl, rfl, trivial⟩
   · (try simp only [List.cons_append, List.nil_append]); exact Tf
  have hz2 : trN l (k + 1) = k + 1 := by rw [trN, if_neg (by rw [getD_mem hx]; exact hz)]
  refine c_exit (k_then_exit (k_then_exit (k_blk_here (k_then_n (c_plain (.q 0 (.q 1 (.q 2 (.q 3 (.q 4 (.q 5 (.q 6 (.q 7 (.q 8 ((.l 9 [] (.done)))))))))))) (by kernel_rfl) ?_)))))
  refine q_move rfl rfl rfl rfl (q_move rfl rfl rfl rfl (q_nil_p rfl rfl rfl rfl (q_field (k := 0) rfl rfl rfl rfl Try.underlying64 rfl Try.sizeOf23 rfl ?_)))
  refine q_load_c (j := 0) rfl rfl rfl rfl Try.isAgg23 Tk Az (by rfl) ?_
  refine q_move rfl rfl rfl rfl (s_take (A := own 1 encU ao cap l) Tk ?_)
  refine own_fc fun f_1a f_1b f_1c => ?_
  refine q_cut_hi (h' := k + 1) rfl rfl rfl rfl rfl Try.underlying23 Try.sizeOf30 (by first | rfl | omega) (by first | omega | (have hcap_ := f_1a; simp only [List.length_append, List.length_map, List.length_replicate, List.length_cons, List.length_nil] at hcap_; omega)) ?_
  refine s_take (A := own 1 encU ao cap l) Tk ?_
  refine s_heap (fun _ h => own_take encU_len (k + 1) h) ?_
  refine q_nil_p rfl rfl rfl rfl (q_field (k := 0) rfl rfl rfl rfl Try.underlying64 rfl Try.sizeOf23 rfl ?_)
  refine l_store (j := 0) rfl rfl rfl rfl Try.sizeOf23 (us := [_]) rfl rfl rfl Tk Az (by first | decide | (simp; done) | omega) ?_
  simp only [setL, List.set]
  refine ag_nil (r_done (s_keep [] (e' := []) rfl ?_))
  refine ret_end ?_
  have hkk : trN l l.length = k + 1 := hk.trans hz2
  have hkl : (tr l).length = k + 1 := by rw [tr_len, hkk]
  refine s_take (A := own 1 encU ao cap (l.take (k + 1))) Td ?_
  refine s_heap (Γ' := own 1 encU ao cap (tr l) :: _) (fun _ h => (by rw [tr, hkk]; exact h)) ?_
  refine s_take (A := cells b 0 [.slice ao (k + 1) cap]) Td ?_
  refine s_heap (Γ' := cells b 0 [.slice ao (tr l).length cap] :: _) (fun _ h => (by rw [hkl]; exact h)) ?_
  refine ret0 rfl (()) (by first | rfl | (first | rfl | (congr 1; done) | (congr 1 <;> first | rfl | omega | (simp; done) | (simp; omega)))) (by trivial) ?_
  exact Tf
 obtain rfl : k = 0 := by omega
 refine q_skip rfl rfl rfl rfl (q_skip rfl rfl rfl rfl (q_skip rfl rfl rfl rfl (q_skip rfl rfl rfl rfl (q_skip rfl rfl rfl rfl (q_skip rfl rfl rfl rfl (q_skip rfl rfl rfl rfl (q_skip rfl rfl rfl rfl (q_skip rfl rfl rfl rfl ?_))))))))
 refine q_pick_f rfl rfl rfl rfl rfl (r_done (k_then_n (c_cond_f rfl ?_)))
 refine c_exit (k_then_exit (k_then_exit (k_blk_here (k_then_n (c_plain (.q 0 (.q 1 (.q 2 (.q 3 (.q 4 (.q 5 (.q 6 (.q 7 (.q 8 ((.l 9 [] (.done)))))))))))) (by kernel_rfl) ?_)))))
 refine q_move rfl rfl rfl rfl (q_move rfl rfl rfl rfl (q_nil_p rfl rfl rfl rfl (q_field (k := 0) rfl rfl rfl rfl Try.underlying64 rfl Try.sizeOf23 rfl ?_)))
 refine q_load_c (j := 0) rfl rfl rfl rfl Try.isAgg23 Tk Az (by rfl) ?_
 refine q_move rfl rfl rfl rfl (s_take (A := own 1 encU ao cap l) Tk ?_)
 refine own_fc fun f_2a f_2b f_2c => ?_
 refine q_cut_hi (h' := 0) rfl rfl rfl rfl rfl Try.underlying23 Try.sizeOf30 (by first | rfl | omega) (by first | omega | (have hcap_ := f_2a; simp only [List.length_append, List.length_map, List.length_replicate, List.length_cons, List.length_nil] at hcap_; omega)) ?_
 refine s_take (A := own 1 encU ao cap l) Tk ?_
 refine s_heap (fun _ h => own_take encU_len 0 h) ?_
 refine q_nil_p rfl rfl rfl rfl (q_field (k := 0) rfl rfl rfl rfl Try.underlying64 rfl Try.sizeOf23 rfl ?_)
 refine l_store (j := 0) rfl rfl rfl rfl Try.sizeOf23 (us := [_]) rfl rfl rfl Tk Az (by first | decide | (simp; done) | omega) ?_
 simp only [setL, List.set]
 refine ag_nil (r_done (s_keep [] (e' := []) rfl ?_))
 refine ret_end ?_
 have hkk : trN l l.length = 0 := hk
 have hkl : (tr l).length = 0 := by rw [tr_len, hkk]
 refine s_take (A := own 1 encU ao cap (l.take 0)) Td ?_
 refine s_heap (Γ' := own 1 encU ao cap (tr l) :: _) (fun _ h => (by rw [tr, hkk]; exact h)) ?_
 refine s_take (A := cells b 0 [.slice ao 0 cap]) Td ?_
 refine s_heap (Γ' := cells b 0 [.slice ao (tr l).length cap] :: _) (fun _ h => (by rw [hkl]; exact h)) ?_
 refine ret0 rfl (()) (by first | rfl | (first | rfl | (congr 1; done) | (congr 1 <;> first | rfl | omega | (simp; done) | (simp; omega)))) (by trivial) ?_
 exact Tf
theorem of_spec (xs : List Int) (ao : Option Addr) (n c : Nat) (A : HProp) (hn : xs.length = n) (hr : RdS A ao (xs.flatMap encU)) (hl : n ≤ 65535) (hx_ : ∀ x ∈ xs, 0 ≤ x ∧ x ≤ maxC) : Spec Try.prog 37 [.slice ao n c] [A] (fun (r : Nat × Option Addr × Nat) => .tuple #[.pointer (some ⟨r.1, 0, none⟩), .int .i64 0]) (fun r => True) (fun r => [A, cells r.1 0 [.slice r.2.1 (tr xs).length r.2.2], own 1 encU r.2.1 r.2.2 (tr xs)]) := by
 refine spec_mk (n := 26) Try.func37 rfl rfl rfl ?_
 intro Γ w0
 simp only [argE, List.cons_append, List.nil_append, Nat.zero_add, Nat.reduceAdd]
 refine c_seq (c_plain (.q 0 (.q 1 (.done))) (by kernel_rfl) ?_)
 refine q_assign rfl rfl rfl rfl (q_assign rfl rfl rfl rfl (r_done (k_then_n (c_seq (c_seq (c_plain (.q 0 (.q 1 (.q 2 (.done)))) (by kernel_rfl) ?_))))))
 refine q_move rfl rfl rfl rfl (q_len rfl rfl rfl rfl Try.underlying23 ?_)
 refine q_int rfl rfl rfl rfl rfl (b_gtr _ _ _ _) ?_
 refine r_done (s_keep [0, 9] (e' := [(0, _), (9, _)]) rfl ?_)
 refine k_then_n ?_
 refine c_cond_p rfl (fun hg => by exfalso; omega) (fun hg => ?_)
 refine c_skip (k_then_n (c_seq (c_seq (c_plain (.q 0 (.q 1 (.q 2 (.done)))) (by kernel_rfl) ?_))))
 refine q_move rfl rfl rfl rfl (q_len rfl rfl rfl rfl Try.underlying23 ?_)
 refine q_move rfl rfl rfl rfl (r_done (k_then_n (c_block ?_)))
 refine c_loop2 (α := Nat) (fun (i : Nat) => i ≤ n) (fun (i : Nat) => [(12, .int .i64 ((i : Nat) : Int))]) (fun (i : Nat) => []) (fun (i : Nat) => n - i) [0, 10, 11] (er := [(0, _), (10, _), (11, _)]) rfl (0) ?_ (by exact ⟨rfl, trivial⟩) (by (try dsimp only); (try simp only [Nat.add_zero, Nat.zero_add]); (repeat ((with_reducible apply Z2); focus (first | (with_reducible (repeat (first | exact Z0 | apply Z1)); done) | (repeat (first | exact Z0 | apply Z1))))); exact Z3) ?_
 · exact Nat.zero_le _
 rintro i hle_i
 try simp only [List.cons_append, List.nil_append]
 refine c_seq (c_plain (.q 0 (.done)) (by kernel_rfl) ?_)
 refine q_int rfl rfl rfl rfl rfl (b_lss _ _ _ _) ?_
 refine r_done (k_then_n (c_seq ?_))
 refine c_cond_p rfl (fun hlt => ?_) (fun hlt => ?_)
 ·
  refine c_skip (k_then_n (c_seq (c_block (c_seq (c_plain (.q 0 (.q 1 (.q 2 (.done)))) (by kernel_rfl) ?_)))))
  obtain ⟨x, hx⟩ := get_lt (l := xs) (i := i) (by first | omega | (simp; done) | (simp; omega))
  refine q_idxR (sz := 0) (k := i) rfl rfl rfl rfl rfl Try.underlying23 Try.sizeOf30 (hr) hx encU_len (by first | rfl | omega) (by omega) ?_
  intro ib14 io14 _ hd14
  refine q_load rfl rfl rfl rfl Try.isAgg30 Tk (hd14 0 (.int .u64 x) rfl) ?_
  refine q_assign rfl rfl rfl rfl (r_done (k_then_n (c_seq (c_plain (.q 0 (.q 1 (.done))) (by kernel_rfl) ?_))))
  refine q_move rfl rfl rfl rfl (q_int rfl rfl rfl rfl rfl (b_gtr _ _ _ _) ?_)
  refine r_done (s_keep [0, 10, 11, 12, 17] (e' := [(0, _), (10, _), (11, _), (12, _), (17, _)]) rfl ?_)
  refine k_then_n ?_
  refine c_cond_p rfl (fun hg => by exfalso; have := hx_ x (List.mem_of_getElem? hx); simp only [maxC] at this; omega) (fun hg => ?_)
  refine c_skip (k_blk_n (k_then_n (c_plain (.q 0 (.q 1 (.done))) (by kernel_rfl) ?_)))
  refine q_int rfl rfl rfl rfl rfl (b_add' _ (by exact fits_i64 (by omega) (by omega))) ?_
  refine q_move rfl rfl rfl rfl (r_done (k_then_n ?_))
  refine loop_next (x := i) (i + 1) ?_ ?_ ?_ ?_
  · exact by show i + 1 ≤ n; omega
  · show n - (i + 1) < n - i; omega
  · exact ⟨rfl, rfl, rfl, rfl, trivial⟩
  · (try simp only [List.cons_append, List.nil_append]); exact Tf
 refine c_exit (k_then_exit (k_then_exit (k_blk_here (k_then_n (c_seq (c_plain (.q 0 ((.l 1 [] (.q 2 ((.l 3 [] (.q 4 (.done)))))))) (by kernel_rfl) ?_))))))
 refine q_move rfl rfl rfl rfl ?_
 have sp_1 := clone_spec xs ao n c A Ln (hr) (by rw [hn]; omega)
 refine l_call rfl rfl rfl rfl rfl rfl Try.call41 (sp_1) Ts ?_
 rintro ⟨qa, qc⟩ -
 try simp only [List.cons_append, List.nil_append]
 refine ag_nil (q_build rfl rfl rfl rfl (vs := [_]) (run_buildS Try.underlying64 Try.zeroValue64 (ps := [(0, 1)]) ⟨rfl, Try.sizeOf23, trivial⟩ rfl) ?_)
 refine l_box rfl rfl rfl rfl (us := [_]) rfl ?_
 intro b22
 refine ag_nil (q_assign rfl rfl rfl rfl (r_done (s_keep [6] (e' := [(6, _)]) rfl ?_)))
 refine k_then_n (c_seq (c_plain (.q 0 ((.l 1 [] (.done)))) (by kernel_rfl) ?_))
 refine q_move rfl rfl rfl rfl ?_
 have sp_2 := trim_spec b22 xs qa n qc (by exact hn) (by omega)
 refine l_call rfl rfl rfl rfl rfl rfl Try.call44 (sp_2) Ts ?_
 rintro ⟨⟩ -
 try simp only [List.cons_append, List.nil_append]
 refine ag_nil (r_done (k_then_n (c_seq (c_plain (.q 0 (.q 1 (.q 2 (.done)))) (by kernel_rfl) ?_))))
 refine q_move rfl rfl rfl rfl (q_assign rfl rfl rfl rfl (q_assign rfl rfl rfl rfl (r_done (s_keep [2, 3] (e' := [(2, _), (3, _)]) rfl ?_))))
 refine k_then_n (c_ret (ret2 rfl rfl rfl ((b22, qa, qc)) (by first | rfl | (first | rfl | (congr 1; done) | (congr 1 <;> first | rfl | omega | (simp; done) | (simp; omega)))) (by trivial) ?_))
 exact Tf
theorem reach_spec (b : Nat) (l : List Int) (t : Nat) (ao : Option Addr) (n cap : Nat) (hn : l.length = n) (hb : n ≤ 4000000000 ∧ t ≤ 4000000000) : Spec Try.prog 43 [.pointer (some ⟨b, 0, none⟩), .int .i64 (((t : Nat) : Int) - 1)] [cells b 0 [.slice ao n cap], own 1 encU ao cap l] (fun (r : Option Addr × Nat) => .tuple #[]) (fun r => True) (fun r => [cells b 0 [.slice r.1 (pd l t).length r.2], own 1 encU r.1 r.2 (pd l t)]) := by
 refine spec_mk (n := 24) Try.func43 rfl rfl rfl ?_
 intro Γ w0
 simp only [argE, List.cons_append, List.nil_append, Nat.zero_add, Nat.reduceAdd]
 refine c_seq (c_plain (.q 0 (.q 1 (.q 2 (.q 3 (.q 4 (.q 5 (.q 6 (.q 7 (.q 8 (.done)))))))))) (by kernel_rfl) ?_)
 refine q_move rfl rfl rfl rfl (q_int rfl rfl rfl rfl rfl (b_add' _ (by exact fits_i64 (by omega) (by omega))) ?_)
 refine s_eq 6 rfl (v' := .int .i64 ((t : Nat) : Int)) (by congr 1; omega) ?_
 refine q_move rfl rfl rfl rfl (q_nil_p rfl rfl rfl rfl (q_field (k := 0) rfl rfl rfl rfl Try.underlying64 rfl Try.sizeOf23 rfl ?_))
 refine q_load_c (j := 0) rfl rfl rfl rfl Try.isAgg23 Tk Az (by rfl) ?_
 refine q_len rfl rfl rfl rfl Try.underlying23 ?_
 refine q_int rfl rfl rfl rfl rfl (b_sub' _ (by exact fits_i64 (by omega) (by omega))) ?_
 refine q_assign rfl rfl rfl rfl (r_done (s_keep [0, 4] (e' := [(0, _), (4, _)]) rfl ?_))
 refine k_then_n (c_seq (c_plain (.q 0 (.q 1 (.done))) (by kernel_rfl) ?_))
 refine q_move rfl rfl rfl rfl (q_int rfl rfl rfl rfl rfl (b_gtr _ _ _ _) ?_)
 refine r_done (k_then_n ?_)
 refine c_cond_p rfl (fun hgt => ?_) (fun hgt => ?_)
 ·
  refine c_plain (.q 0 (.q 1 (.q 2 (.q 3 (.q 4 (.q 5 ((.l 6 [] (.q 7 (.q 8 ((.l 9 [] (.done))))))))))))) (by kernel_rfl) ?_
  refine q_move rfl rfl rfl rfl (q_move rfl rfl rfl rfl (q_nil_p rfl rfl rfl rfl (q_field (k := 0) rfl rfl rfl rfl Try.underlying64 rfl Try.sizeOf23 rfl ?_)))
  refine q_load_c (j := 0) rfl rfl rfl rfl Try.isAgg23 Tk Az (by rfl) ?_
  refine q_move rfl rfl rfl rfl (l_appendZ (sz := 1) (enc := encU) (m := t - n) (xs := l) (0 : Int) rfl rfl rfl rfl rfl Try.underlying23 Try.underlying3 Try.typeInfo30 rfl rfl rfl (by decide) Tk (by first | exact hn | rfl) (by omega) rfl encU_len encU_one (by omega) (by show _ * 8 ≤ _; omega) ?_)
  intro ao21 cp21
  rw [show l ++ List.replicate (t - n) 0 = pd l t from by rw [pd, hn]]
  have hpl : (pd l t).length = n + (t - n) := by rw [pd_len, hn]; omega
  refine ag_nil (q_nil_p rfl rfl rfl rfl (q_field (k := 0) rfl rfl rfl rfl Try.underlying64 rfl Try.sizeOf23 rfl ?_))
  refine l_store (j := 0) rfl rfl rfl rfl Try.sizeOf23 (us := [_]) rfl rfl rfl Tk Az (by first | decide | (simp; done) | omega) ?_
  simp only [setL, List.set]
  refine ag_nil (r_done (s_keep [] (e' := []) rfl ?_))
  refine ret_end ?_
  refine s_take (A := cells b 0 [.slice ao21 (n + (t - n)) cp21]) Td ?_
  refine s_heap (Γ' := cells b 0 [.slice ao21 (pd l t).length cp21] :: _) (fun _ h => (by rw [hpl]; exact h)) ?_
  refine ret0 rfl ((ao21, cp21)) (by first | rfl | (first | rfl | (congr 1; done) | (congr 1 <;> first | rfl | omega | (simp; done) | (simp; omega)))) (by trivial) ?_
  exact Tf
 have hpd : pd l t = l := by rw [pd, show t - l.length = 0 from by omega]; simp
 rw [show own 1 encU ao cap l = own 1 encU ao cap (pd l t) from by rw [hpd]]
 have hpl : (pd l t).length = n := by rw [hpd, hn]
 refine c_skip (ret_end ?_)
 refine s_take (A := cells b 0 [.slice ao n cap]) Td ?_
 refine s_heap (Γ' := cells b 0 [.slice ao (pd l t).length cap] :: _) (fun _ h => (by rw [hpl]; exact h)) ?_
 refine ret0 rfl ((ao, cap)) (by first | rfl | (first | rfl | (congr 1; done) | (congr 1 <;> first | rfl | omega | (simp; done) | (simp; omega)))) (by trivial) ?_
 exact Tf
theorem index_spec (os : List K) (bo : Option Addr) (m c : Nat) (A : HProp) (hr : RdS A bo (os.flatMap encP)) (hm : os.length = m) (hb : m ≤ 4000000000) : Spec Try.prog 67 [.slice bo m c, .pointer none] [A] (fun (_ : Unit) => .int .i64 (-1)) (fun _ => True) (fun _ => [A]) := by
 refine spec_mk (n := 19) Try.func67 rfl rfl rfl ?_
 intro Γ w0
 simp only [argE, List.cons_append, List.nil_append, Nat.zero_add, Nat.reduceAdd]
 refine c_seq (c_plain (.q 0 (.done)) (by kernel_rfl) ?_)
 refine q_assign rfl rfl rfl rfl (r_done (k_then_n (c_seq (c_seq (c_plain (.q 0 (.q 1 (.q 2 (.done)))) (by kernel_rfl) ?_)))))
 refine q_move rfl rfl rfl rfl (q_len rfl rfl rfl rfl Try.underlying73 ?_)
 refine q_move rfl rfl rfl rfl (r_done (k_then_n (c_block ?_)))
 refine c_loop2 (α := Nat) (fun (i : Nat) => i ≤ m) (fun (i : Nat) => [(8, .int .i64 ((i : Nat) : Int))]) (fun (i : Nat) => []) (fun (i : Nat) => m - i) [0, 1, 7] (er := [(0, _), (1, _), (7, _)]) rfl (0) ?_ (by exact ⟨rfl, trivial⟩) (by (try dsimp only); (try simp only [Nat.add_zero, Nat.zero_add]); (repeat ((with_reducible apply Z2); focus (first | (with_reducible (repeat (first | exact Z0 | apply Z1)); done) | (repeat (first | exact Z0 | apply Z1))))); exact Z3) ?_
 · exact Nat.zero_le _
 rintro i hle_i
 try simp only [List.cons_append, List.nil_append]
 refine c_seq (c_plain (.q 0 (.done)) (by kernel_rfl) ?_)
 refine q_int rfl rfl rfl rfl rfl (b_lss _ _ _ _) ?_
 refine r_done (k_then_n (c_seq ?_))
 refine c_cond_p rfl (fun hlt => ?_) (fun hlt => ?_)
 ·
  refine c_skip (k_then_n (c_seq (c_block (c_seq (c_plain (.q 0 (.q 1 (.done))) (by kernel_rfl) ?_)))))
  refine q_move rfl rfl rfl rfl (q_assign rfl rfl rfl rfl (r_done (k_then_n (c_seq (c_plain (.q 0 (.q 1 (.q 2 (.q 3 (.q 4 (.q 5 (.done))))))) (by kernel_rfl) ?_)))))
  refine q_move rfl rfl rfl rfl (q_move rfl rfl rfl rfl (q_move rfl rfl rfl rfl ?_))
  obtain ⟨x, hx⟩ := get_lt (l := os) (i := i) (by first | omega | (simp; done) | (simp; omega))
  refine q_idxR (sz := 0) (k := i) rfl rfl rfl rfl rfl Try.underlying73 Try.sizeOf25 (hr) hx encP_len (by first | rfl | omega) (by omega) ?_
  intro ib14 io14 _ hd14
  refine q_load rfl rfl rfl rfl Try.isAgg25 Tk (hd14 0 (.pointer (some ⟨x.1, 0, none⟩)) rfl) ?_
  refine q_eqp rfl rfl rfl rfl rfl Try.underlying25 (by first | exact .inl rfl | exact .inr rfl) ?_
  refine s_eq 16 rfl (v' := .bool false) (by simp) ?_
  refine r_done (s_keep [0, 1, 5, 7, 8, 16] (e' := [(0, _), (1, _), (5, _), (7, _), (8, _), (16, _)]) rfl ?_)
  refine k_then_n (c_cond_f rfl ?_)
  refine c_skip (k_blk_n (k_then_n (c_plain (.q 0 (.q 1 (.done))) (by kernel_rfl) ?_)))
  refine q_int rfl rfl rfl rfl rfl (b_add' _ (by exact fits_i64 (by omega) (by omega))) ?_
  refine q_move rfl rfl rfl rfl (r_done (k_then_n ?_))
  refine loop_next (x := i) (i + 1) ?_ ?_ ?_ ?_
  · exact by show i + 1 ≤ m; omega
  · show m - (i + 1) < m - i; omega
  · exact ⟨rfl, rfl, rfl, rfl, trivial⟩
  · (try simp only [List.cons_append, List.nil_append]); exact Tf
 refine c_exit (k_then_exit (k_then_exit (k_blk_here (k_then_n (c_seq (c_plain (.q 0 (.done)) (by kernel_rfl) ?_))))))
 refine q_assign rfl rfl rfl rfl (r_done (s_keep [4] (e' := [(4, _)]) rfl ?_))
 refine k_then_n (c_ret (ret1 rfl rfl (()) (by first | rfl | (first | rfl | (congr 1; done) | (congr 1 <;> first | rfl | omega | (simp; done) | (simp; omega)))) (by trivial) ?_))
 exact Tf
theorem contains_spec (os : List K) (bo : Option Addr) (m c : Nat) (A : HProp) (hr : RdS A bo (os.flatMap encP)) (hm : os.length = m) (hb : m ≤ 4000000000) : Spec Try.prog 47 [.slice bo m c, .pointer none] [A] (fun (_ : Unit) => .bool false) (fun _ => True) (fun _ => [A]) := by
 refine spec_mk (n := 9) Try.func47 rfl rfl rfl ?_
 intro Γ w0
 simp only [argE, List.cons_append, List.nil_append, Nat.zero_add, Nat.reduceAdd]
 refine c_seq (c_plain (.q 0 (.done)) (by kernel_rfl) ?_)
 refine q_assign rfl rfl rfl rfl (r_done (k_then_n (c_seq (c_plain (.q 0 (.q 1 ((.l 2 [] (.q 3 (.q 4 (.done))))))) (by kernel_rfl) ?_))))
 refine q_move rfl rfl rfl rfl (q_move rfl rfl rfl rfl ?_)
 have sp_1 := index_spec os bo m c A hr hm hb
 refine l_call rfl rfl rfl rfl rfl rfl Try.call67 (sp_1) Ts ?_
 rintro ⟨⟩ -
 try simp only [List.cons_append, List.nil_append]
 refine ag_nil (q_int rfl rfl rfl rfl rfl (b_geq _ _ _ _) ?_)
 refine s_eq 8 rfl (v' := .bool false) (by first | rfl | simp) ?_
 refine q_assign rfl rfl rfl rfl (r_done (s_keep [4] (e' := [(4, _)]) rfl ?_))
 refine k_then_n (c_ret (ret1 rfl rfl (()) (by first | rfl | (first | rfl | (congr 1; done) | (congr 1 <;> first | rfl | omega | (simp; done) | (simp; omega)))) (by trivial) ?_))
 exact Tf
end Go.Ab.Vc
set_option linter.unusedVariables false
set_option linter.unusedSimpArgs false
set_option maxRecDepth 100000
namespace Go.Ab.Vc
open Go Go.Proofs Go.Ab
theorem join_spec (b : Nat) (l : List Int) (ao : Option Addr) (n cap : Nat) (hn : l.length = n) (hl : CV l) (os M : List K) (hos : ∀ x ∈ os, x ∈ M) (hMc : ∀ x ∈ M, CV x.2.2.2) (bo : Option Addr) (m c : Nat) (A : HProp) (hr : RdS A bo (os.flatMap encP)) (hm : os.length = m) (hb : m ≤ 4000000000) : Spec Try.prog 29 [.pointer (some ⟨b, 0, none⟩), .slice bo m c] [cells b 0 [.slice ao n cap], own 1 encU ao cap l, A, bigS kf M] (fun (r : Option Addr × Nat) => .int .i64 0) (fun r => True) (fun r => [cells b 0 [.slice r.1 (jnA l os).length r.2], own 1 encU r.1 r.2 (jnA l os), A, bigS kf M]) := by
 refine spec_mk (n := 56) Try.func29 rfl rfl rfl ?_
 intro Γ w0
 simp only [argE, List.cons_append, List.nil_append, Nat.zero_add, Nat.reduceAdd]
 refine c_seq (c_plain (.q 0 (.done)) (by kernel_rfl) ?_)
 refine q_assign rfl rfl rfl rfl (r_done (k_then_n (c_seq (c_seq (c_plain (.q 0 (.q 1 (.q 2 (.q 3 ((.l 4 [] (.q 5 (.done)))))))) (by kernel_rfl) ?_)))))
 refine q_move rfl rfl rfl rfl (q_eq_nil rfl rfl rfl rfl Try.underlying25 ?_)
 refine s_eq 10 rfl (v' := .bool false) rfl ?_
 refine q_move rfl rfl rfl rfl (q_move rfl rfl rfl rfl ?_)
 have sp_1 := contains_spec os bo m c A hr hm hb
 refine l_call rfl rfl rfl rfl rfl rfl Try.call47 (sp_1) Ts ?_
 rintro ⟨⟩ -
 try simp only [List.cons_append, List.nil_append]
 refine ag_nil (q_pick_f rfl rfl rfl rfl rfl (r_done (s_keep [0, 1, 14] (e' := [(0, _), (1, _), (14, _)]) rfl ?_)))
 refine k_then_n (c_cond_f rfl ?_)
 refine c_skip (k_then_n (c_seq (c_seq (c_plain (.q 0 (.q 1 (.q 2 (.done)))) (by kernel_rfl) ?_))))
 refine q_move rfl rfl rfl rfl (q_len rfl rfl rfl rfl Try.underlying73 ?_)
 refine q_move rfl rfl rfl rfl (r_done (k_then_n (c_block ?_)))
 rw [← hn]
 refine c_loop2 (α := Nat × Option Addr × Nat) (fun (x_ : Nat × Option Addr × Nat) => match x_ with | (k, ja, jc) => k ≤ m ∧ (CV (jnA l (os.take k)))) (fun (x_ : Nat × Option Addr × Nat) => match x_ with | (k, ja, jc) => [(17, .int .i64 ((k : Nat) : Int))]) (fun (x_ : Nat × Option Addr × Nat) => match x_ with | (k, ja, jc) => [cells b 0 [.slice ja ((jnA l (os.take k)).length) jc], own 1 encU ja jc (jnA l (os.take k))]) (fun (x_ : Nat × Option Addr × Nat) => match x_ with | (k, ja, jc) => m - k) [0, 15, 16] (er := [(0, _), (15, _), (16, _)]) rfl (0, ao, cap) ?_ (by exact ⟨rfl, trivial⟩) Ts ?_
 · exact ⟨Nat.zero_le _, hl⟩
 rintro ⟨k, ja, jc⟩ ⟨hle_k, hcv⟩
 try simp only [List.cons_append, List.nil_append]
 have hcl := hcv.len
 refine c_seq (c_plain (.q 0 (.done)) (by kernel_rfl) ?_)
 refine q_int rfl rfl rfl rfl rfl (b_lss _ _ _ _) ?_
 refine r_done (k_then_n (c_seq ?_))
 refine c_cond_p rfl (fun hlt => ?_) (fun hlt => ?_)
 ·
  obtain ⟨x, hx⟩ := get_lt (l := os) (i := k) (by omega)
  have hxM := hos _ (List.mem_of_getElem? hx)
  have hxcv := hMc _ hxM
  obtain ⟨j, hj⟩ := List.getElem?_of_mem hxM
  obtain ⟨d, da, dc, dl⟩ := x
  simp only at hxcv
  have hdl := hxcv.len
  refine s_big_take (f := kf) (L := M) Tk hj ?_
  refine s_bun ?_
  try simp only [List.cons_append, List.nil_append]
  obtain ⟨cur, hcur⟩ : ∃ c, c = jnA l (os.take k) := ⟨_, rfl⟩
  rw [← hcur] at hcv hcl ⊢
  refine c_skip (k_then_n (c_seq (c_block (c_seq (c_plain (.q 0 (.q 1 (.q 2 (.done)))) (by kernel_rfl) ?_)))))
  refine q_idxR (sz := 0) (k := k) rfl rfl rfl rfl rfl Try.underlying73 Try.sizeOf25 (hr) hx encP_len (by first | rfl | omega) (by omega) ?_
  intro ib19 io19 _ hd19
  refine q_load rfl rfl rfl rfl Try.isAgg25 Tk (hd19 0 (.pointer (some ⟨(d, da, dc, dl).1, 0, none⟩)) rfl) ?_
  refine s_eq 20 rfl (v' := .pointer (some ⟨d, 0, none⟩)) (by rfl) ?_
  refine q_assign rfl rfl rfl rfl (r_done (k_then_n (c_seq (c_plain (.q 0 (.q 1 (.q 2 (.q 3 (.q 4 (.q 5 (.q 6 ((.l 7 [] (.done)))))))))) (by kernel_rfl) ?_))))
  refine q_move rfl rfl rfl rfl (q_move rfl rfl rfl rfl (q_nil_p rfl rfl rfl rfl (q_field (k := 0) rfl rfl rfl rfl Try.underlying64 rfl Try.sizeOf23 rfl ?_)))
  refine q_load_c (j := 0) rfl rfl rfl rfl Try.isAgg23 Tk Az (by rfl) ?_
  refine q_len rfl rfl rfl rfl Try.underlying23 ?_
  refine q_int rfl rfl rfl rfl rfl (b_sub' _ (by exact fits_i64 (by omega) (by omega))) ?_
  have sp_2 := reach_spec b cur dl.length ja cur.length jc Ln (by omega)
  refine l_call rfl rfl rfl rfl rfl rfl Try.call43 (sp_2) Ts ?_
  rintro ⟨re_a, re_c⟩ -
  try simp only [List.cons_append, List.nil_append]
  refine ag_nil (r_done (s_keep [0, 6, 15, 16, 17] (e' := [(0, _), (6, _), (15, _), (16, _), (17, _)]) rfl ?_))
  refine k_then_n (c_seq (c_plain (.q 0 (.q 1 (.q 2 (.q 3 (.q 4 (.q 5 (.done))))))) (by kernel_rfl) ?_))
  refine q_move rfl rfl rfl rfl (q_nil_p rfl rfl rfl rfl (q_field (k := 0) rfl rfl rfl rfl Try.underlying64 rfl Try.sizeOf23 rfl ?_))
  refine q_load_c (j := 0) rfl rfl rfl rfl Try.isAgg23 Tk Az (by rfl) ?_
  refine q_len rfl rfl rfl rfl Try.underlying23 ?_
  refine q_move rfl rfl rfl rfl (r_done (s_keep [0, 15, 16, 17, 32, 33, 34] (e' := [(0, _), (15, _), (16, _), (17, _), (32, _), (33, _), (34, _)]) rfl ?_))
  refine k_then_n (c_block ?_)
  refine c_loop2 (α := Nat) (fun (i : Nat) => i ≤ dl.length) (fun (i : Nat) => [(34, .int .i64 ((i : Nat) : Int))]) (fun (i : Nat) => [cells b 0 [.slice re_a ((pd cur dl.length).length) re_c], own 1 encU re_a re_c (jnI cur dl i)]) (fun (i : Nat) => dl.length - i) [0, 15, 16, 17, 32, 33] (er := [(0, _), (15, _), (16, _), (17, _), (32, _), (33, _)]) rfl (0) ?_ (by exact ⟨rfl, trivial⟩) (by (try dsimp only); rw [jnI_zero]; (repeat ((with_reducible apply Z2); focus (first | (with_reducible (repeat (first | exact Z0 | apply Z1)); done) | (repeat (first | exact Z0 | apply Z1))))); exact Z3) ?_
  · exact Nat.zero_le _
  rintro i hle_i
  try simp only [List.cons_append, List.nil_append]
  have hjl : (jnI cur dl i).length = max cur.length dl.length := jnI_len _ _ _
  have hjp := pd_len cur dl.length
  refine c_seq (c_plain (.q 0 (.done)) (by kernel_rfl) ?_)
  refine q_int rfl rfl rfl rfl rfl (b_lss _ _ _ _) ?_
  refine r_done (k_then_n (c_seq ?_))
  refine c_cond_p rfl (fun hli => ?_) (fun hli => ?_)
  ·
   obtain ⟨y, hy⟩ := get_lt (l := dl) (i := i) (by omega)
   have hji : (jnI cur dl i)[i]? = some (cur.getD i 0) := by rw [jnI_get (by omega), if_neg (by omega)]
   refine c_skip (k_then_n (c_seq (c_block (c_seq (c_plain (.q 0 (.q 1 (.q 2 (.q 3 (.q 4 (.done)))))) (by kernel_rfl) ?_)))))
   refine q_move rfl rfl rfl rfl (q_idxO (sz := 0) (k := i) (enc := encU) (xs := dl) rfl rfl rfl rfl rfl Try.underlying23 Try.sizeOf30 hy (by first | rfl | omega) (by omega) Tk ?_)
   intro ib37 io37 ha37 hl37 hc37
   refine q_load_O (v := (.int .u64 y)) (j := 0) (k' := i) (enc := encU) (off := io37) rfl rfl rfl rfl Try.isAgg30 ha37 encU_len hy Tk (by first | rfl | exact (Nat.add_zero _).symm | omega) (by rfl) ?_
   refine q_assign rfl rfl rfl rfl (q_assign rfl rfl rfl rfl (r_done (s_keep [0, 7, 8, 15, 16, 17, 32, 33, 34] (e' := [(0, _), (7, _), (8, _), (15, _), (16, _), (17, _), (32, _), (33, _), (34, _)]) rfl ?_)))
   refine k_then_n (c_draw rfl (.q 0 (.q 1 (.q 2 (.q 3 (.q 4 (.q 5 (.q 6 (.q 7 (.q 8 (.q 9 (.q 10 (.q 11 (.q 12 (.q 13 (.q 14 ((.l 15 [] (.done)))))))))))))))))) (by kernel_rfl) ?_)
   refine q_move rfl rfl rfl rfl (q_nil_p rfl rfl rfl rfl (q_field (k := 0) rfl rfl rfl rfl Try.underlying64 rfl Try.sizeOf23 rfl ?_))
   refine q_load_c (j := 0) rfl rfl rfl rfl Try.isAgg23 Tk Az (by rfl) ?_
   refine q_move rfl rfl rfl rfl (q_move rfl rfl rfl rfl (q_nil_p rfl rfl rfl rfl (q_field (k := 0) rfl rfl rfl rfl Try.underlying64 rfl Try.sizeOf23 rfl ?_)))
   refine q_load_c (j := 0) rfl rfl rfl rfl Try.isAgg23 Tk Az (by rfl) ?_
   refine q_move rfl rfl rfl rfl (q_idxO (sz := 0) (k := i) (enc := encU) (xs := (jnI cur dl i)) rfl rfl rfl rfl rfl Try.underlying23 Try.sizeOf30 hji (by first | rfl | omega) (by omega) Tk ?_)
   intro ib49 io49 ha49 hl49 hc49
   refine q_load_O (v := (.int .u64 (cur.getD i 0))) (j := 0) (k' := i) (enc := encU) (off := io49) rfl rfl rfl rfl Try.isAgg30 ha49 encU_len hji Tk (by first | rfl | exact (Nat.add_zero _).symm | omega) (by rfl) ?_
   refine q_move rfl rfl rfl rfl (q_max rfl rfl rfl rfl rfl ?_)
   refine q_idxO (sz := 0) (k := i) (enc := encU) (xs := (jnI cur dl i)) rfl rfl rfl rfl rfl Try.underlying23 Try.sizeOf30 hji (by first | rfl | omega) (by omega) Tk ?_
   intro ib53 io53 ha53 hl53 hc53
   refine l_store_O (j := 0) (k := i) (q := (max (cur.getD i 0) y)) (enc := encU) (off := io53) rfl rfl rfl rfl Try.sizeOf30 (us := [_]) rfl rfl rfl ha53 encU_len hji Tk (by first | rfl | exact (Nat.add_zero _).symm | omega) (by first | decide | exact Nat.le_of_ble_eq_true rfl) (by rfl) ?_
   refine ag_nil (r_done (s_keep [0, 15, 16, 17, 32, 33, 34] (e' := [(0, _), (15, _), (16, _), (17, _), (32, _), (33, _), (34, _)]) rfl ?_))
   refine k_blk_n (k_then_n (c_plain (.q 0 (.q 1 (.done))) (by kernel_rfl) ?_))
   refine q_int rfl rfl rfl rfl rfl (b_add' _ (by exact fits_i64 (by omega) (by omega))) ?_
   refine q_move rfl rfl rfl rfl (r_done (k_then_n ?_))
   rw [jnI_next hy]
   refine loop_next (x := i) (i + 1) ?_ ?_ ?_ ?_
   · exact by show i + 1 ≤ dl.length; omega
   · show dl.length - (i + 1) < dl.length - i; omega
   · exact ⟨rfl, rfl, rfl, rfl, rfl, rfl, rfl, trivial⟩
   · (try simp only [List.cons_append, List.nil_append]); exact Tf
  refine c_exit (k_then_exit (k_then_exit (k_blk_here (k_blk_n (k_then_n (c_plain (.q 0 (.q 1 (.done))) (by kernel_rfl) ?_))))))
  refine q_int rfl rfl rfl rfl rfl (b_add' _ (by exact fits_i64 (by omega) (by omega))) ?_
  refine q_move rfl rfl rfl rfl (r_done (s_keep [0, 15, 16, 17] (e' := [(0, _), (15, _), (16, _), (17, _)]) rfl ?_))
  refine k_then_n ?_
  have hnx : jnA l (os.take (k + 1)) = jn cur dl := by rw [jnA_next hx, ← hcur]
  have hje : jnI cur dl i = jnA l (os.take (k + 1)) := by rw [hnx]; exact jnI_end hcv (by omega)
  have hjl2 : (pd cur dl.length).length = (jnA l (os.take (k + 1))).length := by rw [hnx, pd_len, jn_len]
  refine s_take (A := own 1 encU re_a re_c (jnI cur dl i)) Td ?_
  refine s_heap (Γ' := own 1 encU re_a re_c (jnA l (os.take (k + 1))) :: _) (fun _ h => (by rw [← hje]; exact h)) ?_
  refine s_take (A := cells b 0 [.slice re_a ((pd cur dl.length).length) re_c]) Td ?_
  refine s_heap (Γ' := cells b 0 [.slice re_a ((jnA l (os.take (k + 1))).length) re_c] :: _) (fun _ h => (by rw [← hjl2]; exact h)) ?_
  refine s_heap (fun _ h => Bun.fold ((by (repeat ((with_reducible apply Z2); focus (first | (with_reducible (repeat (first | exact Z0 | apply Z1)); done) | (repeat (first | exact Z0 | apply Z1))))); exact Z3 : Takes _ [cells d 0 [.slice da dl.length dc], own 1 encU da dc dl] _) _ h)) ?_
  refine s_big_put (f := kf) (L := M) (i := j) (y := (d, da, dc, dl)) Ts (List.getElem?_eq_some_iff.1 hj).1 ?_
  rw [set_same hj]
  refine loop_next (x := (k, ja, jc)) ((k + 1, re_a, re_c)) ?_ ?_ ?_ ?_
  · try dsimp only
    exact ⟨by omega, by rw [hnx]; exact jn_cv hcv hxcv⟩
  · show m - (k + 1) < m - k; omega
  · exact ⟨rfl, rfl, rfl, rfl, trivial⟩
  · (try simp only [List.cons_append, List.nil_append]); exact Tf
 refine c_exit (k_then_exit (k_then_exit (k_blk_here (k_then_n (c_seq (c_plain (.q 0 (.done)) (by kernel_rfl) ?_))))))
 refine q_assign rfl rfl rfl rfl (r_done (s_keep [4] (e' := [(4, _)]) rfl ?_))
 refine k_then_n (c_ret ?_)
 obtain rfl : k = m := by omega
 rw [List.take_of_length_le (by omega)]
 refine ret1 rfl rfl ((ja, jc)) (by first | rfl | (first | rfl | (congr 1; done) | (congr 1 <;> first | rfl | omega | (simp; done) | (simp; omega)))) (by trivial) ?_
 exact Tf
theorem over_spec (ao : Option Addr) (n c : Nat) : Spec Try.prog 40 [.slice ao n c] [] (fun (r : Nat) => .func (.func 65) #[] #[.pointer (some ⟨r, 0, none⟩)]) (fun r => True) (fun r => [cells r 0 [.slice ao n c]]) := by
 refine spec_mk (n := 4) Try.func40 rfl rfl rfl ?_
 intro Γ w0
 simp only [argE, List.cons_append, List.nil_append, Nat.zero_add, Nat.reduceAdd]
 refine c_seq (c_plain ((.l 0 [] (.q 1 (.done)))) (by kernel_rfl) ?_)
 refine l_box rfl rfl rfl rfl (us := [_]) rfl ?_
 intro b1
 refine ag_nil (q_assign rfl rfl rfl rfl (r_done (k_then_n (c_seq (c_plain (.q 0 (.q 1 (.done))) (by kernel_rfl) ?_)))))
 refine q_func rfl rfl rfl rfl rfl ?_
 refine q_assign rfl rfl rfl rfl (r_done (k_then_n (c_ret (ret1 rfl rfl (b1) (by first | rfl | (first | rfl | (congr 1; done) | (congr 1 <;> first | rfl | omega | (simp; done) | (simp; omega)))) (by trivial) ?_))))
 exact Tf
theorem over1_spec {σ : Type} (l : List Int) (ao : Option Addr) (n c bx : Nat) (A : HProp) (hn : l.length = n) (hr : RdS A ao (l.flatMap encU)) (hb : n ≤ 4000000000) (yf : Value) (JL : Option Code → HProp) (J : σ → HProp) (I : Nat → σ → Prop) (Fin : σ → Code → Prop)
    (hy : ∀ i x s, l[i]? = some x → x ≠ 0 → I i s → CallF Try.prog yf [.int .i64 ((i : Nat) : Int), .int .u64 x] [JL none, J s, A] (fun (r : σ × Option Code) => .bool r.2.isNone) (fun r => (r.2 = none → I (i + 1) r.1) ∧ (∀ c, r.2 = some c → Fin r.1 c)) (fun r => [JL r.2, J r.1, A]))
    (hz : ∀ i s, l[i]? = some 0 → I i s → I (i + 1) s) (s0 : σ) (h0 : I 0 s0) : Spec Try.prog 65 [yf, .pointer (some ⟨bx, 0, none⟩)] [JL none, J s0, A, cells bx 0 [.slice ao n c]] (fun (r : σ × Option Code) => .tuple #[]) (fun r => (r.2 = none ∧ I n r.1) ∨ ∃ c, r.2 = some c ∧ Fin r.1 c) (fun r => [JL r.2, J r.1, A, cells bx 0 [.slice ao n c]]) := by
 refine spec_mk (n := 22) Try.func65 rfl rfl rfl ?_
 intro Γ w0
 simp only [argE, List.cons_append, List.nil_append, Nat.zero_add, Nat.reduceAdd]
 refine c_seq (c_plain (.q 0 (.q 1 (.q 2 (.done)))) (by kernel_rfl) ?_)
 refine q_load_c (j := 0) rfl rfl rfl rfl Try.isAgg23 Tk Az (by rfl) ?_
 refine q_len rfl rfl rfl rfl Try.underlying23 ?_
 refine q_move rfl rfl rfl rfl (r_done (k_then_n (c_block ?_)))
 refine c_loop2 (α := Nat × σ) (fun (x_ : Nat × σ) => match x_ with | (i, s) => i ≤ n ∧ (I i s)) (fun (x_ : Nat × σ) => match x_ with | (i, s) => [(7, .int .i64 ((i : Nat) : Int))]) (fun (x_ : Nat × σ) => match x_ with | (i, s) => [JL none, J s]) (fun (x_ : Nat × σ) => match x_ with | (i, s) => n - i) [0, 5, 6] (er := [(0, _), (5, _), (6, _)]) rfl (0, s0) ?_ (by exact ⟨rfl, trivial⟩) (by (try dsimp only); (try simp only [Nat.add_zero, Nat.zero_add]); (repeat ((with_reducible apply Z2); focus (first | (with_reducible (repeat (first | exact Z0 | apply Z1)); done) | (repeat (first | exact Z0 | apply Z1))))); exact Z3) ?_
 · exact ⟨Nat.zero_le _, h0⟩
 rintro ⟨i, s⟩ ⟨hle_i, hI⟩
 try simp only [List.cons_append, List.nil_append]
 refine c_seq (c_plain (.q 0 (.done)) (by kernel_rfl) ?_)
 refine q_int rfl rfl rfl rfl rfl (b_lss _ _ _ _) ?_
 refine r_done (k_then_n (c_seq ?_))
 refine c_cond_p rfl (fun hlt => ?_) (fun hlt => ?_)
 ·
  refine c_skip (k_then_n (c_seq (c_block (c_seq (c_plain (.q 0 (.q 1 (.q 2 (.q 3 (.q 4 (.done)))))) (by kernel_rfl) ?_)))))
  refine q_move rfl rfl rfl rfl ?_
  obtain ⟨x, hx⟩ := get_lt (l := l) (i := i) (by first | omega | (simp; done) | (simp; omega))
  refine q_idxR (sz := 0) (k := i) rfl rfl rfl rfl rfl Try.underlying23 Try.sizeOf30 (hr) hx encU_len (by first | rfl | omega) (by omega) ?_
  intro ib10 io10 _ hd10
  refine q_load rfl rfl rfl rfl Try.isAgg30 Tk (hd10 0 (.int .u64 x) rfl) ?_
  refine q_assign rfl rfl rfl rfl (q_assign rfl rfl rfl rfl (r_done (s_keep [0, 3, 4, 5, 6, 7] (e' := [(0, _), (3, _), (4, _), (5, _), (6, _), (7, _)]) rfl ?_)))
  refine k_then_n (c_seq (c_plain (.q 0 (.q 1 (.q 2 (.q 3 (.q 4 (.q 5 ((.l 6 [] (.q 7 (.q 8 (.done))))))))))) (by kernel_rfl) ?_))
  refine q_move rfl rfl rfl rfl (q_int rfl rfl rfl rfl rfl (b_neq _ _ _ _) ?_)
  refine q_move rfl rfl rfl rfl ?_
  refine s_bool_p 14 rfl (fun hxz => ?_) (fun hxz => ?_)
  ·
   refine q_move rfl rfl rfl rfl (q_move rfl rfl rfl rfl (q_move rfl rfl rfl rfl (l_callF rfl rfl rfl rfl rfl (hy i x s hx hxz hI) Ts ?_)))
   rintro ⟨s2, p⟩ hr2
   try simp only [List.cons_append, List.nil_append]
   refine ag_nil (q_not rfl rfl rfl rfl ?_)
   refine q_pick_t rfl rfl rfl rfl rfl (r_done (s_keep [0, 5, 6, 7, 15, 16, 17, 18, 19, 20] (e' := [(0, _), (5, _), (6, _), (7, _), (15, _), (16, _), (17, _), (18, _), (19, _), (20, _)]) rfl ?_))
   refine k_then_n ?_
   refine c_cond rfl (fun hp => ?_) (fun hp => ?_)
   ·
    try simp only [Bool.and_eq_true, Bool.or_eq_true, Bool.not_eq_true', Bool.not_eq_false', Bool.and_eq_false_iff, Bool.or_eq_false_iff, decide_eq_true_eq, decide_eq_false_iff_not] at hp
    obtain ⟨c_, rfl⟩ : ∃ c, p = some c := by
      cases p with
      | none => simp at hp
      | some c => exact ⟨c, rfl⟩
    refine c_ret (k_blk_ret (k_then_ret (k_then_ret (k_blk_ret (ret0 rfl ((s2, some c_)) (by first | rfl | (first | rfl | (congr 1; done) | (congr 1 <;> first | rfl | omega | (simp; done) | (simp; omega)))) (by exact .inr ⟨c_, rfl, hr2.2 c_ rfl⟩) ?_)))))
    exact Tf
   try simp only [Bool.and_eq_true, Bool.or_eq_true, Bool.not_eq_true', Bool.not_eq_false', Bool.and_eq_false_iff, Bool.or_eq_false_iff, decide_eq_true_eq, decide_eq_false_iff_not] at hp
   obtain rfl : p = none := by
     cases p with
     | none => rfl
     | some c => simp at hp
   refine c_skip (k_blk_n (k_then_n (c_plain (.q 0 (.q 1 (.done))) (by kernel_rfl) ?_)))
   refine q_int rfl rfl rfl rfl rfl (b_add' _ (by exact fits_i64 (by omega) (by omega))) ?_
   refine q_move rfl rfl rfl rfl (r_done (k_then_n ?_))
   refine loop_next (x := (i, s)) ((i + 1, s2)) ?_ ?_ ?_ ?_
   · try dsimp only
     exact ⟨by omega, hr2.1 rfl⟩
   · show n - (i + 1) < n - i; omega
   · exact ⟨rfl, rfl, rfl, rfl, trivial⟩
   · (try simp only [List.cons_append, List.nil_append]); exact Tf
  refine q_skip rfl rfl rfl rfl (q_skip rfl rfl rfl rfl (q_skip rfl rfl rfl rfl (l_skip rfl rfl rfl rfl ?_)))
  refine q_skip rfl rfl rfl rfl (q_pick_f rfl rfl rfl rfl rfl (r_done (s_keep [0, 5, 6, 7, 15, 16, 17, 18, 19, 20] (e' := [(0, _), (5, _), (6, _), (7, _), (15, _), (16, _), (17, _), (18, _), (19, _), (20, _)]) rfl ?_)))
  refine k_then_n (c_cond_f rfl ?_)
  refine c_skip (k_blk_n (k_then_n (c_plain (.q 0 (.q 1 (.done))) (by kernel_rfl) ?_)))
  refine q_int rfl rfl rfl rfl rfl (b_add' _ (by exact fits_i64 (by omega) (by omega))) ?_
  refine q_move rfl rfl rfl rfl (r_done (k_then_n ?_))
  refine loop_next (x := (i, s)) ((i + 1, s)) ?_ ?_ ?_ ?_
  · try dsimp only
    exact ⟨by omega, hz i s (by rw [hx]; congr 1; omega) hI⟩
  · show n - (i + 1) < n - i; omega
  · exact ⟨rfl, rfl, rfl, rfl, trivial⟩
  · (try simp only [List.cons_append, List.nil_append]); exact Tf
 refine c_exit (k_then_exit (k_then_exit (k_blk_here (ret_end ?_))))
 refine ret0 rfl ((s, none)) (by first | rfl | (first | rfl | (congr 1; done) | (congr 1 <;> first | rfl | omega | (simp; done) | (simp; omega)))) (by exact .inl ⟨rfl, (show i = n by omega) ▸ hI⟩) ?_
 exact Tf
theorem leq_spec (b b2 : Nat) (l m : List Int) (ao ao2 : Option Addr) (n cap n2 cap2 : Nat) (hn : l.length = n) (hn2 : m.length = n2) (hlr : CV l) (hmr : CV m) : Spec Try.prog 15 [.pointer (some ⟨b, 0, none⟩), .pointer (some ⟨b2, 0, none⟩)] [cells b 0 [.slice ao n cap], own 1 encU ao cap l, cells b2 0 [.slice ao2 n2 cap2], own 1 encU ao2 cap2 m] (fun (_ : Unit) => .bool (decide (LeqL l m))) (fun _ => True) (fun _ => [cells b 0 [.slice ao n cap], own 1 encU ao cap l, cells b2 0 [.slice ao2 n2 cap2], own 1 encU ao2 cap2 m]) := by
 refine spec_mkM (n := 42) Try.func15 rfl rfl rfl ?_
 intro Γ w0
 simp only [argE, List.cons_append, List.nil_append, Nat.zero_add, Nat.reduceAdd]
 have hlr1 := hlr.len
 have hmr1 := hmr.len
 refine c_seq (c_plain ((.l 0 [] ((.l 1 [] (.done))))) (by kernel_rfl) ?_)
 refine l_box rfl rfl rfl rfl (us := [_]) rfl ?_
 intro b3
 refine ag_nil (l_alloc rfl rfl rfl Try.zeroValue4 (zs := [.bool false]) rfl ?_)
 intro b4
 refine ag_nil (r_done (k_then_n (c_seq (c_seq (c_draw rfl (.q 0 (.q 1 (.q 2 (.q 3 (.q 4 (.q 5 (.q 6 (.q 7 (.q 8 (.q 9 (.q 10 (.q 11 (.q 12 (.q 13 (.q 14 (.q 15 (.q 16 (.q 17 (.q 18 (.done)))))))))))))))))))) (by kernel_rfl) ?_)))))
 refine q_move rfl rfl rfl rfl (q_eq_nil rfl rfl rfl rfl Try.underlying25 ?_)
 refine s_eq 8 rfl (v' := .bool false) rfl ?_
 refine q_move rfl rfl rfl rfl (q_load_c (j := 0) rfl rfl rfl rfl Try.isAgg25 Tk Az (by rfl) ?_)
 refine q_eq_nil rfl rfl rfl rfl Try.underlying25 ?_
 refine s_eq 11 rfl (v' := .bool false) rfl ?_
 refine q_pick_f rfl rfl rfl rfl rfl (q_move rfl rfl rfl rfl (q_move rfl rfl rfl rfl (q_nil_p rfl rfl rfl rfl (q_field (k := 0) rfl rfl rfl rfl Try.underlying64 rfl Try.sizeOf23 rfl ?_))))
 refine q_load_c (j := 0) rfl rfl rfl rfl Try.isAgg23 Tk Az (by rfl) ?_
 refine q_len rfl rfl rfl rfl Try.underlying23 ?_
 refine q_load_c (j := 0) rfl rfl rfl rfl Try.isAgg25 Tk Az (by rfl) ?_
 refine q_nil_p rfl rfl rfl rfl (q_field (k := 0) rfl rfl rfl rfl Try.underlying64 rfl Try.sizeOf23 rfl ?_)
 refine q_load_c (j := 0) rfl rfl rfl rfl Try.isAgg23 Tk Az (by rfl) ?_
 refine q_len rfl rfl rfl rfl Try.underlying23 ?_
 refine q_int rfl rfl rfl rfl rfl (b_gtr _ _ _ _) ?_
 refine q_pick_f rfl rfl rfl rfl rfl (r_done (s_keep [0, 3, 4, 25] (e' := [(0, _), (3, _), (4, _), (25, _)]) rfl ?_))
 refine k_then_n ?_
 refine c_cond_p rfl (fun hlen => ?_) (fun hlen => ?_)
 ·
  have hnl : ¬ LeqL l m := fun h => by have := h.1; omega
  refine c_seq (c_plain ((.l 0 [] (.done))) (by kernel_rfl) ?_)
  refine l_store (j := 0) rfl rfl rfl rfl Try.sizeOf4 (us := [_]) rfl rfl rfl Tk Az (by first | decide | (simp; done) | omega) ?_
  simp only [setL, List.set]
  refine ag_nil (r_done (k_then_n (c_ret (k_then_ret (rm_ret ?_)))))
  refine rm_done (us := [_]) rfl ⟨rv_cell1 rfl Try.isAgg4 Tk (j := 0) rfl rfl, trivial⟩ (()) (by rw [decide_eq_false hnl]; rfl) (by trivial) ?_
  exact Tf
 refine c_skip (k_then_n (c_seq (c_seq (c_plain (.q 0 (.q 1 (.q 2 (.q 3 ((.l 4 [] (.done))))))) (by kernel_rfl) ?_))))
 refine q_move rfl rfl rfl rfl (q_nil_p rfl rfl rfl rfl (q_field (k := 0) rfl rfl rfl rfl Try.underlying64 rfl Try.sizeOf23 rfl ?_))
 refine q_load_c (j := 0) rfl rfl rfl rfl Try.isAgg23 Tk Az (by rfl) ?_
 have sp_1 := over_spec ao n cap
 refine l_call rfl rfl rfl rfl rfl rfl Try.call40 (sp_1) Ts ?_
 rintro bx -
 try simp only [List.cons_append, List.nil_append]
 refine ag_nil (r_done (s_keep [3, 4, 30] (e' := [(3, _), (4, _), (30, _)]) rfl ?_))
 refine k_then_n (c_block (s_take (A := own 1 encU ao cap l) Tk ?_))
 refine own_fc fun hp1 hp2 hp3 => ?_
 refine s_heap (fun _ h => Bun.fold ((by (repeat ((with_reducible apply Z2); focus (first | (with_reducible (repeat (first | exact Z0 | apply Z1)); done) | (repeat (first | exact Z0 | apply Z1))))); exact Z3 : Takes _ [cells b3 0 [.pointer (some ⟨b2, 0, none⟩)], cells b2 0 [.slice ao2 n2 cap2], own 1 encU ao2 cap2 m, cells b4 0 [.bool false]] _) _ h)) ?_
 refine c_rangeF _ rfl Try.call65 (fun lp => over1_spec (σ := Unit) l ao n cap bx (own 1 encU ao cap l) hn (rds_own encU_len (fun h => (hp2 h).1) hp3) (by omega) (yv lp) (LoopJ lp _ _ _ _ _) (fun _ => Bun [cells b3 0 [.pointer (some ⟨b2, 0, none⟩)], cells b2 0 [.slice ao2 n2 cap2], own 1 encU ao2 cap2 m, cells b4 0 [.bool false]]) (fun i _ => ∀ j, j < i → l.getD j 0 ≤ m.getD j 0) (fun _ c => c = .ret ∧ ¬ LeqL l m) (fun i x s hx hxz hI => callF_yield rfl (by decide) (by decide) (fun Γ w0 => ?_)) (fun i s hx hI j hj => if h : j < i then hI j h else by obtain rfl : j = i := (by omega); rw [getD_mem hx]; exact (g_rng hmr.rng (by decide) j).1) () (fun j h => by omega)) Ts ?_
 ·
  try simp only [zipE, List.cons_append, List.nil_append]
  refine s_take (A := Bun [cells b3 0 [.pointer (some ⟨b2, 0, none⟩)], cells b2 0 [.slice ao2 n2 cap2], own 1 encU ao2 cap2 m, cells b4 0 [.bool false]]) Tk ?_
  refine s_bun ?_
  try simp only [List.cons_append, List.nil_append]
  have hil : i < l.length := (List.getElem?_eq_some_iff.1 hx).1
  obtain ⟨y, hy⟩ := get_lt (l := m) (i := i) (by omega)
  refine c_seq (c_plain (.q 0 (.done)) (by kernel_rfl) ?_)
  refine q_assign rfl rfl rfl rfl (r_done (k_then_n (c_plain (.q 0 (.done)) (by kernel_rfl) ?_)))
  refine q_assign rfl rfl rfl rfl (r_done (k_then_n (k_begin Tk ?_)))
  refine c_block (c_seq (c_plain (.q 0 (.q 1 (.q 2 (.q 3 (.q 4 (.q 5 (.q 6 (.q 7 (.q 8 (.done)))))))))) (by kernel_rfl) ?_))
  refine q_move rfl rfl rfl rfl (q_load_c (j := 0) rfl rfl rfl rfl Try.isAgg25 Tk Az (by rfl) ?_)
  refine q_nil_p rfl rfl rfl rfl (q_field (k := 0) rfl rfl rfl rfl Try.underlying64 rfl Try.sizeOf23 rfl ?_)
  refine q_load_c (j := 0) rfl rfl rfl rfl Try.isAgg23 Tk Az (by rfl) ?_
  refine q_move rfl rfl rfl rfl (q_idxO (sz := 0) (k := i) (enc := encU) (xs := m) rfl rfl rfl rfl rfl Try.underlying23 Try.sizeOf30 hy (by first | rfl | omega) (by omega) Tk ?_)
  intro ib39 io39 ha39 hl39 hc39
  refine q_load_O (v := (.int .u64 y)) (j := 0) (k' := i) (enc := encU) (off := io39) rfl rfl rfl rfl Try.isAgg30 ha39 encU_len hy Tk (by first | rfl | exact (Nat.add_zero _).symm | omega) (by rfl) ?_
  refine q_int rfl rfl rfl rfl rfl (b_gtr _ _ _ _) ?_
  refine r_done (s_keep [4, 41] (e' := [(4, _), (41, _)]) rfl ?_)
  refine k_then_n ?_
  refine c_cond_p rfl (fun hgt => ?_) (fun hgt => ?_)
  ·
   refine c_seq (c_plain ((.l 0 [] (.done))) (by kernel_rfl) ?_)
   refine l_store (j := 0) rfl rfl rfl rfl Try.sizeOf4 (us := [_]) rfl rfl rfl Tk Az (by first | decide | (simp; done) | omega) ?_
   simp only [setL, List.set]
   refine ag_nil (r_done (k_then_n (c_ret (k_blk_ret (s_heap (fun _ h => Bun.fold ((by (repeat ((with_reducible apply Z2); focus (first | (with_reducible (repeat (first | exact Z0 | apply Z1)); done) | (repeat (first | exact Z0 | apply Z1))))); exact Z3 : Takes _ [cells b3 0 [.pointer (some ⟨b2, 0, none⟩)], cells b2 0 [.slice ao2 n2 cap2], own 1 encU ao2 cap2 m, cells b4 0 [.bool false]] _) _ h)) ?_)))))
   refine rr_ret (((), some .ret)) (by rfl) (by exact ⟨fun h => (by cases h), fun c hc => (by cases hc; exact ⟨rfl, fun h => (by have := h.2 i hil; rw [getD_mem hx, getD_mem hy] at this; omega)⟩)⟩) Tk ?_
   (try simp only [List.cons_append, List.nil_append]); exact Tf
  refine c_skip (k_blk_n (s_heap (fun _ h => Bun.fold ((by (repeat ((with_reducible apply Z2); focus (first | (with_reducible (repeat (first | exact Z0 | apply Z1)); done) | (repeat (first | exact Z0 | apply Z1))))); exact Z3 : Takes _ [cells b3 0 [.pointer (some ⟨b2, 0, none⟩)], cells b2 0 [.slice ao2 n2 cap2], own 1 encU ao2 cap2 m, cells b4 0 [.bool false]] _) _ h)) ?_))
  refine rr_n (((), none)) (by rfl) (by exact ⟨fun _ j hj => (by
      by_cases h : j < i
      · exact hI j h
      · obtain rfl : j = i := (by omega)
        rw [getD_mem hx, getD_mem hy]; omega), fun c hc => (by cases hc)⟩) Tk ?_
  (try simp only [List.cons_append, List.nil_append]); exact Tf
 rintro ⟨⟨⟩, p1⟩ (⟨h1, h2⟩ | ⟨c_, h1, h2⟩) blk_2
 try simp only [List.cons_append, List.nil_append]
 ·
  simp only at h1 h2
  subst h1
  have hle : LeqL l m := ⟨by omega, fun j hj => h2 j (by omega)⟩
  show Le _ _
  try simp only [List.cons_append, List.nil_append]
  refine s_take (A := Bun [cells b3 0 [.pointer (some ⟨b2, 0, none⟩)], cells b2 0 [.slice ao2 n2 cap2], own 1 encU ao2 cap2 m, cells b4 0 [.bool false]]) Tk ?_
  refine s_bun ?_
  try simp only [List.cons_append, List.nil_append]
  refine k_blk_n (k_then_n (c_seq (c_plain ((.l 0 [] (.done))) (by kernel_rfl) ?_)))
  refine l_store (j := 0) rfl rfl rfl rfl Try.sizeOf4 (us := [_]) rfl rfl rfl Tk Az (by first | decide | (simp; done) | omega) ?_
  simp only [setL, List.set]
  refine ag_nil (r_done (k_then_n (c_ret (rm_ret ?_))))
  refine rm_mark (blk := blk_2) Tk ?_
  refine rm_done (us := [_]) rfl ⟨rv_cell1 rfl Try.isAgg4 Tk (j := 0) rfl rfl, trivial⟩ (()) (by rw [decide_eq_true hle]; rfl) (by trivial) ?_
  exact Tf
 simp only at h1 h2
 obtain ⟨hc1, hnl⟩ := h2
 subst hc1
 subst h1
 show Le _ _
 try simp only [List.cons_append, List.nil_append]
 refine s_take (A := Bun [cells b3 0 [.pointer (some ⟨b2, 0, none⟩)], cells b2 0 [.slice ao2 n2 cap2], own 1 encU ao2 cap2 m, cells b4 0 [.bool false]]) Tk ?_
 refine s_bun ?_
 try simp only [List.cons_append, List.nil_append]
 refine c_ret (k_blk_ret (k_then_ret (rm_ret ?_)))
 refine rm_mark (blk := blk_2) Tk ?_
 refine rm_done (us := [_]) rfl ⟨rv_cell1 rfl Try.isAgg4 Tk (j := 0) rfl rfl, trivial⟩ (()) (by rw [decide_eq_false hnl]; rfl) (by trivial) ?_
 exact Tf
/-- How two vectors stand. -/
def agn (l m : List Int) : Int := if LeqL l m then (if LeqL m l then 1 else 2) else (if LeqL m l then 3 else 4)
theorem against_spec (b b2 : Nat) (l m : List Int) (ao ao2 : Option Addr) (n cap n2 cap2 : Nat) (hn : l.length = n) (hn2 : m.length = n2) (hlr : CV l) (hmr : CV m) : Spec Try.prog 16 [.pointer (some ⟨b, 0, none⟩), .pointer (some ⟨b2, 0, none⟩)] [cells b 0 [.slice ao n cap], own 1 encU ao cap l, cells b2 0 [.slice ao2 n2 cap2], own 1 encU ao2 cap2 m] (fun (_ : Unit) => .int .i64 (agn l m)) (fun _ => True) (fun _ => [cells b 0 [.slice ao n cap], own 1 encU ao cap l, cells b2 0 [.slice ao2 n2 cap2], own 1 encU ao2 cap2 m]) := by
 refine spec_mk (n := 28) Try.func16 rfl rfl rfl ?_
 intro Γ w0
 simp only [argE, List.cons_append, List.nil_append, Nat.zero_add, Nat.reduceAdd]
 refine c_seq (c_plain (.q 0 (.done)) (by kernel_rfl) ?_)
 refine q_assign rfl rfl rfl rfl (r_done (k_then_n (c_seq (c_seq (c_plain (.q 0 (.q 1 (.q 2 (.q 3 (.q 4 (.q 5 (.done))))))) (by kernel_rfl) ?_)))))
 refine q_move rfl rfl rfl rfl (q_eq_nil rfl rfl rfl rfl Try.underlying25 ?_)
 refine s_eq 8 rfl (v' := .bool false) rfl ?_
 refine q_move rfl rfl rfl rfl (q_move rfl rfl rfl rfl (q_eq_nil rfl rfl rfl rfl Try.underlying25 ?_))
 refine s_eq 11 rfl (v' := .bool false) rfl ?_
 refine q_pick_f rfl rfl rfl rfl rfl (r_done (s_keep [0, 1, 12] (e' := [(0, _), (1, _), (12, _)]) rfl ?_))
 refine k_then_n (c_cond_f rfl ?_)
 refine c_skip (k_then_n (c_seq (c_plain (.q 0 (.q 1 ((.l 2 [] (.q 3 (.q 4 ((.l 5 [] (.q 6 (.q 7 (.done))))))))))) (by kernel_rfl) ?_)))
 refine q_move rfl rfl rfl rfl (q_move rfl rfl rfl rfl ?_)
 have sp_1 := leq_spec b b2 l m ao ao2 n cap n2 cap2 Ln Ln (by assumption) (by assumption)
 refine l_call rfl rfl rfl rfl rfl rfl Try.call15 (sp_1) Ts ?_
 rintro ⟨⟩ -
 try simp only [List.cons_append, List.nil_append]
 refine ag_nil (q_move rfl rfl rfl rfl (q_move rfl rfl rfl rfl ?_))
 have sp_2 := leq_spec b2 b m l ao2 ao n2 cap2 n cap Ln Ln (by assumption) (by assumption)
 refine l_call rfl rfl rfl rfl rfl rfl Try.call15 (sp_2) Ts ?_
 rintro ⟨⟩ -
 try simp only [List.cons_append, List.nil_append]
 refine ag_nil (q_assign rfl rfl rfl rfl (q_assign rfl rfl rfl rfl (r_done (s_keep [5, 6] (e' := [(5, _), (6, _)]) rfl ?_))))
 refine k_then_n (c_seq (c_block (c_seq (c_plain (.q 0 (.q 1 (.q 2 (.q 3 (.q 4 (.done)))))) (by kernel_rfl) ?_))))
 refine q_move rfl rfl rfl rfl (q_move rfl rfl rfl rfl ?_)
 refine s_bool_p 21 rfl (fun h1 => ?_) (fun h1 => ?_)
 ·
  refine q_move rfl rfl rfl rfl (q_pick_t rfl rfl rfl rfl rfl (q_assign rfl rfl rfl rfl (r_done (s_keep [5, 6, 19] (e' := [(5, _), (6, _), (19, _)]) rfl ?_))))
  refine k_then_n ?_
  refine c_cond_p rfl (fun h2 => ?_) (fun h2 => ?_)
  ·
   refine c_seq (c_plain (.q 0 (.done)) (by kernel_rfl) ?_)
   refine q_assign rfl rfl rfl rfl (r_done (k_then_n (c_ret (k_blk_ret (k_then_ret (ret1 rfl rfl (()) (by first | (exfalso; contradiction) | (congr 1; simp only [agn]; split <;> (try split) <;> first | rfl | contradiction)) (by trivial) ?_))))))
   exact Tf
  refine c_seq (c_plain (.q 0 (.q 1 (.done))) (by kernel_rfl) ?_)
  refine q_move rfl rfl rfl rfl (q_assign rfl rfl rfl rfl (r_done (k_then_n ?_)))
  refine c_cond_p rfl (fun h_3 => ?_) (fun h_3 => ?_)
  ·
   refine c_seq (c_plain (.q 0 (.done)) (by kernel_rfl) ?_)
   refine q_assign rfl rfl rfl rfl (r_done (s_keep [4] (e' := [(4, _)]) rfl ?_))
   refine k_then_n (c_ret (k_blk_ret (k_then_ret (ret1 rfl rfl (()) (by first | (exfalso; contradiction) | (congr 1; simp only [agn]; split <;> (try split) <;> first | rfl | contradiction)) (by trivial) ?_))))
   exact Tf
  refine c_seq (c_plain (.q 0 (.q 1 (.done))) (by kernel_rfl) ?_)
  refine q_move rfl rfl rfl rfl (q_assign rfl rfl rfl rfl (r_done (s_keep [26] (e' := [(26, _)]) rfl ?_)))
  refine k_then_n ?_
  refine c_cond_p rfl (fun h2 => ?_) (fun h2 => ?_)
  ·
   refine c_seq (c_plain (.q 0 (.done)) (by kernel_rfl) ?_)
   refine q_assign rfl rfl rfl rfl (r_done (k_then_n (c_ret (k_blk_ret (k_then_ret (ret1 rfl rfl (()) (by first | (exfalso; contradiction) | (congr 1; simp only [agn]; split <;> (try split) <;> first | rfl | contradiction)) (by trivial) ?_))))))
   exact Tf
  refine c_skip (k_blk_n (k_then_n (c_seq (c_plain (.q 0 (.done)) (by kernel_rfl) ?_))))
  refine q_assign rfl rfl rfl rfl (r_done (k_then_n (c_ret (ret1 rfl rfl (()) (by first | (exfalso; contradiction) | (congr 1; simp only [agn]; split <;> (try split) <;> first | rfl | contradiction)) (by trivial) ?_))))
  exact Tf
 refine q_skip rfl rfl rfl rfl (q_pick_f rfl rfl rfl rfl rfl (q_assign rfl rfl rfl rfl (r_done (s_keep [5, 6, 19] (e' := [(5, _), (6, _), (19, _)]) rfl ?_))))
 refine k_then_n (c_cond_f rfl ?_)
 refine c_seq (c_plain (.q 0 (.q 1 (.done))) (by kernel_rfl) ?_)
 refine q_move rfl rfl rfl rfl (q_assign rfl rfl rfl rfl (r_done (k_then_n ?_)))
 refine c_cond_p rfl (fun h_4 => ?_) (fun h_4 => ?_)
 ·
  refine c_seq (c_plain (.q 0 (.done)) (by kernel_rfl) ?_)
  refine q_assign rfl rfl rfl rfl (r_done (s_keep [4] (e' := [(4, _)]) rfl ?_))
  refine k_then_n (c_ret (k_blk_ret (k_then_ret (ret1 rfl rfl (()) (by first | (exfalso; contradiction) | (congr 1; simp only [agn]; split <;> (try split) <;> first | rfl | contradiction)) (by trivial) ?_))))
  exact Tf
 refine c_seq (c_plain (.q 0 (.q 1 (.done))) (by kernel_rfl) ?_)
 refine q_move rfl rfl rfl rfl (q_assign rfl rfl rfl rfl (r_done (s_keep [26] (e' := [(26, _)]) rfl ?_)))
 refine k_then_n ?_
 refine c_cond_p rfl (fun h2 => ?_) (fun h2 => ?_)
 ·
  refine c_seq (c_plain (.q 0 (.done)) (by kernel_rfl) ?_)
  refine q_assign rfl rfl rfl rfl (r_done (k_then_n (c_ret (k_blk_ret (k_then_ret (ret1 rfl rfl (()) (by first | (exfalso; contradiction) | (congr 1; simp only [agn]; split <;> (try split) <;> first | rfl | contradiction)) (by trivial) ?_))))))
  exact Tf
 refine c_skip (k_blk_n (k_then_n (c_seq (c_plain (.q 0 (.done)) (by kernel_rfl) ?_))))
 refine q_assign rfl rfl rfl rfl (r_done (k_then_n (c_ret (ret1 rfl rfl (()) (by first | (exfalso; contradiction) | (congr 1; simp only [agn]; split <;> (try split) <;> first | rfl | contradiction)) (by trivial) ?_))))
 exact Tf
theorem list_spec (b : Nat) (l : List Int) (ao : Option Addr) (n cap : Nat) (hn : l.length = n) (hb : n ≤ 4000000000) : Spec Try.prog 18 [.pointer (some ⟨b, 0, none⟩)] [cells b 0 [.slice ao n cap], own 1 encU ao cap l] (fun (r : Option Addr × Nat) => .slice r.1 n r.2) (fun r => True) (fun r => [cells b 0 [.slice ao n cap], own 1 encU ao cap l, own 1 encU r.1 r.2 l]) := by
 refine spec_mk (n := 10) Try.func18 rfl rfl rfl ?_
 intro Γ w0
 simp only [argE, List.cons_append, List.nil_append, Nat.zero_add, Nat.reduceAdd]
 refine c_seq (c_plain (.q 0 (.done)) (by kernel_rfl) ?_)
 refine q_assign rfl rfl rfl rfl (r_done (k_then_n (c_seq (c_seq (c_plain (.q 0 (.q 1 (.done))) (by kernel_rfl) ?_)))))
 refine q_move rfl rfl rfl rfl (q_eq_nil rfl rfl rfl rfl Try.underlying25 ?_)
 refine s_eq 4 rfl (v' := .bool false) rfl ?_
 refine r_done (k_then_n (c_cond_f rfl ?_))
 refine c_skip (k_then_n (c_seq (c_plain (.q 0 (.q 1 (.q 2 (.q 3 ((.l 4 [] (.q 5 (.done)))))))) (by kernel_rfl) ?_)))
 refine q_move rfl rfl rfl rfl (q_nil_p rfl rfl rfl rfl (q_field (k := 0) rfl rfl rfl rfl Try.underlying64 rfl Try.sizeOf23 rfl ?_))
 refine q_load_c (j := 0) rfl rfl rfl rfl Try.isAgg23 Tk Az (by rfl) ?_
 refine s_take (A := own 1 encU ao cap l) Tk ?_
 refine own_fc fun f_1a f_1b f_1c => ?_
 have sp_2 := clone_spec l ao n cap (own 1 encU ao cap l) Ln (rds_own encU_len (fun h => (f_1b h).1) f_1c) (by omega)
 refine l_call rfl rfl rfl rfl rfl rfl Try.call41 (sp_2) Ts ?_
 rintro ⟨qa, qc⟩ -
 try simp only [List.cons_append, List.nil_append]
 refine ag_nil (q_assign rfl rfl rfl rfl (r_done (s_keep [2] (e' := [(2, _)]) rfl ?_)))
 refine k_then_n (c_ret (ret1 rfl rfl ((qa, qc)) (by first | rfl | (first | rfl | (congr 1; done) | (congr 1 <;> first | rfl | omega | (simp; done) | (simp; omega)))) (by trivial) ?_))
 exact Tf
theorem works_spec : Spec Try.prog 8 [] [] (fun (_ : Unit) => .bool true) (fun _ => True) (fun _ => []) := by
 refine spec_mk (n := 54) Try.func8 rfl rfl rfl ?_
 intro Γ w0
 simp only [argE, List.cons_append, List.nil_append, Nat.zero_add, Nat.reduceAdd]
 refine c_seq (c_plain (.q 0 (.done)) (by kernel_rfl) ?_)
 refine q_assign rfl rfl rfl rfl (r_done (k_then_n (c_seq (c_plain ((.l 0 [] ((.l 1 [] (.q 2 (.q 3 (.q 4 (.q 5 (.q 6 (.done)))))))))) (by kernel_rfl) ?_))))
 refine l_buildSlice rfl rfl rfl rfl (vs := [_, _]) (run_buildSl Try.underlying23 Try.sizeOf30 Try.zeroValue30 rfl rfl rfl rfl) ?_
 intro b6
 refine ag_nil ?_
 have sp_1 := of_spec ([1, 5] : List Int) (some ⟨b6, 0, none⟩) 2 2 (cells b6 0 [.int .u64 1, .int .u64 5]) Ln (rds_some rdn_cells) (by omega) (by decide)
 refine l_call rfl rfl rfl rfl rfl rfl Try.call37 (sp_1) Ts ?_
 rintro ⟨ab, aa, ac⟩ -
 try simp only [List.cons_append, List.nil_append]
 refine ag_nil ?_
 rw [show tr ([1, 5] : List Int) = ([1, 5] : List Int) from by decide]
 refine q_move rfl rfl rfl rfl (q_extract rfl rfl rfl rfl rfl (q_extract rfl rfl rfl rfl rfl (q_assign rfl rfl rfl rfl (q_assign rfl rfl rfl rfl (r_done (s_keep [1, 2] (e' := [(1, _), (2, _)]) rfl ?_))))))
 refine k_then_n (c_seq (c_plain ((.l 0 [] ((.l 1 [] (.q 2 (.q 3 (.q 4 (.q 5 (.q 6 (.done)))))))))) (by kernel_rfl) ?_))
 refine l_buildSlice rfl rfl rfl rfl (vs := [_, _, _]) (run_buildSl Try.underlying23 Try.sizeOf30 Try.zeroValue30 rfl rfl rfl rfl) ?_
 intro b11
 refine ag_nil ?_
 have sp_2 := of_spec ([2, 3, 4] : List Int) (some ⟨b11, 0, none⟩) 3 3 (cells b11 0 [.int .u64 2, .int .u64 3, .int .u64 4]) Ln (rds_some rdn_cells) (by omega) (by decide)
 refine l_call rfl rfl rfl rfl rfl rfl Try.call37 (sp_2) Ts ?_
 rintro ⟨bb, ba, bc⟩ -
 try simp only [List.cons_append, List.nil_append]
 refine ag_nil ?_
 rw [show tr ([2, 3, 4] : List Int) = ([2, 3, 4] : List Int) from by decide]
 refine q_move rfl rfl rfl rfl (q_extract rfl rfl rfl rfl rfl (q_extract rfl rfl rfl rfl rfl (q_assign rfl rfl rfl rfl (q_assign rfl rfl rfl rfl (r_done (s_keep [1, 2, 3, 4] (e' := [(1, _), (2, _), (3, _), (4, _)]) rfl ?_))))))
 refine k_then_n (c_seq (c_plain (.q 0 ((.l 1 [] (.q 2 (.q 3 (.q 4 ((.l 5 [] (.q 6 (.q 7 (.q 8 (.q 9 (.q 10 ((.l 11 [] (.q 12 (.q 13 (.q 14 (.q 15 (.q 16 ((.l 17 [] ((.l 18 [] ((.l 19 [] (.q 20 (.q 21 (.q 22 (.q 23 ((.l 24 [] ((.l 25 [] ((.l 26 [] (.q 27 (.q 28 (.q 29 (.q 30 ((.l 31 [] (.q 32 (.q 33 (.q 34 (.q 35 ((.l 36 [] (.q 37 (.q 38 (.q 39 (.done)))))))))))))))))))))))))))))))))))))))))))))))))))) (by kernel_rfl) ?_))
 refine q_move rfl rfl rfl rfl ?_
 have sp_3 := num_spec 0
 refine l_call rfl rfl rfl rfl rfl rfl Try.call23 (sp_3) Ts ?_
 rintro ⟨⟩ -
 try simp only [List.cons_append, List.nil_append]
 refine ag_nil (q_int rfl rfl rfl rfl rfl (b_eql _ _ _ _) ?_)
 refine s_eq 17 rfl (v' := .bool true) (by first | rfl | simp) ?_
 refine q_move rfl rfl rfl rfl (q_move rfl rfl rfl rfl ?_)
 have sp_4 := num_spec 0
 refine l_call rfl rfl rfl rfl rfl rfl Try.call23 (sp_4) Ts ?_
 rintro ⟨⟩ -
 try simp only [List.cons_append, List.nil_append]
 refine ag_nil (q_int rfl rfl rfl rfl rfl (b_eql _ _ _ _) ?_)
 refine s_eq 21 rfl (v' := .bool true) (by first | rfl | simp) ?_
 refine q_pick_t rfl rfl rfl rfl rfl (q_move rfl rfl rfl rfl (q_move rfl rfl rfl rfl (q_move rfl rfl rfl rfl ?_)))
 have sp_5 := against_spec ab bb ([1, 5] : List Int) ([2, 3, 4] : List Int) aa ba ((([1, 5] : List Int) : List Int).length) ac ((([2, 3, 4] : List Int) : List Int).length) bc Ln Ln (⟨by simp [Tr], by decide, by decide⟩ : CV ([1, 5] : List Int)) (⟨by simp [Tr], by decide, by decide⟩ : CV ([2, 3, 4] : List Int))
 refine l_call rfl rfl rfl rfl rfl rfl Try.call16 (sp_5) Ts ?_
 rintro ⟨⟩ -
 try simp only [List.cons_append, List.nil_append]
 refine ag_nil (q_int rfl rfl rfl rfl rfl (b_eql _ _ _ _) ?_)
 refine s_eq 27 rfl (v' := .bool true) (by rw [show agn ([1, 5] : List Int) ([2, 3, 4] : List Int) = 4 from by decide]; rfl) ?_
 refine q_pick_t rfl rfl rfl rfl rfl (q_move rfl rfl rfl rfl (q_move rfl rfl rfl rfl (q_move rfl rfl rfl rfl (l_buildSlice rfl rfl rfl rfl (run_build1 (us := [_]) Try.underlying73 Try.sizeOf25 rfl Try.zeroValue25 rfl rfl rfl) ?_))))
 intro b32
 refine ag_nil (s_big_nil (f := kf) ?_)
 refine s_heap (fun _ h => Bun.fold ((by (repeat ((with_reducible apply Z2); focus (first | (with_reducible (repeat (first | exact Z0 | apply Z1)); done) | (repeat (first | exact Z0 | apply Z1))))); exact Z3 : Takes _ [cells bb 0 [.slice ba ([2, 3, 4] : List Int).length bc], own 1 encU ba bc ([2, 3, 4] : List Int)] _) _ h)) ?_
 refine s_big_push (f := kf) (L := []) (x := (bb, ba, bc, ([2, 3, 4] : List Int))) Ts ?_
 simp only [List.nil_append]
 have sp_6 := join_spec ab ([1, 5] : List Int) aa 2 ac rfl (⟨by simp [Tr], by decide, by decide⟩ : CV ([1, 5] : List Int)) [(bb, ba, bc, ([2, 3, 4] : List Int))] [(bb, ba, bc, ([2, 3, 4] : List Int))] (fun x hx => hx) (by intro x hx; simp at hx; subst hx; exact (⟨by simp [Tr], by decide, by decide⟩ : CV ([2, 3, 4] : List Int))) (some ⟨b32, 0, none⟩) 1 1 (cells b32 0 [.pointer (some ⟨bb, 0, none⟩)]) (rds_some rdn_cells) rfl (by decide)
 refine l_call rfl rfl rfl rfl rfl rfl Try.call29 (sp_6) Ts ?_
 rintro ⟨ja, jc⟩ -
 try simp only [List.cons_append, List.nil_append]
 refine s_big_take (f := kf) (L := [(bb, ba, bc, ([2, 3, 4] : List Int))]) (i := 0) (x := (bb, ba, bc, ([2, 3, 4] : List Int))) Tk rfl ?_
 refine s_bun ?_
 try simp only [List.cons_append, List.nil_append]
 rw [show jnA ([1, 5] : List Int) [(bb, ba, bc, ([2, 3, 4] : List Int))] = [2, 5, 4] from by show jn [1, 5] [2, 3, 4] = [2, 5, 4]; decide]
 have hlen3 : ([2, 5, 4] : List Int).length = 3 := rfl
 try simp only [List.cons_append, List.nil_append]
 refine ag_nil ?_
 have sp_7 := num_spec 0
 refine l_call rfl rfl rfl rfl rfl rfl Try.call23 (sp_7) Ts ?_
 rintro ⟨⟩ -
 try simp only [List.cons_append, List.nil_append]
 refine ag_nil (q_int rfl rfl rfl rfl rfl (b_eql _ _ _ _) ?_)
 refine s_eq 35 rfl (v' := .bool true) (by first | rfl | simp) ?_
 refine q_pick_t rfl rfl rfl rfl rfl (q_move rfl rfl rfl rfl (q_move rfl rfl rfl rfl ?_))
 have sp_8 := list_spec ab ([2, 5, 4] : List Int) ja (([2, 5, 4] : List Int).length) jc Ln (by omega)
 refine l_call rfl rfl rfl rfl rfl rfl Try.call18 (sp_8) Ts ?_
 rintro ⟨qa, qc⟩ -
 try simp only [List.cons_append, List.nil_append]
 refine ag_nil (l_buildSlice rfl rfl rfl rfl (vs := [_, _, _]) (run_buildSl Try.underlying23 Try.sizeOf30 Try.zeroValue30 rfl rfl rfl rfl) ?_)
 intro b40
 refine ag_nil (s_take (A := own 1 encU qa qc ([2, 5, 4] : List Int)) Tk ?_)
 refine own_fc fun f_9a f_9b f_9c => ?_
 refine s_heap (fun _ h => Bun.fold ((by (repeat ((with_reducible apply Z2); focus (first | (with_reducible (repeat (first | exact Z0 | apply Z1)); done) | (repeat (first | exact Z0 | apply Z1))))); exact Z3 : Takes _ [own 1 encU qa qc ([2, 5, 4] : List Int), cells b40 0 [.int .u64 2, .int .u64 5, .int .u64 4]] _) _ h)) ?_
 have sp_10 := same_spec ([2, 5, 4] : List Int) ([2, 5, 4]) qa (some ⟨b40, 0, none⟩) (([2, 5, 4] : List Int).length) 3 qc 3 (Bun [own 1 encU qa qc ([2, 5, 4] : List Int), cells b40 0 [.int .u64 2, .int .u64 5, .int .u64 4]]) Ln (rds_bun (List.mem_cons_self) (rds_own encU_len (fun h => (f_9b h).1) f_9c)) Ln (rds_bun (List.mem_cons_of_mem _ (List.mem_cons_self)) (rds_some rdn_cells)) (by omega)
 refine l_call rfl rfl rfl rfl rfl rfl Try.call17 (sp_10) Ts ?_
 rintro ⟨⟩ -
 try simp only [List.cons_append, List.nil_append]
 refine s_take (A := Bun [own 1 encU qa qc ([2, 5, 4] : List Int), cells b40 0 [.int .u64 2, .int .u64 5, .int .u64 4]]) Tk ?_
 refine s_bun ?_
 try simp only [List.cons_append, List.nil_append]
 try simp only [List.cons_append, List.nil_append]
 refine ag_nil (q_pick_t rfl rfl rfl rfl rfl (q_move rfl rfl rfl rfl ?_))
 refine s_bool_p 43 rfl (fun hg => ?_) (fun hg => by exfalso; first | exact hg rfl | (revert hg; decide))
 refine q_move rfl rfl rfl rfl (q_move rfl rfl rfl rfl ?_)
 have sp_11 := leq_spec bb ab ([2, 3, 4] : List Int) ([2, 5, 4] : List Int) ba ja ((([2, 3, 4] : List Int) : List Int).length) bc (([2, 5, 4] : List Int).length) jc Ln Ln (⟨by simp [Tr], by decide, by decide⟩ : CV ([2, 3, 4] : List Int)) (⟨by simp [Tr], by decide, by decide⟩ : CV ([2, 5, 4] : List Int))
 refine l_call rfl rfl rfl rfl rfl rfl Try.call15 (sp_11) Ts ?_
 rintro ⟨⟩ -
 try simp only [List.cons_append, List.nil_append]
 refine ag_nil (s_eq 46 rfl (v' := .bool true) (by first | (congr 1; done) | (congr 1; decide)) ?_)
 refine q_pick_t rfl rfl rfl rfl rfl (q_move rfl rfl rfl rfl (q_move rfl rfl rfl rfl (q_move rfl rfl rfl rfl ?_)))
 have sp_12 := leq_spec ab bb ([2, 5, 4] : List Int) ([2, 3, 4] : List Int) ja ba (([2, 5, 4] : List Int).length) jc ((([2, 3, 4] : List Int) : List Int).length) bc Ln Ln (⟨by simp [Tr], by decide, by decide⟩ : CV ([2, 5, 4] : List Int)) (⟨by simp [Tr], by decide, by decide⟩ : CV ([2, 3, 4] : List Int))
 refine l_call rfl rfl rfl rfl rfl rfl Try.call15 (sp_12) Ts ?_
 rintro ⟨⟩ -
 try simp only [List.cons_append, List.nil_append]
 refine ag_nil (s_eq 51 rfl (v' := .bool false) (by first | (congr 1; done) | (congr 1; decide)) ?_)
 refine q_not rfl rfl rfl rfl ?_
 refine s_eq 52 rfl (v' := .bool true) rfl ?_
 refine q_pick_t rfl rfl rfl rfl rfl (q_assign rfl rfl rfl rfl (r_done (s_keep [0] (e' := [(0, _)]) rfl ?_)))
 refine k_then_n (c_ret (ret1 rfl rfl (()) (by first | rfl | (first | rfl | (congr 1; done) | (congr 1 <;> first | rfl | omega | (simp; done) | (simp; omega)))) (by trivial) ?_))
 exact Tf
end Go.Ab.Vc
set_option linter.unusedVariables false
set_option linter.unusedSimpArgs false
namespace Go.Ab
open Go
section
variable {P : Program} {r : Option Nat} {w0 : World} {ds : List Deferred} {n : Nat} {e : Env} {Γ : List HProp} {K : Act → World → Prop} {l : List Oper} {i : Nat} {t : RT} {fl : List Nat}
variable {d : Nat} {ty : TypeId} {pos : String} {af : Array Edge} {g : Option (Nat × Bool)}
/-- copy into an owned slice, of what is read; no longer than it. -/
theorem run_copyR {α : Type} {T U E : TypeId} {bo ao : Option Addr} {cap sc sz : Nat} {enc : α → List Value} {xs ys : List α} {A : HProp} {Γ1 Γ2 : List HProp} {w : World}
    (hu : P.underlying T = some (.slice E)) (hE : ∀ w, (sizeOf E).run P w = .ok sz w) (hpos : 0 < sz) (hsz : ∀ x, (enc x).length = sz) (h1 : ∀ y, (enc y).all Value.oneCell' = true)
    (s1 : Sat (own sz enc ao cap xs :: Γ1) (lh w)) (tkA : Take Γ1 A Γ2) (hr : RdS A bo (ys.flatMap enc)) (hle : ys.length ≤ xs.length) :
    ∃ w', (Builtin.copy_ #[T, U] ty #[.slice ao xs.length cap, .slice bo ys.length sc]).run P w = .ok (goInt ys.length) w' ∧ Sat (own sz enc ao cap (ys ++ xs.drop ys.length) :: Γ1) (lh w') ∧ Amb w w' := by
  obtain ⟨hc, hn0, hs⟩ := own_le s1
  have hmin : Nat.min ys.length xs.length = ys.length := Nat.min_eq_left hle
  have hfl := flat_len hsz ys
  by_cases hy0 : ys.length = 0
  · obtain rfl := List.eq_nil_of_length_eq_zero hy0
    have hl : ∀ (x : Addr), (loadCells x 0).run P w = .ok #[] w := fun x => by simpa using run_loadCells_list (P := P) (w := w) x [] (by simp)
    have hm0 : Nat.min 0 xs.length = 0 := hmin
    refine ⟨w, ?_, by simpa using s1, Amb.refl w⟩
    cases ao <;> cases bo <;> simp [Builtin.copy_, run_underlying hu, hE, Builtin.lenOf, Builtin.firstCells, storeCells, hl, hm0]
  · rcases hr with hr | ⟨b2, o2, rfl, hrn⟩
    · rw [hr] at hfl
      have : ys.length * sz = 0 := hfl.symm
      rcases Nat.mul_eq_zero.1 this with h | h <;> omega
    · cases ao with
      | none => obtain ⟨h3, -⟩ := hn0 rfl; subst h3; simp at hle; simp [hle] at hy0
      | some p =>
        obtain ⟨b, off, hp⟩ := hs (by simp)
        cases hp
        obtain ⟨sp, hsp, s2⟩ := own_cells s1
        have hload := run_loadCells_list (P := P) (w := w) ⟨b2, o2, none⟩ (ys.flatMap enc) (fun j v hv => by rw [add_none]; exact (hrn j v hv).world (tkA _ s1.tail))
        rw [hfl] at hload
        have hall : (ys.flatMap enc).all Value.oneCell' = true := by rw [List.all_flatMap]; simp [h1]
        have hmle : ys.length * sz ≤ xs.length * sz := Nat.mul_le_mul_right _ hle
        obtain ⟨w', e1, e2, e3⟩ := run_storeSat (P := P) (ys.flatMap enc) 0 0 _ _ w s2 (by rw [hfl, List.length_append, flat_len hsz]; omega) hall
        rw [Nat.add_zero] at e1
        refine ⟨w', ?_, ?_, e3⟩
        · simp [Builtin.copy_, run_underlying hu, hE, Builtin.lenOf, Builtin.firstCells, hmin, hload, e1]
        · have e4 := setL_eq (ys.flatMap enc) [] ((xs.take ys.length).flatMap enc) ((xs.drop ys.length).flatMap enc ++ sp) (by rw [hfl, flat_len hsz, List.length_take, Nat.min_eq_left hle])
          rw [List.nil_append, ← List.append_assoc, ← List.flatMap_append, List.take_append_drop] at e4
          simp only [List.length_nil, List.nil_append] at e4
          rw [Nat.add_zero, e4] at e2
          refine own_mk (sp := sp) (by simp; omega) ?_ (by rw [List.flatMap_append, List.append_assoc]; exact e2)
          rw [hsp]
          congr 1
          rw [List.length_append, List.length_drop]; omega
theorem l_copy {α : Type} {T U E : TypeId} {x y : Operand} {bo ao : Option Addr} {len cap sl sc sz : Nat} {enc : α → List Value} {xs ys : List α} {A : HProp} {Γ1 Γ2 : List HProp} (ho : nthO l i = some ⟨some d, .call ⟨.builtin .copy, #[x, y], #[T, U]⟩, ty, pos, af, g⟩) (hg : gd l e g = some true) (hn : Nat.blt d n = true)
    (hx : ev e x = some (.slice ao len cap)) (hy : ev e y = some (.slice bo sl sc)) (hu : P.underlying T = some (.slice E)) (hE : ∀ w, (sizeOf E).run P w = .ok sz w) (hpos : 0 < sz) (hsz : ∀ x, (enc x).length = sz) (h1 : ∀ y, (enc y).all Value.oneCell' = true)
    (tk : Take Γ (own sz enc ao cap xs) Γ1) (tkA : Take Γ1 A Γ2) (hr : RdS A bo (ys.flatMap enc)) (hlen : xs.length = len) (hyl : ys.length = sl) (hle : sl ≤ len)
    (k : Le (St w0 ds n ((d, .int .i64 (sl : Int)) :: e) (own sz enc ao cap (ys ++ xs.drop sl) :: Γ1)) (AG P r l.toArray fl (wpRT P r l.toArray K t))) : Le (St w0 ds n e Γ) (wpRT P r l.toArray K (.l i fl t)) :=
  l_gen ho hg (fun _ h => by cases h) (fun a w s => by
    subst hlen hyl
    obtain ⟨w', e1, e2, e3⟩ := run_copyR (P := P) (U := U) (ty := ty) (sc := sc) hu hE hpos hsz h1 (tk _ s.heap) tkA hr hle
    have hr' : (execOp a.eval ⟨some d, .call ⟨.builtin .copy, #[x, y], #[T, U]⟩, ty, pos, af, g⟩).run P w = .ok (.value (goInt ys.length)) w' := by
      simp [execOp, resolve, invoke, builtin, s.ev hx, s.ev hy, e1]
    rw [hr']
    exact k _ _ ((s.world e2 e3).put hn))
end
/-! ### Ways that come together -/
section
variable {P : Program} {r : Option Nat} {w0 : World} {ds : List Deferred} {n : Nat} {e : Env} {Γ : List HProp} {Q : Exit → Act → World → Prop}
end
end Go.Ab
set_option linter.unusedVariables false
set_option linter.unusedSimpArgs false
set_option maxRecDepth 100000
namespace Go.Ab.Vc
open Go Go.Proofs Go.Ab
theorem g_out {l : List Int} {i : Nat} (h : l.length ≤ i) : l.getD i 0 = 0 := by simp only [List.getD_eq_getElem?_getD]; rw [List.getElem?_eq_none h]; rfl
/-- What is met so far, up to thread i. -/
def mtI (l m : List Int) (i : Nat) : List Int := (List.range l.length).map fun k => if k < i then min (l.getD k 0) (m.getD k 0) else l.getD k 0
theorem mtI_len (l m : List Int) (i : Nat) : (mtI l m i).length = l.length := by simp [mtI]
theorem mtI_get {l m : List Int} {i k : Nat} (h : k < l.length) : (mtI l m i)[k]? = some (if k < i then min (l.getD k 0) (m.getD k 0) else l.getD k 0) := by
  simp only [mtI, List.getElem?_map, List.getElem?_range h, Option.map_some]
theorem mtI_zero (l m : List Int) : mtI l m 0 = l := by
  apply List.ext_getElem?
  intro k
  by_cases h : k < l.length
  · obtain ⟨x, hx⟩ := get_lt h
    rw [mtI_get h, if_neg (by omega), hx, getD_mem hx]
  · rw [List.getElem?_eq_none (by rw [mtI_len]; omega), List.getElem?_eq_none (by omega)]
theorem mtI_next {l m : List Int} {i : Nat} (hi : i < l.length) : (mtI l m i).set i (min (l.getD i 0) (m.getD i 0)) = mtI l m (i + 1) := by
  apply List.ext_getElem?
  intro k
  by_cases h : k < l.length
  · by_cases hk : k = i
    · subst hk
      rw [List.getElem?_set_self (by rw [mtI_len]; omega), mtI_get h, if_pos (by omega)]
    · rw [List.getElem?_set_ne (Ne.symm hk), mtI_get h, mtI_get h]
      by_cases h2 : k < i
      · rw [if_pos h2, if_pos (by omega)]
      · rw [if_neg h2, if_neg (by omega)]
  · rw [List.getElem?_eq_none (by rw [List.length_set, mtI_len]; omega), List.getElem?_eq_none (by rw [mtI_len]; omega)]
/-- The meet of two. -/
def mt (l m : List Int) : List Int := tr (mtI l m l.length)
theorem mt_g {l m : List Int} (hl : CV l) (hm : CV m) (i : Nat) : (mt l m).getD i 0 = min (l.getD i 0) (m.getD i 0) := by
  rw [mt, tr_g]
  by_cases h : i < l.length
  · rw [getD_mem (mtI_get h), if_pos h]
  · rw [g_out (by rw [mtI_len]; omega), g_out (l := l) (by omega)]
    have := g_rng hm.rng (by decide) i
    omega
theorem mt_cv {l m : List Int} (hl : CV l) (hm : CV m) : CV (mt l m) := by
  refine tr_cv (by rw [mtI_len]; exact hl.len) fun x hx => ?_
  obtain ⟨i, -, rfl⟩ := List.mem_map.1 hx
  have a := g_rng hl.rng (by decide) i
  have b := g_rng hm.rng (by decide) i
  split <;> omega
def mtA (l : List Int) (os : List K) : List Int := os.foldl (fun l x => mt l x.2.2.2) l
theorem leq_iff {l m : List Int} (hl : CV l) (hm : CV m) : LeqL l m ↔ ∀ i, l.getD i 0 ≤ m.getD i 0 := by
  constructor
  · intro h i
    by_cases hi : i < l.length
    · exact h.2 i hi
    · rw [g_out (l := l) (by omega)]; exact (g_rng hm.rng (by decide) i).1
  · intro h
    refine ⟨?_, fun i _ => h i⟩
    rcases Nat.lt_or_ge m.length l.length with h1 | h1
    · rcases hl.tr with e | e
      · rw [e] at h1; exact absurd h1 (by simp)
      · have h2 := h (l.length - 1)
        rw [g_out (l := m) (by omega)] at h2
        have := (g_rng hl.rng (by decide) (l.length - 1)).1
        omega
    · exact h1
/-- The clocks that fit. -/
def fitL (xs : List Int) : List Int := (xs.take 300).map (fun x => x % 281474976710656)
theorem fit_len (xs : List Int) : (fitL xs).length ≤ 300 := by simp [fitL]; omega
theorem fit_rng (xs : List Int) : ∀ x ∈ fitL xs, 0 ≤ x ∧ x ≤ maxC := fun x hx => by
  obtain ⟨y, -, rfl⟩ := List.mem_map.1 hx
  simp only [maxC]; omega
theorem fit_cv (xs : List Int) : CV (tr (fitL xs)) := tr_cv (Nat.le_trans (fit_len xs) (by decide)) (fit_rng xs)
theorem get_spec (b : Nat) (l : List Int) (ao : Option Addr) (n cap : Nat) (hn : l.length = n) (i : Nat) : Spec Try.prog 13 [.pointer (some ⟨b, 0, none⟩), .int .i64 ((i : Nat) : Int)] [cells b 0 [.slice ao n cap], own 1 encU ao cap l] (fun (_ : Unit) => .int .u64 (l.getD i 0)) (fun _ => True) (fun _ => [cells b 0 [.slice ao n cap], own 1 encU ao cap l]) := by
 refine spec_mk (n := 27) Try.func13 rfl rfl rfl ?_
 intro Γ w0
 simp only [argE, List.cons_append, List.nil_append, Nat.zero_add, Nat.reduceAdd]
 refine c_seq (c_plain (.q 0 (.done)) (by kernel_rfl) ?_)
 refine q_assign rfl rfl rfl rfl (r_done (k_then_n (c_seq (c_seq (c_plain (.q 0 (.q 1 (.q 2 (.q 3 (.q 4 (.q 5 (.q 6 (.q 7 (.q 8 (.q 9 (.q 10 (.q 11 (.q 12 (.q 13 (.q 14 (.done)))))))))))))))) (by kernel_rfl) ?_)))))
 refine q_move rfl rfl rfl rfl (q_eq_nil rfl rfl rfl rfl Try.underlying25 ?_)
 refine s_eq 6 rfl (v' := .bool false) rfl ?_
 refine q_move rfl rfl rfl rfl (q_move rfl rfl rfl rfl (q_int rfl rfl rfl rfl rfl (b_lss _ _ _ _) ?_))
 refine q_pick_f rfl rfl rfl rfl rfl (q_move rfl rfl rfl rfl ?_)
 refine s_bool_p 11 rfl (fun hg => by exfalso; omega) (fun hg => ?_)
 refine q_move rfl rfl rfl rfl (q_move rfl rfl rfl rfl (q_nil_p rfl rfl rfl rfl (q_field (k := 0) rfl rfl rfl rfl Try.underlying64 rfl Try.sizeOf23 rfl ?_)))
 refine q_load_c (j := 0) rfl rfl rfl rfl Try.isAgg23 Tk Az (by rfl) ?_
 refine q_len rfl rfl rfl rfl Try.underlying23 ?_
 refine q_int rfl rfl rfl rfl rfl (b_geq _ _ _ _) ?_
 refine q_pick_f rfl rfl rfl rfl rfl (r_done (s_keep [0, 1, 19] (e' := [(0, _), (1, _), (19, _)]) rfl ?_))
 refine k_then_n ?_
 refine c_cond_p rfl (fun hge => ?_) (fun hge => ?_)
 ·
  refine c_seq (c_plain (.q 0 (.done)) (by kernel_rfl) ?_)
  refine q_assign rfl rfl rfl rfl (r_done (k_then_n (c_ret (k_then_ret (ret1 rfl rfl (()) (by rw [g_out (by omega)]) (by trivial) ?_)))))
  exact Tf
 obtain ⟨x, hx⟩ := get_lt (l := l) (i := i) (by omega)
 refine c_skip (k_then_n (c_seq (c_plain (.q 0 (.q 1 (.q 2 (.q 3 (.q 4 (.q 5 (.q 6 (.q 7 (.done))))))))) (by kernel_rfl) ?_)))
 refine q_move rfl rfl rfl rfl (q_nil_p rfl rfl rfl rfl (q_field (k := 0) rfl rfl rfl rfl Try.underlying64 rfl Try.sizeOf23 rfl ?_))
 refine q_load_c (j := 0) rfl rfl rfl rfl Try.isAgg23 Tk Az (by rfl) ?_
 refine q_move rfl rfl rfl rfl (q_idxO (sz := 0) (k := i) (enc := encU) (xs := l) rfl rfl rfl rfl rfl Try.underlying23 Try.sizeOf30 hx (by first | rfl | omega) (by omega) Tk ?_)
 intro ib25 io25 ha25 hl25 hc25
 refine q_load_O (v := (.int .u64 x)) (j := 0) (k' := i) (enc := encU) (off := io25) rfl rfl rfl rfl Try.isAgg30 ha25 encU_len hx Tk (by first | rfl | exact (Nat.add_zero _).symm | omega) (by rfl) ?_
 refine q_assign rfl rfl rfl rfl (r_done (s_keep [4] (e' := [(4, _)]) rfl ?_))
 refine k_then_n (c_ret (ret1 rfl rfl (()) (by rw [getD_mem hx]) (by trivial) ?_))
 exact Tf
theorem len_spec (b : Nat) (l : List Int) (ao : Option Addr) (n cap : Nat) (hn : l.length = n) : Spec Try.prog 20 [.pointer (some ⟨b, 0, none⟩)] [cells b 0 [.slice ao n cap], own 1 encU ao cap l] (fun (_ : Unit) => .int .i64 ((n : Nat) : Int)) (fun _ => True) (fun _ => [cells b 0 [.slice ao n cap], own 1 encU ao cap l]) := by
 refine spec_mk (n := 10) Try.func20 rfl rfl rfl ?_
 intro Γ w0
 simp only [argE, List.cons_append, List.nil_append, Nat.zero_add, Nat.reduceAdd]
 refine c_seq (c_plain (.q 0 (.done)) (by kernel_rfl) ?_)
 refine q_assign rfl rfl rfl rfl (r_done (k_then_n (c_seq (c_seq (c_plain (.q 0 (.q 1 (.done))) (by kernel_rfl) ?_)))))
 refine q_move rfl rfl rfl rfl (q_eq_nil rfl rfl rfl rfl Try.underlying25 ?_)
 refine s_eq 4 rfl (v' := .bool false) rfl ?_
 refine r_done (k_then_n (c_cond_f rfl ?_))
 refine c_skip (k_then_n (c_seq (c_plain (.q 0 (.q 1 (.q 2 (.q 3 (.q 4 (.q 5 (.done))))))) (by kernel_rfl) ?_)))
 refine q_move rfl rfl rfl rfl (q_nil_p rfl rfl rfl rfl (q_field (k := 0) rfl rfl rfl rfl Try.underlying64 rfl Try.sizeOf23 rfl ?_))
 refine q_load_c (j := 0) rfl rfl rfl rfl Try.isAgg23 Tk Az (by rfl) ?_
 refine q_len rfl rfl rfl rfl Try.underlying23 ?_
 refine q_assign rfl rfl rfl rfl (r_done (s_keep [2] (e' := [(2, _)]) rfl ?_))
 refine k_then_n (c_ret (ret1 rfl rfl (()) (by first | rfl | (first | rfl | (congr 1; done) | (congr 1 <;> first | rfl | omega | (simp; done) | (simp; omega)))) (by trivial) ?_))
 exact Tf
theorem at_spec (xs : List Int) (ao : Option Addr) (n c : Nat) (A : HProp) (hn : xs.length = n) (hr : RdS A ao (xs.flatMap encU)) (i : Nat) : Spec Try.prog 14 [.slice ao n c, .int .i64 ((i : Nat) : Int)] [A] (fun (_ : Unit) => .int .u64 (xs.getD i 0)) (fun _ => True) (fun _ => [A]) := by
 refine spec_mk (n := 13) Try.func14 rfl rfl rfl ?_
 intro Γ w0
 simp only [argE, List.cons_append, List.nil_append, Nat.zero_add, Nat.reduceAdd]
 refine c_seq (c_plain (.q 0 (.done)) (by kernel_rfl) ?_)
 refine q_assign rfl rfl rfl rfl (r_done (k_then_n (c_seq (c_seq (c_plain (.q 0 (.q 1 (.q 2 (.q 3 (.done))))) (by kernel_rfl) ?_)))))
 refine q_move rfl rfl rfl rfl (q_move rfl rfl rfl rfl (q_len rfl rfl rfl rfl Try.underlying23 ?_))
 refine q_int rfl rfl rfl rfl rfl (b_geq _ _ _ _) ?_
 refine r_done (s_keep [0, 1, 8] (e' := [(0, _), (1, _), (8, _)]) rfl ?_)
 refine k_then_n ?_
 refine c_cond_p rfl (fun hge => ?_) (fun hge => ?_)
 ·
  refine c_seq (c_plain (.q 0 (.done)) (by kernel_rfl) ?_)
  refine q_assign rfl rfl rfl rfl (r_done (k_then_n (c_ret (k_then_ret (ret1 rfl rfl (()) (by rw [g_out (by omega)]) (by trivial) ?_)))))
  exact Tf
 obtain ⟨x, hx⟩ := get_lt (l := xs) (i := i) (by omega)
 refine c_skip (k_then_n (c_seq (c_plain (.q 0 (.q 1 (.q 2 (.q 3 (.q 4 (.done)))))) (by kernel_rfl) ?_)))
 refine q_move rfl rfl rfl rfl (q_move rfl rfl rfl rfl (q_idxR (sz := 0) (k := i) rfl rfl rfl rfl rfl Try.underlying23 Try.sizeOf30 (hr) hx encU_len (by first | rfl | omega) (by omega) ?_))
 intro ib11 io11 _ hd11
 refine q_load rfl rfl rfl rfl Try.isAgg30 Tk (hd11 0 (.int .u64 x) rfl) ?_
 refine q_assign rfl rfl rfl rfl (r_done (s_keep [4] (e' := [(4, _)]) rfl ?_))
 refine k_then_n (c_ret (ret1 rfl rfl (()) (by rw [getD_mem hx]) (by trivial) ?_))
 exact Tf
theorem trimmed_spec (xs : List Int) (ao : Option Addr) (n c : Nat) (A : HProp) (hn : xs.length = n) (hr : RdS A ao (xs.flatMap encU)) (hnc : n ≤ c) (hb : n ≤ 4000000000) : Spec Try.prog 19 [.slice ao n c] [A] (fun (_ : Unit) => .slice ao (tr xs).length c) (fun _ => True) (fun _ => [A]) := by
 refine spec_mk (n := 21) Try.func19 rfl rfl rfl ?_
 intro Γ w0
 simp only [argE, List.cons_append, List.nil_append, Nat.zero_add, Nat.reduceAdd]
 refine c_seq (c_plain (.q 0 (.done)) (by kernel_rfl) ?_)
 refine q_assign rfl rfl rfl rfl (r_done (k_then_n (c_seq (c_plain (.q 0 (.q 1 (.q 2 (.done)))) (by kernel_rfl) ?_))))
 refine q_move rfl rfl rfl rfl (q_len rfl rfl rfl rfl Try.underlying23 ?_)
 refine q_assign rfl rfl rfl rfl (r_done (k_then_n (c_seq (c_block ?_))))
 refine c_loop2 (α := Nat) (fun (k : Nat) => trN xs xs.length = trN xs k ∧ k ≤ n) (fun (k : Nat) => [(3, .int .i64 ((k : Nat) : Int))]) (fun (k : Nat) => []) (fun (k : Nat) => k) [0] (er := [(0, _)]) rfl (n) ?_ (by exact ⟨rfl, trivial⟩) (by (try dsimp only); (try simp only [Nat.add_zero, Nat.zero_add]); (repeat ((with_reducible apply Z2); focus (first | (with_reducible (repeat (first | exact Z0 | apply Z1)); done) | (repeat (first | exact Z0 | apply Z1))))); exact Z3) ?_
 · exact ⟨by rw [hn], Nat.le_refl _⟩
 rintro k ⟨hk, hkn⟩
 try simp only [List.cons_append, List.nil_append]
 refine c_seq (c_seq (c_plain (.q 0 (.q 1 (.q 2 (.q 3 (.q 4 (.q 5 (.q 6 (.q 7 (.q 8 (.q 9 (.done))))))))))) (by kernel_rfl) ?_))
 refine q_move rfl rfl rfl rfl (q_int rfl rfl rfl rfl rfl (b_gtr _ _ _ _) ?_)
 refine q_move rfl rfl rfl rfl ?_
 refine s_bool_p 8 rfl (fun hk0 => ?_) (fun hk0 => ?_)
 ·
  obtain ⟨k, rfl⟩ : ∃ j, k = j + 1 := ⟨k - 1, by omega⟩
  obtain ⟨x, hx⟩ := get_lt (l := xs) (i := k) (by omega)
  refine q_move rfl rfl rfl rfl (q_move rfl rfl rfl rfl (q_int rfl rfl rfl rfl rfl (b_sub' _ (by exact fits_i64 (by omega) (by omega))) ?_))
  refine s_eq 11 rfl (v' := .int .i64 ((k : Nat) : Int)) (by congr 1; omega) ?_
  refine q_idxR (sz := 0) (k := k) rfl rfl rfl rfl rfl Try.underlying23 Try.sizeOf30 (hr) hx encU_len (by first | rfl | omega) (by omega) ?_
  intro ib12 io12 _ hd12
  refine q_load rfl rfl rfl rfl Try.isAgg30 Tk (hd12 0 (.int .u64 x) rfl) ?_
  refine q_int rfl rfl rfl rfl rfl (b_eql _ _ _ _) ?_
  refine q_pick_t rfl rfl rfl rfl rfl (r_done (k_then_n ?_))
  refine c_cond_p rfl (fun hz => ?_) (fun hz => ?_)
  ·
   have hz2 : trN xs (k + 1) = trN xs k := by rw [trN, if_pos (by rw [getD_mem hx]; exact hz)]
   refine c_skip (k_then_n (c_block (c_plain (.q 0 (.q 1 (.q 2 (.done)))) (by kernel_rfl) ?_)))
   refine q_move rfl rfl rfl rfl (q_int rfl rfl rfl rfl rfl (b_sub' _ (by exact fits_i64 (by omega) (by omega))) ?_)
   refine s_eq 17 rfl (v' := .int .i64 ((k : Nat) : Int)) (by congr 1; omega) ?_
   refine q_assign rfl rfl rfl rfl (r_done (s_keep [0, 3, 9, 10, 11, 12, 13, 14] (e' := [(0, _), (3, _), (9, _), (10, _), (11, _), (12, _), (13, _), (14, _)]) rfl ?_))
   refine k_blk_n (k_then_n ?_)
   refine loop_next (x := k + 1) (k) ?_ ?_ ?_ ?_
   · exact ⟨by rw [hk, hz2], by omega⟩
   · show k < k + 1; omega
   · exact ⟨rfl, rfl, trivial⟩
   · (try simp only [List.cons_append, List.nil_append]); exact Tf
  have hz2 : trN xs (k + 1) = k + 1 := by rw [trN, if_neg (by rw [getD_mem hx]; exact hz)]
  refine c_exit (k_then_exit (k_then_exit (k_blk_here (k_then_n (c_seq (c_plain (.q 0 (.q 1 (.q 2 (.q 3 (.done))))) (by kernel_rfl) ?_))))))
  refine q_move rfl rfl rfl rfl (q_move rfl rfl rfl rfl (q_cut_hi (h' := k + 1) rfl rfl rfl rfl rfl Try.underlying23 Try.sizeOf30 (by first | rfl | omega) (by omega) ?_))
  refine q_assign rfl rfl rfl rfl (r_done (s_keep [2] (e' := [(2, _)]) rfl ?_))
  refine k_then_n (c_ret (ret1 rfl rfl (()) (by rw [tr_len, hk, hz2]) (by trivial) ?_))
  exact Tf
 obtain rfl : k = 0 := by omega
 refine q_skip rfl rfl rfl rfl (q_skip rfl rfl rfl rfl (q_skip rfl rfl rfl rfl (q_skip rfl rfl rfl rfl (q_skip rfl rfl rfl rfl (q_skip rfl rfl rfl rfl (q_pick_f rfl rfl rfl rfl rfl (r_done (k_then_n ?_))))))))
 refine c_cond_f rfl ?_
 refine c_exit (k_then_exit (k_then_exit (k_blk_here (k_then_n (c_seq (c_plain (.q 0 (.q 1 (.q 2 (.q 3 (.done))))) (by kernel_rfl) ?_))))))
 refine q_move rfl rfl rfl rfl (q_move rfl rfl rfl rfl (q_cut_hi (h' := 0) rfl rfl rfl rfl rfl Try.underlying23 Try.sizeOf30 (by first | rfl | omega) (by omega) ?_))
 refine q_assign rfl rfl rfl rfl (r_done (s_keep [2] (e' := [(2, _)]) rfl ?_))
 refine k_then_n (c_ret (ret1 rfl rfl (()) (by rw [tr_len, hk]; rfl) (by trivial) ?_))
 exact Tf
theorem eq_spec (xs ys : List Int) (ao bo : Option Addr) (n m c d : Nat) (A : HProp) (hn : xs.length = n) (hr : RdS A ao (xs.flatMap encU)) (hm : ys.length = m) (hr2 : RdS A bo (ys.flatMap encU)) (hb : n ≤ 4000000000000) : Spec Try.prog 39 [.slice ao n c, .slice bo m d] [A] (fun (_ : Unit) => .bool (decide (xs = ys))) (fun _ => True) (fun _ => [A]) := by
 refine spec_mk (n := 26) Try.func39 rfl rfl rfl ?_
 intro Γ w0
 simp only [argE, List.cons_append, List.nil_append, Nat.zero_add, Nat.reduceAdd]
 refine c_seq (c_plain (.q 0 (.done)) (by kernel_rfl) ?_)
 refine q_assign rfl rfl rfl rfl (r_done (k_then_n (c_seq (c_seq (c_plain (.q 0 (.q 1 (.q 2 (.q 3 (.q 4 (.done)))))) (by kernel_rfl) ?_)))))
 refine q_move rfl rfl rfl rfl (q_len rfl rfl rfl rfl Try.underlying23 ?_)
 refine q_move rfl rfl rfl rfl (q_len rfl rfl rfl rfl Try.underlying23 ?_)
 refine q_int rfl rfl rfl rfl rfl (b_neq _ _ _ _) ?_
 refine r_done (s_keep [0, 1, 10] (e' := [(0, _), (1, _), (10, _)]) rfl ?_)
 refine k_then_n ?_
 refine c_cond_p rfl (fun hne => ?_) (fun hne => ?_)
 ·
  refine c_seq (c_plain (.q 0 (.done)) (by kernel_rfl) ?_)
  refine q_assign rfl rfl rfl rfl (r_done (k_then_n (c_ret (k_then_ret (ret1 rfl rfl (()) (by congr 1; symm; simp only [decide_eq_false_iff_not]; intro e; rw [e] at hn; omega) (by trivial) ?_)))))
  exact Tf
 refine c_skip (k_then_n (c_seq (c_seq (c_plain (.q 0 (.q 1 (.q 2 (.done)))) (by kernel_rfl) ?_))))
 refine q_move rfl rfl rfl rfl (q_len rfl rfl rfl rfl Try.underlying23 ?_)
 refine q_move rfl rfl rfl rfl (r_done (k_then_n (c_block ?_)))
 have hnm : n = m := by omega
 subst hnm
 refine c_loop2 (α := Nat) (fun (i : Nat) => i ≤ n ∧ (xs.take i = ys.take i)) (fun (i : Nat) => [(13, .int .i64 ((i : Nat) : Int))]) (fun (i : Nat) => []) (fun (i : Nat) => n - i) [0, 1, 12] (er := [(0, _), (1, _), (12, _)]) rfl (0) ?_ (by exact ⟨rfl, trivial⟩) (by (try dsimp only); (try simp only [Nat.add_zero, Nat.zero_add]); (repeat ((with_reducible apply Z2); focus (first | (with_reducible (repeat (first | exact Z0 | apply Z1)); done) | (repeat (first | exact Z0 | apply Z1))))); exact Z3) ?_
 · exact ⟨Nat.zero_le _, rfl⟩
 rintro i ⟨hle_i, ht⟩
 try simp only [List.cons_append, List.nil_append]
 refine c_seq (c_plain (.q 0 (.done)) (by kernel_rfl) ?_)
 refine q_int rfl rfl rfl rfl rfl (b_lss _ _ _ _) ?_
 refine r_done (k_then_n (c_seq ?_))
 refine c_cond_p rfl (fun hlt => ?_) (fun hlt => ?_)
 ·
  refine c_skip (k_then_n (c_seq (c_block (c_seq (c_plain (.q 0 (.q 1 (.done))) (by kernel_rfl) ?_)))))
  refine q_move rfl rfl rfl rfl (q_assign rfl rfl rfl rfl (r_done (k_then_n (c_seq (c_draw rfl (.q 0 (.q 1 (.q 2 (.q 3 (.q 4 (.q 5 (.q 6 (.q 7 (.q 8 (.done)))))))))) (by kernel_rfl) ?_)))))
  refine q_move rfl rfl rfl rfl (q_move rfl rfl rfl rfl ?_)
  obtain ⟨x, hx⟩ := get_lt (l := xs) (i := i) (by first | omega | (simp; done) | (simp; omega))
  refine q_idxR (sz := 0) (k := i) rfl rfl rfl rfl rfl Try.underlying23 Try.sizeOf30 (hr) hx encU_len (by first | rfl | omega) (by omega) ?_
  intro ib18 io18 _ hd18
  refine q_load rfl rfl rfl rfl Try.isAgg30 Tk (hd18 0 (.int .u64 x) rfl) ?_
  refine q_move rfl rfl rfl rfl (q_move rfl rfl rfl rfl ?_)
  obtain ⟨y, hy⟩ := get_lt (l := ys) (i := i) (by first | omega | (simp; done) | (simp; omega))
  refine q_idxR (sz := 0) (k := i) rfl rfl rfl rfl rfl Try.underlying23 Try.sizeOf30 (hr2) hy encU_len (by first | rfl | omega) (by omega) ?_
  intro ib22 io22 _ hd22
  refine q_load rfl rfl rfl rfl Try.isAgg30 Tk (hd22 0 (.int .u64 y) rfl) ?_
  refine q_int rfl rfl rfl rfl rfl (b_neq _ _ _ _) ?_
  refine r_done (s_keep [0, 1, 12, 13, 24] (e' := [(0, _), (1, _), (12, _), (13, _), (24, _)]) rfl ?_)
  refine k_then_n ?_
  refine c_cond_p rfl (fun hxy => ?_) (fun hxy => ?_)
  ·
   refine c_seq (c_plain (.q 0 (.done)) (by kernel_rfl) ?_)
   refine q_assign rfl rfl rfl rfl (r_done (s_keep [4] (e' := [(4, _)]) rfl ?_))
   refine k_then_n (c_ret (k_blk_ret (k_then_ret (k_then_ret (k_blk_ret (k_then_ret (ret1 rfl rfl (()) (by congr 1; symm; simp only [decide_eq_false_iff_not]; intro e; rw [e, hy] at hx; cases hx; exact hxy rfl) (by trivial) ?_)))))))
   exact Tf
  have hxy : x = y := Classical.byContradiction hxy
  refine c_skip (k_blk_n (k_then_n (c_plain (.q 0 (.q 1 (.done))) (by kernel_rfl) ?_)))
  refine q_int rfl rfl rfl rfl rfl (b_add' _ (by exact fits_i64 (by omega) (by omega))) ?_
  refine q_move rfl rfl rfl rfl (r_done (k_then_n ?_))
  refine loop_next (x := i) (i + 1) ?_ ?_ ?_ ?_
  · exact ⟨by omega, by rw [List.take_add_one, List.take_add_one, hx, hy, ht, hxy]⟩
  · show n - (i + 1) < n - i; omega
  · exact ⟨rfl, rfl, rfl, rfl, trivial⟩
  · (try simp only [List.cons_append, List.nil_append]); exact Tf
 refine c_exit (k_then_exit (k_then_exit (k_blk_here (k_then_n (c_seq (c_plain (.q 0 (.done)) (by kernel_rfl) ?_))))))
 refine q_assign rfl rfl rfl rfl (r_done (s_keep [4] (e' := [(4, _)]) rfl ?_))
 refine k_then_n (c_ret (ret1 rfl rfl (()) (by congr 1; symm; simp only [decide_eq_true_eq]; obtain rfl : i = n := (by omega); rw [List.take_of_length_le (by omega), List.take_of_length_le (by omega)] at ht; exact ht) (by trivial) ?_))
 exact Tf
theorem equal_spec (b b2 : Nat) (l m : List Int) (ao ao2 : Option Addr) (n cap n2 cap2 : Nat) (hn : l.length = n) (hn2 : m.length = n2) (hlr : CV l) (hmr : CV m) : Spec Try.prog 12 [.pointer (some ⟨b, 0, none⟩), .pointer (some ⟨b2, 0, none⟩)] [cells b 0 [.slice ao n cap], own 1 encU ao cap l, cells b2 0 [.slice ao2 n2 cap2], own 1 encU ao2 cap2 m] (fun (_ : Unit) => .bool (decide (l = m))) (fun _ => True) (fun _ => [cells b 0 [.slice ao n cap], own 1 encU ao cap l, cells b2 0 [.slice ao2 n2 cap2], own 1 encU ao2 cap2 m]) := by
 refine spec_mk (n := 22) Try.func12 rfl rfl rfl ?_
 intro Γ w0
 simp only [argE, List.cons_append, List.nil_append, Nat.zero_add, Nat.reduceAdd]
 have hlr1 := hlr.len
 have hmr1 := hmr.len
 refine c_seq (c_plain (.q 0 (.done)) (by kernel_rfl) ?_)
 refine q_assign rfl rfl rfl rfl (r_done (k_then_n (c_seq (c_draw rfl (.q 0 (.q 1 (.q 2 (.q 3 (.q 4 (.q 5 (.q 6 (.q 7 (.q 8 (.q 9 (.q 10 (.q 11 (.q 12 (.q 13 (.q 14 ((.l 15 [] (.q 16 (.q 17 (.done)))))))))))))))))))) (by kernel_rfl) ?_))))
 refine q_move rfl rfl rfl rfl (q_ne_nil rfl rfl rfl rfl Try.underlying25 ?_)
 refine s_eq 6 rfl (v' := .bool true) rfl ?_
 refine q_move rfl rfl rfl rfl (q_move rfl rfl rfl rfl (q_ne_nil rfl rfl rfl rfl Try.underlying25 ?_))
 refine s_eq 9 rfl (v' := .bool true) rfl ?_
 refine q_pick_t rfl rfl rfl rfl rfl (q_move rfl rfl rfl rfl (q_move rfl rfl rfl rfl (q_nil_p rfl rfl rfl rfl (q_field (k := 0) rfl rfl rfl rfl Try.underlying64 rfl Try.sizeOf23 rfl ?_))))
 refine q_load_c (j := 0) rfl rfl rfl rfl Try.isAgg23 Tk Az (by rfl) ?_
 refine q_move rfl rfl rfl rfl (q_nil_p rfl rfl rfl rfl (q_field (k := 0) rfl rfl rfl rfl Try.underlying64 rfl Try.sizeOf23 rfl ?_))
 refine q_load_c (j := 0) rfl rfl rfl rfl Try.isAgg23 Tk Az (by rfl) ?_
 refine s_take (A := own 1 encU ao cap l) Tk ?_
 refine own_fc fun f_1a f_1b f_1c => ?_
 refine s_take (A := own 1 encU ao2 cap2 m) Tk ?_
 refine own_fc fun f_2a f_2b f_2c => ?_
 refine s_heap (fun _ h => Bun.fold ((by (repeat ((with_reducible apply Z2); focus (first | (with_reducible (repeat (first | exact Z0 | apply Z1)); done) | (repeat (first | exact Z0 | apply Z1))))); exact Z3 : Takes _ [own 1 encU ao cap l, own 1 encU ao2 cap2 m] _) _ h)) ?_
 have sp_3 := eq_spec l m ao ao2 n n2 cap cap2 (Bun [own 1 encU ao cap l, own 1 encU ao2 cap2 m]) Ln (rds_bun (List.mem_cons_self) (rds_own encU_len (fun h => (f_1b h).1) f_1c)) Ln (rds_bun (List.mem_cons_of_mem _ (List.mem_cons_self)) (rds_own encU_len (fun h => (f_2b h).1) f_2c)) (by omega)
 refine l_call rfl rfl rfl rfl rfl rfl Try.call39 (sp_3) Ts ?_
 rintro ⟨⟩ -
 try simp only [List.cons_append, List.nil_append]
 refine s_take (A := Bun [own 1 encU ao cap l, own 1 encU ao2 cap2 m]) Tk ?_
 refine s_bun ?_
 try simp only [List.cons_append, List.nil_append]
 try simp only [List.cons_append, List.nil_append]
 refine ag_nil (q_pick_t rfl rfl rfl rfl rfl (q_assign rfl rfl rfl rfl (r_done (s_keep [4] (e' := [(4, _)]) rfl ?_))))
 refine k_then_n (c_ret (ret1 rfl rfl (()) (by first | rfl | (first | rfl | (congr 1; done) | (congr 1 <;> first | rfl | omega | (simp; done) | (simp; omega)))) (by trivial) ?_))
 exact Tf
theorem copy_spec (b : Nat) (l : List Int) (ao : Option Addr) (n cap : Nat) (hn : l.length = n) (hb : n ≤ 4000000000) : Spec Try.prog 21 [.pointer (some ⟨b, 0, none⟩)] [cells b 0 [.slice ao n cap], own 1 encU ao cap l] (fun (r : Nat × Option Addr × Nat) => .pointer (some ⟨r.1, 0, none⟩)) (fun r => True) (fun r => [cells b 0 [.slice ao n cap], own 1 encU ao cap l, cells r.1 0 [.slice r.2.1 n r.2.2], own 1 encU r.2.1 r.2.2 l]) := by
 refine spec_mk (n := 21) Try.func21 rfl rfl rfl ?_
 intro Γ w0
 simp only [argE, List.cons_append, List.nil_append, Nat.zero_add, Nat.reduceAdd]
 refine c_seq (c_plain (.q 0 (.done)) (by kernel_rfl) ?_)
 refine q_assign rfl rfl rfl rfl (r_done (k_then_n (c_seq (c_seq (c_plain (.q 0 (.q 1 (.done))) (by kernel_rfl) ?_)))))
 refine q_move rfl rfl rfl rfl (q_eq_nil rfl rfl rfl rfl Try.underlying25 ?_)
 refine s_eq 5 rfl (v' := .bool false) rfl ?_
 refine r_done (k_then_n (c_cond_f rfl ?_))
 refine c_skip (k_then_n (c_seq (c_plain (.q 0 (.q 1 (.q 2 (.q 3 (.q 4 ((.l 5 [] (.q 6 (.done))))))))) (by kernel_rfl) ?_)))
 refine q_move rfl rfl rfl rfl (q_nil_p rfl rfl rfl rfl (q_field (k := 0) rfl rfl rfl rfl Try.underlying64 rfl Try.sizeOf23 rfl ?_))
 refine q_load_c (j := 0) rfl rfl rfl rfl Try.isAgg23 Tk Az (by rfl) ?_
 refine q_len rfl rfl rfl rfl Try.underlying23 ?_
 refine l_make (sz := 1) (enc := encU) (len := n) (cap := n) (0) rfl rfl rfl rfl rfl (by first | rfl | omega) (by first | rfl | omega) Try.underlying23 Try.typeInfo30 rfl rfl rfl (by decide) (by omega) (by omega) (by show 8 * _ ≤ _; omega) (by rfl) (encU_len) ?_
 intro b11
 refine ag_nil (q_assign rfl rfl rfl rfl (r_done (s_keep [0, 3] (e' := [(0, _), (3, _)]) rfl ?_)))
 refine k_then_n (c_seq (c_plain (.q 0 (.q 1 (.q 2 (.q 3 (.q 4 ((.l 5 [] (.done)))))))) (by kernel_rfl) ?_))
 refine q_move rfl rfl rfl rfl (q_move rfl rfl rfl rfl (q_nil_p rfl rfl rfl rfl (q_field (k := 0) rfl rfl rfl rfl Try.underlying64 rfl Try.sizeOf23 rfl ?_)))
 refine q_load_c (j := 0) rfl rfl rfl rfl Try.isAgg23 Tk Az (by rfl) ?_
 refine s_take (A := own 1 encU ao cap l) Tk ?_
 refine own_fc fun f_1a f_1b f_1c => ?_
 refine l_copy (sz := 1) (enc := encU) (xs := (List.replicate n 0)) (ys := l) (A := own 1 encU ao cap l) rfl rfl rfl rfl rfl Try.underlying23 Try.sizeOf30 (by decide) encU_len encU_one Tk Tk (rds_own encU_len (fun h => (f_1b h).1) f_1c) Ln (by exact hn) (by omega) ?_
 rw [show (l ++ (List.replicate n 0).drop n) = l from by simp]
 refine ag_nil (r_done (s_keep [3] (e' := [(3, _)]) rfl ?_))
 refine k_then_n (c_seq (c_plain (.q 0 (.q 1 ((.l 2 [] (.q 3 (.done)))))) (by kernel_rfl) ?_))
 refine q_move rfl rfl rfl rfl (q_build rfl rfl rfl rfl (vs := [_]) (run_buildS Try.underlying64 Try.zeroValue64 (ps := [(0, 1)]) ⟨rfl, Try.sizeOf23, trivial⟩ rfl) ?_)
 refine l_box rfl rfl rfl rfl (us := [_]) rfl ?_
 intro b20
 refine ag_nil (q_assign rfl rfl rfl rfl (r_done (s_keep [2] (e' := [(2, _)]) rfl ?_)))
 refine k_then_n (c_ret (ret1 rfl rfl ((b20, some ⟨b11, 0, none⟩, n)) (by first | rfl | (first | rfl | (congr 1; done) | (congr 1 <;> first | rfl | omega | (simp; done) | (simp; omega)))) (by trivial) ?_))
 exact Tf
theorem fit_spec (xs : List Int) (ao : Option Addr) (n c : Nat) (A : HProp) (hn : xs.length = n) (hr : RdS A ao (xs.flatMap encU)) (hx_ : ∀ x ∈ xs, 0 ≤ x) (hb : n ≤ 4000000000) : Spec Try.prog 9 [.slice ao n c] [A] (fun (r : Option Addr × Nat) => .slice r.1 (fitL xs).length r.2) (fun r => True) (fun r => [A, own 1 encU r.1 r.2 (fitL xs)]) := by
 refine spec_mk (n := 24) Try.func9 rfl rfl rfl ?_
 intro Γ w0
 simp only [argE, List.cons_append, List.nil_append, Nat.zero_add, Nat.reduceAdd]
 refine c_seq (c_plain (.q 0 (.done)) (by kernel_rfl) ?_)
 refine q_assign rfl rfl rfl rfl (r_done (k_then_n (c_seq (c_plain (.q 0 (.done)) (by kernel_rfl) ?_))))
 refine q_assign rfl rfl rfl rfl (r_done (k_then_n (c_seq (c_seq (c_plain (.q 0 (.done)) (by kernel_rfl) ?_)))))
 refine q_assign rfl rfl rfl rfl (r_done (k_then_n (c_block (s_heap (fun _ h => own_nil (sz := 1) (enc := encU) h) ?_))))
 refine c_loop2 (α := Nat × Option Addr × Nat) (fun (x_ : Nat × Option Addr × Nat) => match x_ with | (i, oa, oc) => i ≤ n ∧ (i ≤ 300)) (fun (x_ : Nat × Option Addr × Nat) => match x_ with | (i, oa, oc) => [(3, .slice oa (((xs.take i).map (fun x => x % 281474976710656)).length) oc), (4, .int .i64 ((i : Nat) : Int))]) (fun (x_ : Nat × Option Addr × Nat) => match x_ with | (i, oa, oc) => [own 1 encU oa oc ((xs.take i).map (fun x => x % 281474976710656))]) (fun (x_ : Nat × Option Addr × Nat) => match x_ with | (i, oa, oc) => n - i) [0] (er := [(0, _)]) rfl (0, none, 0) ?_ (by exact ⟨rfl, rfl, trivial⟩) (by (try dsimp only); (try simp only [Nat.add_zero, Nat.zero_add]); (repeat ((with_reducible apply Z2); focus (first | (with_reducible (repeat (first | exact Z0 | apply Z1)); done) | (repeat (first | exact Z0 | apply Z1))))); exact Z3) ?_
 · exact ⟨Nat.zero_le _, by omega⟩
 rintro ⟨i, oa, oc⟩ ⟨hle_i, h300⟩
 try simp only [List.cons_append, List.nil_append]
 have hfl : ((xs.take i).map (fun x => x % 281474976710656)).length = i := by rw [List.length_map, List.length_take]; omega
 refine c_seq (c_seq (c_plain (.q 0 (.q 1 (.q 2 (.q 3 (.q 4 (.q 5 (.q 6 (.q 7 (.done))))))))) (by kernel_rfl) ?_))
 refine q_move rfl rfl rfl rfl (q_move rfl rfl rfl rfl (q_len rfl rfl rfl rfl Try.underlying23 ?_))
 refine q_int rfl rfl rfl rfl rfl (b_lss _ _ _ _) ?_
 refine q_move rfl rfl rfl rfl ?_
 refine s_bool_p 9 rfl (fun hg4 => ?_) (fun hg4 => ?_)
 ·
  refine q_move rfl rfl rfl rfl (q_int rfl rfl rfl rfl rfl (b_lss _ _ _ _) ?_)
  refine q_pick_t rfl rfl rfl rfl rfl (r_done (s_keep [0, 3, 4, 10, 11, 12] (e' := [(0, _), (3, _), (4, _), (10, _), (11, _), (12, _)]) rfl ?_))
  refine k_then_n ?_
  refine c_cond_p rfl (fun h3 => ?_) (fun h3 => ?_)
  ·
   obtain ⟨x, hx⟩ := get_lt (l := xs) (i := i) (by omega)
   have hx0 := hx_ x (List.mem_of_getElem? hx)
   refine c_skip (k_then_n (c_seq (c_block (c_plain (.q 0 (.q 1 (.q 2 (.q 3 (.q 4 (.q 5 ((.l 6 [] ((.l 7 [] (.q 8 (.done)))))))))))) (by kernel_rfl) ?_))))
   refine q_move rfl rfl rfl rfl (q_move rfl rfl rfl rfl (q_move rfl rfl rfl rfl (q_idxR (sz := 0) (k := i) rfl rfl rfl rfl rfl Try.underlying23 Try.sizeOf30 (hr) hx encU_len (by first | rfl | omega) (by omega) ?_)))
   intro ib18 io18 _ hd18
   refine q_load rfl rfl rfl rfl Try.isAgg30 Tk (hd18 0 (.int .u64 x) rfl) ?_
   refine q_int rfl rfl rfl rfl rfl (b_rem _ (by omega) (by omega)) ?_
   refine l_buildSlice rfl rfl rfl rfl (run_build1 (us := [_]) Try.underlying23 Try.sizeOf30 rfl Try.zeroValue30 rfl rfl rfl) ?_
   intro b21
   refine ag_nil (l_append (sz := 1) (enc := encU) (xs := ((xs.take i).map (fun x => x % 281474976710656))) rfl rfl rfl rfl rfl Try.underlying23 Try.typeInfo30 rfl rfl rfl (by decide) Tk Tk (by first | rfl | omega | (simp; done) | (simp; omega)) (ys := [(x % 281474976710656)]) (rds_some rdn_cells) (by rfl) (by first | rfl | omega) (encU_len) (encU_one) (by omega) (by show _ * 8 ≤ _; omega) ?_)
   intro ao22 cp22
   refine ag_nil (q_assign rfl rfl rfl rfl (r_done (s_keep [0, 3, 4, 10, 11] (e' := [(0, _), (3, _), (4, _), (10, _), (11, _)]) rfl ?_)))
   refine k_blk_n (k_then_n (c_plain (.q 0 (.q 1 (.q 2 (.done)))) (by kernel_rfl) ?_))
   refine q_move rfl rfl rfl rfl (q_int rfl rfl rfl rfl rfl (b_add' _ (by exact fits_i64 (by omega) (by omega))) ?_)
   refine q_assign rfl rfl rfl rfl (r_done (k_then_n ?_))
   have hnx : ((xs.take i).map (fun x => x % 281474976710656)) ++ [x % 281474976710656] = ((xs.take (i + 1)).map (fun x => x % 281474976710656)) := by rw [List.take_add_one, hx, List.map_append]; rfl
   rw [hnx]
   have hfl2 : ((xs.take (i + 1)).map (fun x => x % 281474976710656)).length = i + 1 := by rw [← hnx, List.length_append, hfl]; rfl
   refine s_eq 3 rfl (v' := .slice ao22 ((xs.take (i + 1)).map (fun x => x % 281474976710656)).length cp22) (by rw [hfl2]; congr 1; first | rfl | omega) ?_
   refine s_eq 3 rfl (v' := .slice ao22 (((xs.take (i + 1)).map (fun x => x % 281474976710656)).length) cp22) (by rfl) ?_
   refine loop_next (x := (i, oa, oc)) ((i + 1, ao22, cp22)) ?_ ?_ ?_ ?_
   · try dsimp only
     exact ⟨by omega, by omega⟩
   · show n - (i + 1) < n - i; omega
   · exact ⟨rfl, rfl, rfl, trivial⟩
   · (try simp only [List.cons_append, List.nil_append]); exact Tf
  refine c_exit (k_then_exit (k_then_exit (k_blk_here (k_then_n (c_seq (c_plain (.q 0 (.q 1 (.done))) (by kernel_rfl) ?_))))))
  refine q_move rfl rfl rfl rfl (q_assign rfl rfl rfl rfl (r_done (s_keep [2] (e' := [(2, _)]) rfl ?_)))
  refine k_then_n (c_ret ?_)
  have hend : ((xs.take i).map (fun x => x % 281474976710656)) = fitL xs := by unfold fitL; rw [show xs.take i = xs.take 300 from by
      rcases Nat.lt_or_ge i 300 with h | h
      · rw [List.take_of_length_le (by omega), List.take_of_length_le (by omega)]
      · rw [show i = 300 by omega]]
  rw [hend]
  try rw [hend] at hfl
  refine ret1 rfl rfl ((oa, oc)) (by first | rfl | (first | rfl | (congr 1; done) | (congr 1 <;> first | rfl | omega | (simp; done) | (simp; omega)))) (by trivial) ?_
  exact Tf
 refine q_skip rfl rfl rfl rfl (q_skip rfl rfl rfl rfl (q_pick_f rfl rfl rfl rfl rfl (r_done (s_keep [0, 3, 4, 10, 11, 12] (e' := [(0, _), (3, _), (4, _), (10, _), (11, _), (12, _)]) rfl ?_))))
 refine k_then_n (c_cond_f rfl ?_)
 refine c_exit (k_then_exit (k_then_exit (k_blk_here (k_then_n (c_seq (c_plain (.q 0 (.q 1 (.done))) (by kernel_rfl) ?_))))))
 refine q_move rfl rfl rfl rfl (q_assign rfl rfl rfl rfl (r_done (s_keep [2] (e' := [(2, _)]) rfl ?_)))
 refine k_then_n (c_ret ?_)
 have hend : ((xs.take i).map (fun x => x % 281474976710656)) = fitL xs := by unfold fitL; rw [show xs.take i = xs.take 300 from by
     rcases Nat.lt_or_ge i 300 with h | h
     · rw [List.take_of_length_le (by omega), List.take_of_length_le (by omega)]
     · rw [show i = 300 by omega]]
 rw [hend]
 try rw [hend] at hfl
 refine ret1 rfl rfl ((oa, oc)) (by first | rfl | (first | rfl | (congr 1; done) | (congr 1 <;> first | rfl | omega | (simp; done) | (simp; omega)))) (by trivial) ?_
 exact Tf
theorem made_spec (xs : List Int) (ao : Option Addr) (n c : Nat) (A : HProp) (hn : xs.length = n) (hr : RdS A ao (xs.flatMap encU)) (hl : n ≤ 65535) (hx_ : ∀ x ∈ xs, 0 ≤ x ∧ x ≤ maxC) : Spec Try.prog 10 [.slice ao n c] [A] (fun (r : Nat × Option Addr × Nat) => .tuple #[.pointer (some ⟨r.1, 0, none⟩), .bool true]) (fun r => True) (fun r => [A, cells r.1 0 [.slice r.2.1 (tr xs).length r.2.2], own 1 encU r.2.1 r.2.2 (tr xs)]) := by
 refine spec_mk (n := 19) Try.func10 rfl rfl rfl ?_
 intro Γ w0
 simp only [argE, List.cons_append, List.nil_append, Nat.zero_add, Nat.reduceAdd]
 refine c_seq (c_plain (.q 0 (.q 1 (.done))) (by kernel_rfl) ?_)
 refine q_assign rfl rfl rfl rfl (q_assign rfl rfl rfl rfl (r_done (k_then_n (c_seq (c_plain (.q 0 ((.l 1 [] (.q 2 (.q 3 (.q 4 (.q 5 (.q 6 (.done))))))))) (by kernel_rfl) ?_)))))
 refine q_move rfl rfl rfl rfl ?_
 have sp_1 := of_spec xs ao n c A Ln (hr) (by omega) (by exact hx_)
 refine l_call rfl rfl rfl rfl rfl rfl Try.call37 (sp_1) Ts ?_
 rintro ⟨qb, qa, qc⟩ -
 try simp only [List.cons_append, List.nil_append]
 refine ag_nil (q_move rfl rfl rfl rfl (q_extract rfl rfl rfl rfl rfl (q_extract rfl rfl rfl rfl rfl (q_assign rfl rfl rfl rfl (q_assign rfl rfl rfl rfl (r_done (s_keep [4, 5] (e' := [(4, _), (5, _)]) rfl ?_)))))))
 refine k_then_n (c_seq (c_plain (.q 0 (.q 1 (.q 2 (.q 3 (.q 4 ((.l 5 [] (.q 6 (.q 7 (.q 8 (.q 9 (.done)))))))))))) (by kernel_rfl) ?_))
 refine q_move rfl rfl rfl rfl (q_move rfl rfl rfl rfl (q_ne_nil rfl rfl rfl rfl Try.underlying25 ?_))
 refine s_eq 13 rfl (v' := .bool true) rfl ?_
 refine q_move rfl rfl rfl rfl (q_move rfl rfl rfl rfl ?_)
 have sp_2 := num_spec 0
 refine l_call rfl rfl rfl rfl rfl rfl Try.call23 (sp_2) Ts ?_
 rintro ⟨⟩ -
 try simp only [List.cons_append, List.nil_append]
 refine ag_nil (q_int rfl rfl rfl rfl rfl (b_eql _ _ _ _) ?_)
 refine s_eq 17 rfl (v' := .bool true) (by first | rfl | simp) ?_
 refine q_pick_t rfl rfl rfl rfl rfl (s_eq 18 rfl (v' := .bool true) (by rfl) ?_)
 refine q_assign rfl rfl rfl rfl (q_assign rfl rfl rfl rfl (r_done (s_keep [2, 3] (e' := [(2, _), (3, _)]) rfl ?_)))
 refine k_then_n (c_ret (ret2 rfl rfl rfl ((qb, qa, qc)) (by first | rfl | (first | rfl | (congr 1; done) | (congr 1 <;> first | rfl | omega | (simp; done) | (simp; omega)))) (by trivial) ?_))
 exact Tf
end Go.Ab.Vc
set_option linter.unusedVariables false
set_option linter.unusedSimpArgs false
set_option maxRecDepth 100000
namespace Go.Ab.Vc
open Go Go.Proofs Go.Ab
theorem leq_refl (l : List Int) : LeqL l l := ⟨Nat.le_refl _, fun _ _ => Int.le_refl _⟩
theorem leq_anti {l m : List Int} (hl : CV l) (hm : CV m) (h1 : LeqL l m) (h2 : LeqL m l) : l = m :=
  Tr_ext hl.tr hm.tr fun i => Int.le_antisymm ((leq_iff hl hm).1 h1 i) ((leq_iff hm hl).1 h2 i)
theorem rds_take {α : Type} {A : HProp} {ao : Option Addr} {sz : Nat} {enc : α → List Value} {xs : List α} (h : RdS A ao (xs.flatMap enc)) (hsz : ∀ x, (enc x).length = sz) (k : Nat) : RdS A ao ((xs.take k).flatMap enc) := by
  rcases h with h | ⟨b, o, h1, h2⟩
  · left
    rw [← List.take_append_drop k xs, List.flatMap_append, List.append_eq_nil_iff] at h
    exact h.1
  · refine .inr ⟨b, o, h1, fun i v hv => h2 i v ?_⟩
    rw [← List.take_append_drop k xs, List.flatMap_append, List.getElem?_append_left]
    · exact hv
    · exact (List.getElem?_eq_some_iff.1 hv).1
theorem leq_self (b : Nat) (l : List Int) (ao : Option Addr) (n cap : Nat) (hn : l.length = n) (hb : n ≤ 4000000000) : Spec Try.prog 15 [.pointer (some ⟨b, 0, none⟩), .pointer (some ⟨b, 0, none⟩)] [cells b 0 [.slice ao n cap], own 1 encU ao cap l] (fun (_ : Unit) => .bool true) (fun _ => True) (fun _ => [cells b 0 [.slice ao n cap], own 1 encU ao cap l]) := by
 refine spec_mkM (n := 42) Try.func15 rfl rfl rfl ?_
 intro Γ w0
 simp only [argE, List.cons_append, List.nil_append, Nat.zero_add, Nat.reduceAdd]
 refine c_seq (c_plain ((.l 0 [] ((.l 1 [] (.done))))) (by kernel_rfl) ?_)
 refine l_box rfl rfl rfl rfl (us := [_]) rfl ?_
 intro b3
 refine ag_nil (l_alloc rfl rfl rfl Try.zeroValue4 (zs := [.bool false]) rfl ?_)
 intro b4
 refine ag_nil (r_done (k_then_n (c_seq (c_seq (c_draw rfl (.q 0 (.q 1 (.q 2 (.q 3 (.q 4 (.q 5 (.q 6 (.q 7 (.q 8 (.q 9 (.q 10 (.q 11 (.q 12 (.q 13 (.q 14 (.q 15 (.q 16 (.q 17 (.q 18 (.done)))))))))))))))))))) (by kernel_rfl) ?_)))))
 refine q_move rfl rfl rfl rfl (q_eq_nil rfl rfl rfl rfl Try.underlying25 ?_)
 refine s_eq 8 rfl (v' := .bool false) rfl ?_
 refine q_move rfl rfl rfl rfl (q_load_c (j := 0) rfl rfl rfl rfl Try.isAgg25 Tk Az (by rfl) ?_)
 refine q_eq_nil rfl rfl rfl rfl Try.underlying25 ?_
 refine s_eq 11 rfl (v' := .bool false) rfl ?_
 refine q_pick_f rfl rfl rfl rfl rfl (q_move rfl rfl rfl rfl (q_move rfl rfl rfl rfl (q_nil_p rfl rfl rfl rfl (q_field (k := 0) rfl rfl rfl rfl Try.underlying64 rfl Try.sizeOf23 rfl ?_))))
 refine q_load_c (j := 0) rfl rfl rfl rfl Try.isAgg23 Tk Az (by rfl) ?_
 refine q_len rfl rfl rfl rfl Try.underlying23 ?_
 refine q_load_c (j := 0) rfl rfl rfl rfl Try.isAgg25 Tk Az (by rfl) ?_
 refine q_nil_p rfl rfl rfl rfl (q_field (k := 0) rfl rfl rfl rfl Try.underlying64 rfl Try.sizeOf23 rfl ?_)
 refine q_load_c (j := 0) rfl rfl rfl rfl Try.isAgg23 Tk Az (by rfl) ?_
 refine q_len rfl rfl rfl rfl Try.underlying23 ?_
 refine q_int rfl rfl rfl rfl rfl (b_gtr _ _ _ _) ?_
 refine q_pick_f rfl rfl rfl rfl rfl (r_done (s_keep [0, 3, 4, 25] (e' := [(0, _), (3, _), (4, _), (25, _)]) rfl ?_))
 refine k_then_n ?_
 refine c_cond_p rfl (fun hg => by exfalso; omega) (fun hg => ?_)
 refine c_skip (k_then_n (c_seq (c_seq (c_plain (.q 0 (.q 1 (.q 2 (.q 3 ((.l 4 [] (.done))))))) (by kernel_rfl) ?_))))
 refine q_move rfl rfl rfl rfl (q_nil_p rfl rfl rfl rfl (q_field (k := 0) rfl rfl rfl rfl Try.underlying64 rfl Try.sizeOf23 rfl ?_))
 refine q_load_c (j := 0) rfl rfl rfl rfl Try.isAgg23 Tk Az (by rfl) ?_
 have sp_1 := over_spec ao n cap
 refine l_call rfl rfl rfl rfl rfl rfl Try.call40 (sp_1) Ts ?_
 rintro bx -
 try simp only [List.cons_append, List.nil_append]
 refine ag_nil (r_done (s_keep [3, 4, 30] (e' := [(3, _), (4, _), (30, _)]) rfl ?_))
 refine k_then_n (c_block (s_take (A := own 1 encU ao cap l) Tk ?_))
 refine own_fc fun hp1 hp2 hp3 => ?_
 refine s_heap (fun _ h => Bun.fold ((by (repeat ((with_reducible apply Z2); focus (first | (with_reducible (repeat (first | exact Z0 | apply Z1)); done) | (repeat (first | exact Z0 | apply Z1))))); exact Z3 : Takes _ [cells b3 0 [.pointer (some ⟨b, 0, none⟩)], cells b 0 [.slice ao n cap], cells b4 0 [.bool false]] _) _ h)) ?_
 refine c_rangeF _ rfl Try.call65 (fun lp => over1_spec (σ := Unit) l ao n cap bx (own 1 encU ao cap l) hn (rds_own encU_len (fun h => (hp2 h).1) hp3) (by omega) (yv lp) (LoopJ lp _ _ _ _ _) (fun (_ : Unit) => Bun [cells b3 0 [.pointer (some ⟨b, 0, none⟩)], cells b 0 [.slice ao n cap], cells b4 0 [.bool false]]) (fun i _ => True) (fun _ c => False) (fun i x s hx hxz hI => callF_yield rfl (by decide) (by decide) (fun Γ w0 => ?_)) (fun i s hx hI => trivial) () trivial) Ts ?_
 ·
  try simp only [zipE, List.cons_append, List.nil_append]
  refine s_take (A := Bun [cells b3 0 [.pointer (some ⟨b, 0, none⟩)], cells b 0 [.slice ao n cap], cells b4 0 [.bool false]]) Tk ?_
  refine s_bun ?_
  try simp only [List.cons_append, List.nil_append]
  have hil : i < l.length := (List.getElem?_eq_some_iff.1 hx).1
  refine c_seq (c_plain (.q 0 (.done)) (by kernel_rfl) ?_)
  refine q_assign rfl rfl rfl rfl (r_done (k_then_n (c_plain (.q 0 (.done)) (by kernel_rfl) ?_)))
  refine q_assign rfl rfl rfl rfl (r_done (k_then_n (k_begin Tk ?_)))
  refine c_block (c_seq (c_plain (.q 0 (.q 1 (.q 2 (.q 3 (.q 4 (.q 5 (.q 6 (.q 7 (.q 8 (.done)))))))))) (by kernel_rfl) ?_))
  refine q_move rfl rfl rfl rfl (q_load_c (j := 0) rfl rfl rfl rfl Try.isAgg25 Tk Az (by rfl) ?_)
  refine q_nil_p rfl rfl rfl rfl (q_field (k := 0) rfl rfl rfl rfl Try.underlying64 rfl Try.sizeOf23 rfl ?_)
  refine q_load_c (j := 0) rfl rfl rfl rfl Try.isAgg23 Tk Az (by rfl) ?_
  refine q_move rfl rfl rfl rfl (q_idxR (sz := 0) (k := i) rfl rfl rfl rfl rfl Try.underlying23 Try.sizeOf30 ((rds_own (cap := cap) encU_len (fun h => (hp2 h).1) hp3)) hx encU_len (by first | rfl | omega) (by omega) ?_)
  intro ib39 io39 _ hd39
  refine q_load rfl rfl rfl rfl Try.isAgg30 Tk (hd39 0 (.int .u64 x) rfl) ?_
  refine q_int rfl rfl rfl rfl rfl (b_gtr _ _ _ _) ?_
  refine r_done (s_keep [4, 41] (e' := [(4, _), (41, _)]) rfl ?_)
  refine k_then_n ?_
  refine c_cond_p rfl (fun hg => by exfalso; omega) (fun hg => ?_)
  refine c_skip (k_blk_n (s_heap (fun _ h => Bun.fold ((by (repeat ((with_reducible apply Z2); focus (first | (with_reducible (repeat (first | exact Z0 | apply Z1)); done) | (repeat (first | exact Z0 | apply Z1))))); exact Z3 : Takes _ [cells b3 0 [.pointer (some ⟨b, 0, none⟩)], cells b 0 [.slice ao n cap], cells b4 0 [.bool false]] _) _ h)) ?_))
  refine rr_n (((), none)) (by rfl) (by exact ⟨fun _ => trivial, fun c hc => (by cases hc)⟩) Tk ?_
  (try simp only [List.cons_append, List.nil_append]); exact Tf
 rintro ⟨⟨⟩, p1⟩ (⟨h1, h2⟩ | ⟨c_, h1, h2⟩) blk_2
 try simp only [List.cons_append, List.nil_append]
 ·
  simp only at h1
  subst h1
  show Le _ _
  try simp only [List.cons_append, List.nil_append]
  refine s_take (A := Bun [cells b3 0 [.pointer (some ⟨b, 0, none⟩)], cells b 0 [.slice ao n cap], cells b4 0 [.bool false]]) Tk ?_
  refine s_bun ?_
  try simp only [List.cons_append, List.nil_append]
  refine k_blk_n (k_then_n (c_seq (c_plain ((.l 0 [] (.done))) (by kernel_rfl) ?_)))
  refine l_store (j := 0) rfl rfl rfl rfl Try.sizeOf4 (us := [_]) rfl rfl rfl Tk Az (by first | decide | (simp; done) | omega) ?_
  simp only [setL, List.set]
  refine ag_nil (r_done (k_then_n (c_ret (rm_ret ?_))))
  refine rm_mark (blk := blk_2) Tk ?_
  refine rm_done (us := [_]) rfl ⟨rv_cell1 rfl Try.isAgg4 Tk (j := 0) rfl rfl, trivial⟩ (()) (by first | rfl | (first | rfl | (congr 1; done) | (congr 1 <;> first | rfl | omega | (simp; done) | (simp; omega)))) (by trivial) ?_
  exact Tf
 exact h2.elim
end Go.Ab.Vc
set_option linter.unusedVariables false
set_option linter.unusedSimpArgs false
set_option maxRecDepth 100000
namespace Go.Ab.Vc
open Go Go.Proofs Go.Ab
/-- A clock set. -/
def stL (l : List Int) (i : Nat) (v : Int) : List Int := tr ((pd l (i + 1)).set i v)
theorem stL_g (l : List Int) (i : Nat) (v : Int) (k : Nat) : (stL l i v).getD k 0 = if k = i then v else l.getD k 0 := by
  rw [stL, tr_g]
  have hp : i < (pd l (i + 1)).length := by rw [pd_len]; omega
  by_cases hk : k = i
  · subst hk; rw [if_pos rfl]; exact getD_mem (List.getElem?_set_self hp)
  · rw [if_neg hk, ← pd_g l (i + 1) k]; simp only [List.getD_eq_getElem?_getD]; rw [List.getElem?_set_ne (Ne.symm hk)]
theorem pd_cv {l : List Int} (hl : CV l) (m : Nat) : ∀ x ∈ pd l m, 0 ≤ x ∧ x ≤ maxC := fun x hx => by
  rcases List.mem_append.1 hx with h | h
  · exact hl.rng x h
  · rw [(List.mem_replicate.1 h).2]; decide
theorem stL_cv {l : List Int} {i : Nat} {v : Int} (hl : CV l) (hi : i < 65535) (h0 : 0 ≤ v) (h1 : v ≤ maxC) : CV (stL l i v) := by
  have h2 := hl.len
  refine tr_cv (by rw [List.length_set, pd_len]; omega) fun x hx => ?_
  rcases List.mem_or_eq_of_mem_set hx with h | rfl
  · exact pd_cv hl _ x h
  · exact ⟨h0, h1⟩
/-- A clock one on. -/
def icL (l : List Int) (i : Nat) : List Int := (pd l (i + 1)).set i (l.getD i 0 + 1)
theorem icL_g (l : List Int) (i k : Nat) : (icL l i).getD k 0 = if k = i then l.getD i 0 + 1 else l.getD k 0 := by
  have hp : i < (pd l (i + 1)).length := by rw [pd_len]; omega
  rw [icL]
  by_cases hk : k = i
  · subst hk; rw [if_pos rfl]; exact getD_mem (List.getElem?_set_self hp)
  · rw [if_neg hk, ← pd_g l (i + 1) k]; simp only [List.getD_eq_getElem?_getD]; rw [List.getElem?_set_ne (Ne.symm hk)]
theorem icL_cv {l : List Int} {i : Nat} (hl : CV l) (hi : i < 65535) (h1 : l.getD i 0 < maxC) : CV (icL l i) := by
  have h2 := hl.len
  have h3 := g_rng hl.rng (by decide) i
  have hlen : (icL l i).length = max l.length (i + 1) := by rw [icL, List.length_set, pd_len]
  refine ⟨.inr ?_, by omega, fun x hx => ?_⟩
  · rw [hlen, icL_g]
    split
    · omega
    · rename_i h
      have h5 : max l.length (i + 1) - 1 = l.length - 1 := by omega
      rw [h5]
      rcases hl.tr with e | e
      · rw [e] at h; simp at h
      · exact e
  · rcases List.mem_or_eq_of_mem_set hx with h | rfl
    · exact pd_cv hl _ x h
    · omega
theorem nil_cv : CV [] := ⟨.inl rfl, by simp, fun x h => (by cases h)⟩
theorem wrong_spec (b i : Nat) (hi : i < 65535) : Spec Try.prog 42 [.pointer (some ⟨b, 0, none⟩), .int .i64 ((i : Nat) : Int)] [] (fun (_ : Unit) => .int .i64 0) (fun _ => True) (fun _ => []) := by
 refine spec_mk (n := 15) Try.func42 rfl rfl rfl ?_
 intro Γ w0
 simp only [argE, List.cons_append, List.nil_append, Nat.zero_add, Nat.reduceAdd]
 refine c_seq (c_plain (.q 0 (.done)) (by kernel_rfl) ?_)
 refine q_assign rfl rfl rfl rfl (r_done (k_then_n (c_seq (c_block (c_seq (c_plain (.q 0 (.q 1 (.q 2 (.done)))) (by kernel_rfl) ?_))))))
 refine q_move rfl rfl rfl rfl (q_eq_nil rfl rfl rfl rfl Try.underlying25 ?_)
 refine s_eq 7 rfl (v' := .bool false) rfl ?_
 refine q_assign rfl rfl rfl rfl (r_done (s_keep [1, 5] (e' := [(1, _), (5, _)]) rfl ?_))
 refine k_then_n (c_cond_f rfl ?_)
 refine c_seq (c_plain (.q 0 (.q 1 (.q 2 (.q 3 (.q 4 (.q 5 (.q 6 (.done)))))))) (by kernel_rfl) ?_)
 refine q_move rfl rfl rfl rfl (q_int rfl rfl rfl rfl rfl (b_lss _ _ _ _) ?_)
 refine q_move rfl rfl rfl rfl ?_
 refine s_bool_p 11 rfl (fun hg => by exfalso; omega) (fun hg => ?_)
 refine q_move rfl rfl rfl rfl (q_int rfl rfl rfl rfl rfl (b_geq _ _ _ _) ?_)
 refine q_pick_f rfl rfl rfl rfl rfl (q_assign rfl rfl rfl rfl (r_done (s_keep [8] (e' := [(8, _)]) rfl ?_)))
 refine k_then_n ?_
 refine c_cond_p rfl (fun hg => by exfalso; omega) (fun hg => ?_)
 refine c_skip (k_blk_n (k_then_n (c_seq (c_plain (.q 0 (.done)) (by kernel_rfl) ?_))))
 refine q_assign rfl rfl rfl rfl (r_done (k_then_n (c_ret (ret1 rfl rfl (()) (by first | rfl | (first | rfl | (congr 1; done) | (congr 1 <;> first | rfl | omega | (simp; done) | (simp; omega)))) (by trivial) ?_))))
 exact Tf
theorem set_spec (b : Nat) (l : List Int) (ao : Option Addr) (n cap : Nat) (hn : l.length = n) (hl : CV l) (i : Nat) (hi : i < 65535) (v : Int) (hv0 : 0 ≤ v) (hv1 : v ≤ maxC) : Spec Try.prog 24 [.pointer (some ⟨b, 0, none⟩), .int .i64 ((i : Nat) : Int), .int .u64 v] [cells b 0 [.slice ao n cap], own 1 encU ao cap l] (fun (r : Option Addr × Nat) => .int .i64 0) (fun r => True) (fun r => [cells b 0 [.slice r.1 (stL l i v).length r.2], own 1 encU r.1 r.2 (stL l i v)]) := by
 refine spec_mk (n := 28) Try.func24 rfl rfl rfl ?_
 intro Γ w0
 simp only [argE, List.cons_append, List.nil_append, Nat.zero_add, Nat.reduceAdd]
 have hll := hl.len
 refine c_seq (c_plain (.q 0 (.done)) (by kernel_rfl) ?_)
 refine q_assign rfl rfl rfl rfl (r_done (k_then_n (c_seq (c_seq (c_plain (.q 0 (.q 1 ((.l 2 [] (.q 3 (.done)))))) (by kernel_rfl) ?_)))))
 refine q_move rfl rfl rfl rfl (q_move rfl rfl rfl rfl ?_)
 have sp_1 := wrong_spec b i (by omega)
 refine l_call rfl rfl rfl rfl rfl rfl Try.call42 (sp_1) Ts ?_
 rintro ⟨⟩ -
 try simp only [List.cons_append, List.nil_append]
 refine ag_nil (q_assign rfl rfl rfl rfl (r_done (s_keep [0, 1, 2, 7] (e' := [(0, _), (1, _), (2, _), (7, _)]) rfl ?_)))
 refine k_then_n (c_seq (c_plain (.q 0 (.q 1 (.done))) (by kernel_rfl) ?_))
 refine q_move rfl rfl rfl rfl (q_int rfl rfl rfl rfl rfl (b_neq _ _ _ _) ?_)
 refine s_eq 12 rfl (v' := .bool false) (by first | rfl | simp) ?_
 refine r_done (k_then_n (c_cond_f rfl ?_))
 refine c_skip (k_then_n (c_seq (c_seq (c_plain (.q 0 (.q 1 (.done))) (by kernel_rfl) ?_))))
 refine q_move rfl rfl rfl rfl (q_int rfl rfl rfl rfl rfl (b_gtr _ _ _ _) ?_)
 refine r_done (s_keep [0, 1, 2, 15] (e' := [(0, _), (1, _), (2, _), (15, _)]) rfl ?_)
 refine k_then_n ?_
 refine c_cond_p rfl (fun hg => by exfalso; simp only [maxC] at hv1; omega) (fun hg => ?_)
 refine c_skip (k_then_n (c_seq (c_plain (.q 0 (.q 1 ((.l 2 [] (.done))))) (by kernel_rfl) ?_)))
 refine q_move rfl rfl rfl rfl (q_move rfl rfl rfl rfl (s_eq 17 rfl (v' := .int .i64 ((((i + 1 : Nat)) : Int) - 1)) (by congr 1; omega) ?_))
 have sp_2 := reach_spec b l (i + 1) ao n cap Ln (by omega)
 refine l_call rfl rfl rfl rfl rfl rfl Try.call43 (sp_2) Ts ?_
 rintro ⟨re_a, re_c⟩ -
 try simp only [List.cons_append, List.nil_append]
 refine ag_nil (r_done (s_keep [0, 1, 2] (e' := [(0, _), (1, _), (2, _)]) rfl ?_))
 refine k_then_n (c_seq ?_)
 have hpl := pd_len l (i + 1)
 obtain ⟨x, hx⟩ := get_lt (l := pd l (i + 1)) (i := i) (by omega)
 refine c_plain (.q 0 (.q 1 (.q 2 (.q 3 (.q 4 (.q 5 (.q 6 ((.l 7 [] (.done)))))))))) (by kernel_rfl) ?_
 refine q_move rfl rfl rfl rfl (q_nil_p rfl rfl rfl rfl (q_field (k := 0) rfl rfl rfl rfl Try.underlying64 rfl Try.sizeOf23 rfl ?_))
 refine q_load_c (j := 0) rfl rfl rfl rfl Try.isAgg23 Tk Az (by rfl) ?_
 refine q_move rfl rfl rfl rfl (q_move rfl rfl rfl rfl (q_idxO (sz := 0) (k := i) (enc := encU) (xs := (pd l (i + 1))) rfl rfl rfl rfl rfl Try.underlying23 Try.sizeOf30 hx (by first | rfl | omega) (by omega) Tk ?_))
 intro ib25 io25 ha25 hl25 hc25
 refine l_store_O (j := 0) (k := i) (q := v) (enc := encU) (off := io25) rfl rfl rfl rfl Try.sizeOf30 (us := [_]) rfl rfl rfl ha25 encU_len hx Tk (by first | rfl | exact (Nat.add_zero _).symm | omega) (by first | decide | exact Nat.le_of_ble_eq_true rfl) (by rfl) ?_
 refine ag_nil (r_done (s_keep [0] (e' := [(0, _)]) rfl ?_))
 refine k_then_n (c_seq (c_plain (.q 0 ((.l 1 [] (.done)))) (by kernel_rfl) ?_))
 refine q_move rfl rfl rfl rfl ?_
 have sp_3 := trim_spec b ((pd l (i + 1)).set i v) re_a ((pd l (i + 1)).length) re_c (by rw [List.length_set]) (by omega)
 refine l_call rfl rfl rfl rfl rfl rfl Try.call44 (sp_3) Ts ?_
 rintro ⟨⟩ -
 try simp only [List.cons_append, List.nil_append]
 refine ag_nil (r_done (k_then_n (c_seq (c_plain (.q 0 (.done)) (by kernel_rfl) ?_))))
 refine q_assign rfl rfl rfl rfl (r_done (k_then_n (c_ret (ret1 rfl rfl ((re_a, re_c)) (by first | rfl | (first | rfl | (congr 1; done) | (congr 1 <;> first | rfl | omega | (simp; done) | (simp; omega)))) (by trivial) ?_))))
 exact Tf
theorem clear_spec (b : Nat) (l : List Int) (ao : Option Addr) (n cap : Nat) (hn : l.length = n) (hb : n ≤ 4000000000) : Spec Try.prog 25 [.pointer (some ⟨b, 0, none⟩)] [cells b 0 [.slice ao n cap], own 1 encU ao cap l] (fun (_ : Unit) => .tuple #[]) (fun _ => True) (fun _ => [cells b 0 [.slice ao 0 cap], own 1 encU ao cap ([])]) := by
 refine spec_mk (n := 16) Try.func25 rfl rfl rfl ?_
 intro Γ w0
 simp only [argE, List.cons_append, List.nil_append, Nat.zero_add, Nat.reduceAdd]
 refine c_seq (c_plain (.q 0 (.q 1 (.done))) (by kernel_rfl) ?_)
 refine q_move rfl rfl rfl rfl (q_ne_nil rfl rfl rfl rfl Try.underlying25 ?_)
 refine s_eq 3 rfl (v' := .bool true) rfl ?_
 refine r_done (k_then_n (c_cond_t rfl ?_))
 refine c_seq (c_plain (.q 0 (.q 1 (.q 2 (.q 3 ((.l 4 [] (.done))))))) (by kernel_rfl) ?_)
 refine q_move rfl rfl rfl rfl (q_nil_p rfl rfl rfl rfl (q_field (k := 0) rfl rfl rfl rfl Try.underlying64 rfl Try.sizeOf23 rfl ?_))
 refine q_load_c (j := 0) rfl rfl rfl rfl Try.isAgg23 Tk Az (by rfl) ?_
 refine s_take (A := own 1 encU ao cap l) Tk ?_
 refine own_fc fun hp1 hp2 hp3 => ?_
 refine l_clear (0) rfl rfl rfl (by exact (cutA_zero ao cap 1 (fun p hp => by obtain ⟨b_, o_, h⟩ := hp3 (by rw [hp]; simp); rw [h] at hp; cases hp; rfl)).symm) (by rfl) Try.underlying23 Try.zeroValue30 (by rfl) (encU_len) (by rfl) Tk (by exact hn) (by omega) ?_
 refine ag_nil (r_done ?_)
 rw [show l.take 0 ++ List.replicate (n - 0) (0 : Int) = List.replicate n 0 from by simp]
 refine s_keep [0] (e' := [(0, _)]) rfl ?_
 refine k_then_n (c_plain (.q 0 (.q 1 (.q 2 (.q 3 (.q 4 (.q 5 (.q 6 (.q 7 ((.l 8 [] (.done))))))))))) (by kernel_rfl) ?_)
 refine q_move rfl rfl rfl rfl (q_move rfl rfl rfl rfl (q_nil_p rfl rfl rfl rfl (q_field (k := 0) rfl rfl rfl rfl Try.underlying64 rfl Try.sizeOf23 rfl ?_)))
 refine q_load_c (j := 0) rfl rfl rfl rfl Try.isAgg23 Tk Az (by rfl) ?_
 refine s_take (A := own 1 encU ao cap (List.replicate n (0 : Int))) Tk ?_
 refine own_fc fun f_1a f_1b f_1c => ?_
 refine q_cut_hi (h' := 0) rfl rfl rfl rfl rfl Try.underlying23 Try.sizeOf30 (by first | rfl | omega) (by first | omega | (have hcap_ := f_1a; simp only [List.length_append, List.length_map, List.length_replicate, List.length_cons, List.length_nil] at hcap_; omega)) ?_
 refine s_take (A := own 1 encU ao cap (List.replicate n (0 : Int))) Tk ?_
 refine s_heap (fun _ h => own_take encU_len 0 h) ?_
 refine q_nil_p rfl rfl rfl rfl (q_field (k := 0) rfl rfl rfl rfl Try.underlying64 rfl Try.sizeOf23 rfl ?_)
 refine l_store (j := 0) rfl rfl rfl rfl Try.sizeOf23 (us := [_]) rfl rfl rfl Tk Az (by first | decide | (simp; done) | omega) ?_
 simp only [setL, List.set]
 refine ag_nil (r_done (s_keep [] (e' := []) rfl ?_))
 refine ret_end ?_
 rw [List.take_zero]
 refine ret0 rfl (()) (by first | rfl | (first | rfl | (congr 1; done) | (congr 1 <;> first | rfl | omega | (simp; done) | (simp; omega)))) (by trivial) ?_
 exact Tf
theorem all_spec (b : Nat) (l : List Int) (ao : Option Addr) (n cap : Nat) (hn : l.length = n) (hb : n ≤ 4000000000) : Spec Try.prog 22 [.pointer (some ⟨b, 0, none⟩)] [cells b 0 [.slice ao n cap], own 1 encU ao cap l] (fun (r : Nat × Option Addr × Nat) => .func (.func 65) #[] #[.pointer (some ⟨r.1, 0, none⟩)]) (fun r => True) (fun r => [cells b 0 [.slice ao n cap], own 1 encU ao cap l, cells r.1 0 [.slice r.2.1 n r.2.2], own 1 encU r.2.1 r.2.2 l]) := by
 refine spec_mk (n := 6) Try.func22 rfl rfl rfl ?_
 intro Γ w0
 simp only [argE, List.cons_append, List.nil_append, Nat.zero_add, Nat.reduceAdd]
 refine c_seq (c_plain (.q 0 (.done)) (by kernel_rfl) ?_)
 refine q_assign rfl rfl rfl rfl (r_done (k_then_n (c_seq (c_plain (.q 0 ((.l 1 [] ((.l 2 [] (.q 3 (.done))))))) (by kernel_rfl) ?_))))
 refine q_move rfl rfl rfl rfl ?_
 have sp_1 := list_spec b l ao n cap Ln (by omega)
 refine l_call rfl rfl rfl rfl rfl rfl Try.call18 (sp_1) Ts ?_
 rintro ⟨qa, qc⟩ -
 try simp only [List.cons_append, List.nil_append]
 refine ag_nil ?_
 have sp_2 := over_spec qa n qc
 refine l_call rfl rfl rfl rfl rfl rfl Try.call40 (sp_2) Ts ?_
 rintro bx -
 try simp only [List.cons_append, List.nil_append]
 refine ag_nil (q_assign rfl rfl rfl rfl (r_done (s_keep [2] (e' := [(2, _)]) rfl ?_)))
 refine k_then_n (c_ret (ret1 rfl rfl ((bx, qa, qc)) (by first | rfl | (first | rfl | (congr 1; done) | (congr 1 <;> first | rfl | omega | (simp; done) | (simp; omega)))) (by trivial) ?_))
 exact Tf
end Go.Ab.Vc
set_option linter.unusedVariables false
set_option linter.unusedSimpArgs false
set_option maxRecDepth 100000
namespace Go.Ab.Vc
open Go Go.Proofs Go.Ab
theorem tm_rng (x : Int) {m : Int} (h : 0 < m) : -m < x.tmod m ∧ x.tmod m < m := by
  have h1 := Int.tmod_lt_of_pos x h
  have h2 := Int.lt_tmod_of_pos x h
  exact ⟨h2, h1⟩
theorem last_nz {l : List Int} (h : Tr l) {q : Nat} (hq : q ≤ l.length) (hz : ∀ j, q ≤ j → j < l.length → l.getD j 0 = 0) : q = l.length := by
  rcases h with e | e
  · subst e; simpa using hq
  · rcases Nat.lt_or_ge q l.length with h1 | h1
    · exact absurd (hz (l.length - 1) (by omega) (by omega)) e
    · omega
theorem apart_spec (xs : List Int) (xo : Option Addr) (xn xd : Nat) (A : HProp) (hxn : xs.length = xn) (hrx : RdS A xo (xs.flatMap encU)) (hx0 : ∀ x ∈ xs, 0 ≤ x) (hxb : xn ≤ 1048576) (th v : Int) (hv : 0 ≤ v) : Spec Try.prog 5 [.slice xo xn xd, .int .i64 th, .int .u64 v] [A] (fun (_ : Unit) => .bool true) (fun _ => True) (fun _ => [A]) := by
 refine spec_mkM (n := 184) Try.func5 rfl rfl rfl ?_
 intro Γ w0
 simp only [argE, List.cons_append, List.nil_append, Nat.zero_add, Nat.reduceAdd]
 refine c_seq (c_plain ((.l 0 [] (.done))) (by kernel_rfl) ?_)
 refine l_alloc rfl rfl rfl Try.zeroValue4 (zs := [.bool false]) rfl ?_
 intro b6
 refine ag_nil (r_done (k_then_n (c_seq (c_plain (.q 0 ((.l 1 [] ((.l 2 [] ((.l 3 [] (.done)))))))) (by kernel_rfl) ?_))))
 refine q_move rfl rfl rfl rfl ?_
 have sp_1 := fit_spec xs xo xn xd A hxn hrx hx0 (by omega)
 refine l_call rfl rfl rfl rfl rfl rfl Try.call9 (sp_1) Ts ?_
 rintro ⟨ka, kc⟩ -
 have hkl := fit_len xs
 try simp only [List.cons_append, List.nil_append]
 refine ag_nil (l_alloc rfl rfl rfl Try.zeroValue23 (zs := [.slice none 0 0]) rfl ?_)
 intro b7
 refine ag_nil (l_store (j := 0) rfl rfl rfl rfl Try.sizeOf23 (us := [_]) rfl rfl rfl Tk Az (by first | decide | (simp; done) | omega) ?_)
 simp only [setL, List.set]
 refine ag_nil (r_done (k_then_n (c_seq (c_plain (.q 0 ((.l 1 [] (.q 2 (.q 3 (.q 4 (.q 5 (.q 6 (.done))))))))) (by kernel_rfl) ?_))))
 refine q_load_c (j := 0) rfl rfl rfl rfl Try.isAgg23 Tk Az (by rfl) ?_
 refine s_take (A := own 1 encU ka kc (fitL xs)) Tk ?_
 refine own_fc fun f_2a f_2b f_2c => ?_
 have sp_3 := made_spec (fitL xs) ka ((fitL xs).length) kc (own 1 encU ka kc (fitL xs)) Ln (rds_own encU_len (fun h => (f_2b h).1) f_2c) (by omega) (by exact fit_rng _)
 refine l_call rfl rfl rfl rfl rfl rfl Try.call10 (sp_3) Ts ?_
 rintro ⟨ab, aa, ac⟩ -
 obtain ⟨LA, hLA⟩ : ∃ L, L = tr (fitL xs) := ⟨_, rfl⟩
 rw [← hLA]
 have hLAv : CV LA := by rw [hLA]; exact fit_cv _
 have hLAl := hLAv.len
 have hLAg : ∀ i, LA.getD i 0 = (fitL xs).getD i 0 := fun i => by rw [hLA, tr_g]
 try simp only [List.cons_append, List.nil_append]
 refine ag_nil (q_move rfl rfl rfl rfl (q_extract rfl rfl rfl rfl rfl (q_extract rfl rfl rfl rfl rfl (q_assign rfl rfl rfl rfl (q_assign rfl rfl rfl rfl (r_done (s_keep [1, 2, 6, 7, 8, 9] (e' := [(1, _), (2, _), (6, _), (7, _), (8, _), (9, _)]) rfl ?_)))))))
 refine k_then_n (c_seq (c_seq (c_plain (.q 0 (.q 1 (.q 2 ((.l 3 [] (.q 4 (.q 5 (.done)))))))) (by kernel_rfl) ?_)))
 refine q_move rfl rfl rfl rfl (q_not rfl rfl rfl rfl ?_)
 refine s_eq 30 rfl (v' := .bool false) rfl ?_
 refine q_move rfl rfl rfl rfl (l_call rfl rfl rfl rfl rfl rfl Try.call8 (works_spec) Ts ?_)
 rintro ⟨⟩ -
 try simp only [List.cons_append, List.nil_append]
 refine ag_nil (q_not rfl rfl rfl rfl ?_)
 refine s_eq 33 rfl (v' := .bool false) rfl ?_
 refine q_pick_f rfl rfl rfl rfl rfl (r_done (s_keep [1, 2, 6, 7, 8, 34] (e' := [(1, _), (2, _), (6, _), (7, _), (8, _), (34, _)]) rfl ?_))
 refine k_then_n (c_cond_f rfl ?_)
 refine c_skip (k_then_n (c_seq (c_plain (.q 0 (.q 1 (.q 2 (.q 3 (.q 4 (.done)))))) (by kernel_rfl) ?_)))
 refine q_move rfl rfl rfl rfl (q_int rfl rfl rfl rfl rfl (b_remT _ (by decide)) ?_)
 have htm_th := tm_rng th (m := 320) (by decide)
 refine q_int rfl rfl rfl rfl rfl (b_add' _ (by exact fits_i64 (by omega) (by omega))) ?_
 obtain ⟨t, ht⟩ := Int.eq_ofNat_of_zero_le (show 0 ≤ (Int.tmod th 320 + 320) % 320 by omega)
 have ht1 : t < 320 := by omega
 refine q_int rfl rfl rfl rfl rfl (b_rem _ (by omega) (by omega)) ?_
 refine s_eq 38 rfl (v' := .int .i64 ((t : Nat) : Int)) (by rw [ht]) ?_
 refine q_assign rfl rfl rfl rfl (r_done (s_keep [2, 6, 7, 8, 10] (e' := [(2, _), (6, _), (7, _), (8, _), (10, _)]) rfl ?_))
 refine k_then_n (c_seq (c_plain (.q 0 ((.l 1 [] (.q 2 (.done))))) (by kernel_rfl) ?_))
 refine q_move rfl rfl rfl rfl ?_
 have sp_4 := copy_spec ab LA aa LA.length ac Ln (by omega)
 refine l_call rfl rfl rfl rfl rfl rfl Try.call21 (sp_4) Ts ?_
 rintro ⟨db, da, dc⟩ -
 try simp only [List.cons_append, List.nil_append]
 refine ag_nil (q_assign rfl rfl rfl rfl (r_done (k_then_n (c_seq (c_plain (.q 0 ((.l 1 [] (.q 2 (.done))))) (by kernel_rfl) ?_)))))
 refine q_move rfl rfl rfl rfl ?_
 have sp_5 := list_spec ab LA aa LA.length ac Ln (by omega)
 refine l_call rfl rfl rfl rfl rfl rfl Try.call18 (sp_5) Ts ?_
 rintro ⟨pa, pc⟩ -
 try simp only [List.cons_append, List.nil_append]
 refine ag_nil (q_assign rfl rfl rfl rfl (r_done (s_keep [2, 6, 7, 8, 10, 11, 12] (e' := [(2, _), (6, _), (7, _), (8, _), (10, _), (11, _), (12, _)]) rfl ?_)))
 refine k_then_n (c_seq (c_plain (.q 0 ((.l 1 [] (.q 2 (.done))))) (by kernel_rfl) ?_))
 refine q_move rfl rfl rfl rfl ?_
 have sp_6 := list_spec ab LA aa LA.length ac Ln (by omega)
 refine l_call rfl rfl rfl rfl rfl rfl Try.call18 (sp_6) Ts ?_
 rintro ⟨qa, qc⟩ -
 try simp only [List.cons_append, List.nil_append]
 refine ag_nil (q_assign rfl rfl rfl rfl (r_done (k_then_n (c_seq (c_plain (.q 0 ((.l 1 [] (.q 2 (.done))))) (by kernel_rfl) ?_)))))
 refine q_move rfl rfl rfl rfl ?_
 have sp_7 := all_spec ab LA aa LA.length ac Ln (by omega)
 refine l_call rfl rfl rfl rfl rfl rfl Try.call22 (sp_7) Ts ?_
 rintro ⟨sx, sa, sc⟩ -
 try simp only [List.cons_append, List.nil_append]
 refine ag_nil (q_assign rfl rfl rfl rfl (r_done (s_keep [2, 6, 7, 8, 10, 11, 12, 13, 14] (e' := [(2, _), (6, _), (7, _), (8, _), (10, _), (11, _), (12, _), (13, _), (14, _)]) rfl ?_)))
 refine k_then_n (c_seq (c_seq (c_draw rfl (.q 0 (.q 1 (.q 2 (.q 3 (.q 4 (.q 5 (.q 6 (.q 7 (.q 8 (.q 9 (.q 10 ((.l 11 [] ((.l 12 [] (.q 13 (.q 14 (.q 15 (.q 16 (.q 18 ((.l 17 [18] ((.l 19 [] ((.l 20 [] (.q 21 (.q 22 (.q 23 (.q 24 (.q 25 ((.l 26 [] (.q 27 (.q 28 (.done)))))))))))))))))))))))))))))))))))) (by kernel_rfl) ?_)))
 refine q_move rfl rfl rfl rfl (q_eq_nil rfl rfl rfl rfl Try.underlying25 ?_)
 refine s_eq 48 rfl (v' := .bool false) rfl ?_
 refine q_move rfl rfl rfl rfl (q_move rfl rfl rfl rfl (q_eq_nilf rfl rfl rfl rfl Try.underlying41 ?_))
 refine q_pick_f rfl rfl rfl rfl rfl (q_move rfl rfl rfl rfl (q_move rfl rfl rfl rfl (q_move rfl rfl rfl rfl (q_move rfl rfl rfl rfl (q_int rfl rfl rfl rfl rfl (b_rem _ (by omega) (by omega)) ?_)))))
 have sp_8 := set_spec ab LA aa LA.length ac Ln hLAv t (by omega) (v % 281474976710656) (by omega) (by simp only [maxC]; omega)
 refine l_call rfl rfl rfl rfl rfl rfl Try.call24 (sp_8) Ts ?_
 rintro ⟨ea, ec⟩ -
 obtain ⟨LS, hLS⟩ : ∃ L, L = stL LA t (v % 281474976710656) := ⟨_, rfl⟩
 rw [← hLS]
 have hLSv : CV LS := by rw [hLS]; exact stL_cv hLAv (by omega) (by omega) (by simp only [maxC]; omega)
 have hLSl := hLSv.len
 have hLSg : ∀ k, LS.getD k 0 = if k = t then v % 281474976710656 else LA.getD k 0 := fun k => by rw [hLS, stL_g]
 try simp only [List.cons_append, List.nil_append]
 refine ag_nil ?_
 have sp_9 := num_spec 0
 refine l_call rfl rfl rfl rfl rfl rfl Try.call23 (sp_9) Ts ?_
 rintro ⟨⟩ -
 try simp only [List.cons_append, List.nil_append]
 refine ag_nil (q_int rfl rfl rfl rfl rfl (b_neq _ _ _ _) ?_)
 refine s_eq 60 rfl (v' := .bool false) (by first | rfl | simp) ?_
 refine q_pick_f rfl rfl rfl rfl rfl (q_move rfl rfl rfl rfl (q_move rfl rfl rfl rfl (q_load_c (j := 0) rfl rfl rfl rfl Try.isAgg23 Tk Az (by rfl) ?_)))
 have sp_10 := list_spec db LA da LA.length dc Ln (by omega)
 refine l_call rfl rfl rfl rfl rfl rfl Try.call18 (sp_10) Ts ?_
 rintro ⟨ra, rc⟩ -
 try simp only [List.cons_append, List.nil_append]
 refine ag_load_c (q := 0) rfl rfl rfl Try.isAgg23 Tk Az (by rfl) ?_
 refine ag_nil (s_take (A := own 1 encU ka kc (fitL xs)) Tk ?_)
 refine own_fc fun f_11a f_11b f_11c => ?_
 have sp_12 := trimmed_spec (fitL xs) ka ((fitL xs).length) kc (own 1 encU ka kc (fitL xs)) Ln (rds_own encU_len (fun h => (f_11b h).1) f_11c) (by omega) (by omega)
 refine l_call rfl rfl rfl rfl rfl rfl Try.call19 (sp_12) Ts ?_
 rintro ⟨⟩ -
 try simp only [List.cons_append, List.nil_append]
 refine ag_nil (s_take (A := own 1 encU ra rc LA) Tk ?_)
 refine own_fc fun f_13a f_13b f_13c => ?_
 refine s_heap (fun _ h => Bun.fold ((by (repeat ((with_reducible apply Z2); focus (first | (with_reducible (repeat (first | exact Z0 | apply Z1)); done) | (repeat (first | exact Z0 | apply Z1))))); exact Z3 : Takes _ [own 1 encU ra rc LA, own 1 encU ka kc (fitL xs)] _) _ h)) ?_
 have sp_14 := same_spec LA (tr (fitL xs)) ra ka LA.length ((tr (fitL xs)).length) rc kc (Bun [own 1 encU ra rc LA, own 1 encU ka kc (fitL xs)]) Ln (rds_bun (List.mem_cons_self) (rds_own encU_len (fun h => (f_13b h).1) f_13c)) Ln (rds_bun (List.mem_cons_of_mem _ (List.mem_cons_self)) ((rds_take (rds_own encU_len (fun h => (f_11b h).1) f_11c) encU_len _))) (by omega)
 refine l_call rfl rfl rfl rfl rfl rfl Try.call17 (sp_14) Ts ?_
 rintro ⟨⟩ -
 try simp only [List.cons_append, List.nil_append]
 refine s_take (A := Bun [own 1 encU ra rc LA, own 1 encU ka kc (fitL xs)]) Tk ?_
 refine s_bun ?_
 try simp only [List.cons_append, List.nil_append]
 try simp only [List.cons_append, List.nil_append]
 refine ag_nil (q_not rfl rfl rfl rfl ?_)
 refine q_pick_f rfl rfl rfl rfl rfl (q_move rfl rfl rfl rfl ?_)
 refine s_bool_np 70 rfl (fun hg => by exfalso; exact hg hLA) (fun hg => ?_)
 refine q_move rfl rfl rfl rfl (q_move rfl rfl rfl rfl (s_take (A := own 1 encU pa pc LA) Tk ?_))
 refine own_fc fun f_15a f_15b f_15c => ?_
 refine s_take (A := own 1 encU qa qc LA) Tk ?_
 refine own_fc fun f_16a f_16b f_16c => ?_
 refine s_heap (fun _ h => Bun.fold ((by (repeat ((with_reducible apply Z2); focus (first | (with_reducible (repeat (first | exact Z0 | apply Z1)); done) | (repeat (first | exact Z0 | apply Z1))))); exact Z3 : Takes _ [own 1 encU pa pc LA, own 1 encU qa qc LA] _) _ h)) ?_
 have sp_17 := same_spec LA LA pa qa LA.length LA.length pc qc (Bun [own 1 encU pa pc LA, own 1 encU qa qc LA]) Ln (rds_bun (List.mem_cons_self) (rds_own encU_len (fun h => (f_15b h).1) f_15c)) Ln (rds_bun (List.mem_cons_of_mem _ (List.mem_cons_self)) (rds_own encU_len (fun h => (f_16b h).1) f_16c)) (by omega)
 refine l_call rfl rfl rfl rfl rfl rfl Try.call17 (sp_17) Ts ?_
 rintro ⟨⟩ -
 try simp only [List.cons_append, List.nil_append]
 refine s_take (A := Bun [own 1 encU pa pc LA, own 1 encU qa qc LA]) Tk ?_
 refine s_bun ?_
 try simp only [List.cons_append, List.nil_append]
 try simp only [List.cons_append, List.nil_append]
 refine ag_nil (q_not rfl rfl rfl rfl ?_)
 refine q_pick_f rfl rfl rfl rfl rfl (r_done (s_keep [2, 6, 7, 8, 10, 11, 12, 13, 14, 75] (e' := [(2, _), (6, _), (7, _), (8, _), (10, _), (11, _), (12, _), (13, _), (14, _), (75, _)]) rfl ?_))
 refine k_then_n ?_
 refine c_cond_np rfl (fun hg => by exfalso; first | exact hg rfl | exact hg trivial | simp at hg) (fun hg => ?_)
 refine c_skip (k_then_n (c_seq (c_plain ((.l 0 [] ((.l 1 [] (.done))))) (by kernel_rfl) ?_)))
 refine l_alloc rfl rfl rfl Try.zeroValue3 (zs := [.int .i64 0]) rfl ?_
 intro b15
 refine ag_nil (l_store (j := 0) rfl rfl rfl rfl Try.sizeOf3 (us := [_]) rfl rfl rfl Tk Az (by first | decide | (simp; done) | omega) ?_)
 simp only [setL, List.set]
 refine ag_nil (r_done (k_then_n (c_seq (c_seq (c_plain (.q 0 (.done)) (by kernel_rfl) ?_)))))
 refine q_move rfl rfl rfl rfl (r_done (k_then_n (c_block (s_take (A := own 1 encU sa sc LA) Tk ?_))))
 refine own_fc fun hp1 hp2 hp3 => ?_
 refine s_heap (fun _ h => Bun.fold ((by (repeat ((with_reducible apply Z2); focus (first | (with_reducible (repeat (first | exact Z0 | apply Z1)); done) | (repeat (first | exact Z0 | apply Z1))))); exact Z3 : Takes _ [cells b7 0 [.slice ka (fitL xs).length kc], own 1 encU ka kc (fitL xs), cells b15 0 [.int .i64 ((0 : Nat) : Int)]] _) _ h)) ?_
 refine c_rangeF _ rfl Try.call65 (fun lp => over1_spec (σ := Nat) LA sa LA.length sc sx (own 1 encU sa sc LA) rfl (rds_own encU_len (fun h => (hp2 h).1) hp3) (by omega) (yv lp) (LoopJ lp _ _ _ _ _) (fun q => Bun [cells b7 0 [.slice ka (fitL xs).length kc], own 1 encU ka kc (fitL xs), cells b15 0 [.int .i64 ((q : Nat) : Int)]]) (fun i q => q ≤ i ∧ ∀ j, q ≤ j → j < i → LA.getD j 0 = 0) (fun _ c => False) (fun i x q hx hxz hI => callF_yield rfl (by decide) (by decide) (fun Γ w0 => ?_)) (fun i q hx hI => ⟨by omega, fun j h1 h2 => if h : j < i then hI.2 j h1 h else by obtain rfl : j = i := (by omega); rw [getD_mem hx]⟩) 0 ⟨Nat.le_refl _, fun j h1 h2 => by omega⟩) Ts ?_
 ·
  try simp only [zipE, List.cons_append, List.nil_append]
  refine s_take (A := Bun [cells b7 0 [.slice ka (fitL xs).length kc], own 1 encU ka kc (fitL xs), cells b15 0 [.int .i64 ((q : Nat) : Int)]]) Tk ?_
  refine s_bun ?_
  try simp only [List.cons_append, List.nil_append]
  have hil : i < LA.length := (List.getElem?_eq_some_iff.1 hx).1
  have hgx : (fitL xs).getD i 0 = x := by rw [← hLAg, getD_mem hx]
  obtain ⟨hI1, hI2⟩ := hI
  refine c_seq (c_plain (.q 0 (.done)) (by kernel_rfl) ?_)
  refine q_assign rfl rfl rfl rfl (r_done (k_then_n (c_plain (.q 0 (.done)) (by kernel_rfl) ?_)))
  refine q_assign rfl rfl rfl rfl (r_done (k_then_n (k_begin Tk ?_)))
  refine c_block (c_seq (c_seq (c_plain (.q 0 (.q 1 (.q 2 (.q 3 (.q 4 ((.l 5 [] (.q 6 (.q 7 (.q 8 (.q 9 (.q 10 (.q 11 (.q 12 (.q 13 (.done)))))))))))))))) (by kernel_rfl) ?_)))
  refine q_move rfl rfl rfl rfl (q_int rfl rfl rfl rfl rfl (b_eql _ _ _ _) ?_)
  refine q_move rfl rfl rfl rfl ?_
  refine s_bool_p 81 rfl (fun hg => by exfalso; exact hxz hg) (fun hg => ?_)
  refine q_load_c (j := 0) rfl rfl rfl rfl Try.isAgg23 Tk Az (by rfl) ?_
  refine q_move rfl rfl rfl rfl (s_take (A := own 1 encU ka kc (fitL xs)) Tk ?_)
  refine own_fc fun f_18a f_18b f_18c => ?_
  have sp_19 := at_spec (fitL xs) ka ((fitL xs).length) kc (own 1 encU ka kc (fitL xs)) Ln (rds_own encU_len (fun h => (f_18b h).1) f_18c) i
  refine l_call rfl rfl rfl rfl rfl rfl Try.call14 (sp_19) Ts ?_
  rintro ⟨⟩ -
  try simp only [List.cons_append, List.nil_append]
  refine ag_nil (q_move rfl rfl rfl rfl (q_int rfl rfl rfl rfl rfl (b_neq _ _ _ _) ?_))
  refine q_pick_f rfl rfl rfl rfl rfl (q_move rfl rfl rfl rfl ?_)
  refine s_bool_p 88 rfl (fun hg => by exfalso; exact hg hgx) (fun hg => ?_)
  refine q_move rfl rfl rfl rfl (q_load_c (j := 0) rfl rfl rfl rfl Try.isAgg3 Tk Az (by rfl) ?_)
  refine q_int rfl rfl rfl rfl rfl (b_lss _ _ _ _) ?_
  refine q_pick_f rfl rfl rfl rfl rfl (r_done (s_keep [6, 15, 16, 92] (e' := [(6, _), (15, _), (16, _), (92, _)]) rfl ?_))
  refine k_then_n ?_
  refine c_cond_p rfl (fun hg => by exfalso; omega) (fun hg => ?_)
  refine c_skip (k_then_n (c_plain (.q 0 (.q 1 ((.l 2 [] (.done))))) (by kernel_rfl) ?_))
  refine q_move rfl rfl rfl rfl (q_int rfl rfl rfl rfl rfl (b_add' _ (by exact fits_i64 (by omega) (by omega))) ?_)
  refine l_store (j := 0) rfl rfl rfl rfl Try.sizeOf3 (us := [_]) rfl rfl rfl Tk Az (by first | decide | (simp; done) | omega) ?_
  simp only [setL, List.set]
  refine ag_nil (r_done (s_keep [] (e' := []) rfl ?_))
  refine k_blk_n (s_heap (fun _ h => Bun.fold ((by (repeat ((with_reducible apply Z2); focus (first | (with_reducible (repeat (first | exact Z0 | apply Z1)); done) | (repeat (first | exact Z0 | apply Z1))))); exact Z3 : Takes _ [cells b7 0 [.slice ka (fitL xs).length kc], own 1 encU ka kc (fitL xs), cells b15 0 [.int .i64 ((i + 1 : Nat) : Int)]] _) _ h)) ?_)
  refine rr_n ((i + 1, none)) (by rfl) (by exact ⟨fun _ => ⟨Nat.le_refl _, fun j h1 h2 => (by omega)⟩, fun c hc => (by cases hc)⟩) Tk ?_
  (try simp only [List.cons_append, List.nil_append]); exact Tf
 rintro ⟨q, p1⟩ (⟨h1, h2⟩ | ⟨c_, h1, h2⟩) blk_20
 try simp only [List.cons_append, List.nil_append]
 ·
  simp only at h1 h2
  subst h1
  obtain ⟨hq1, hq2⟩ := h2
  have hqn := last_nz hLAv.tr hq1 hq2
  show Le _ _
  try simp only [List.cons_append, List.nil_append]
  refine s_take (A := Bun [cells b7 0 [.slice ka (fitL xs).length kc], own 1 encU ka kc (fitL xs), cells b15 0 [.int .i64 ((q : Nat) : Int)]]) Tk ?_
  refine s_bun ?_
  try simp only [List.cons_append, List.nil_append]
  refine k_blk_n (k_then_n (c_seq (c_seq (c_draw rfl (.q 0 (.q 1 ((.l 2 [0] (.q 3 (.q 4 (.done))))))) (by kernel_rfl) ?_))))
  refine q_load_c (j := 0) rfl rfl rfl rfl Try.isAgg3 Tk Az (by rfl) ?_
  refine q_load_c (j := 0) rfl rfl rfl rfl Try.isAgg23 Tk Az (by rfl) ?_
  refine s_take (A := own 1 encU ka kc (fitL xs)) Tk ?_
  refine own_fc fun f_21a f_21b f_21c => ?_
  have sp_22 := trimmed_spec (fitL xs) ka ((fitL xs).length) kc (own 1 encU ka kc (fitL xs)) Ln (rds_own encU_len (fun h => (f_21b h).1) f_21c) (by omega) (by omega)
  refine l_call rfl rfl rfl rfl rfl rfl Try.call19 (sp_22) Ts ?_
  rintro ⟨⟩ -
  try simp only [List.cons_append, List.nil_append]
  refine ag_load_c (q := 0) rfl rfl rfl Try.isAgg3 Tk Az (by rfl) ?_
  refine ag_nil (q_len rfl rfl rfl rfl Try.underlying23 ?_)
  refine q_int rfl rfl rfl rfl rfl (b_neq _ _ _ _) ?_
  refine r_done (s_keep [2, 6, 7, 8, 10, 11, 12, 13, 99] (e' := [(2, _), (6, _), (7, _), (8, _), (10, _), (11, _), (12, _), (13, _), (99, _)]) rfl ?_)
  refine k_then_n ?_
  refine c_cond_p rfl (fun hg => by exfalso; exact hg (by rw [← hLA]; omega)) (fun hg => ?_)
  refine c_skip (k_then_n (c_seq (c_plain (.q 0 ((.l 1 [] (.done)))) (by kernel_rfl) ?_)))
  refine q_move rfl rfl rfl rfl ?_
  have sp_23 := clear_spec db LA da LA.length dc Ln (by omega)
  refine l_call rfl rfl rfl rfl rfl rfl Try.call25 (sp_23) Ts ?_
  rintro ⟨⟩ -
  try simp only [List.cons_append, List.nil_append]
  refine ag_nil (r_done (k_then_n (c_seq (c_seq (c_plain (.q 0 (.q 1 ((.l 2 [] (.q 3 (.q 4 (.q 5 (.q 6 (.q 7 ((.l 8 [] (.q 9 (.q 10 (.q 11 (.q 12 (.q 13 ((.l 14 [] ((.l 15 [] (.q 16 (.q 17 (.q 18 (.q 19 (.q 20 ((.l 21 [] (.q 22 (.q 23 (.q 24 (.q 25 (.done)))))))))))))))))))))))))))))))) (by kernel_rfl) ?_)))))
  refine q_move rfl rfl rfl rfl (q_move rfl rfl rfl rfl ?_)
  have sp_24 := get_spec ab LS ea LS.length ec Ln t
  refine l_call rfl rfl rfl rfl rfl rfl Try.call13 (sp_24) Ts ?_
  rintro ⟨⟩ -
  try simp only [List.cons_append, List.nil_append]
  refine ag_nil (q_move rfl rfl rfl rfl (q_int rfl rfl rfl rfl rfl (b_rem _ (by omega) (by omega)) ?_))
  refine q_int rfl rfl rfl rfl rfl (b_neq _ _ _ _) ?_
  refine q_move rfl rfl rfl rfl ?_
  refine s_bool_p 108 rfl (fun hg => by exfalso; exact hg (by rw [hLSg, if_pos rfl])) (fun hg => ?_)
  refine q_move rfl rfl rfl rfl ?_
  have sp_25 := len_spec db ([] : List Int) da 0 dc Ln
  refine l_call rfl rfl rfl rfl rfl rfl Try.call20 (sp_25) Ts ?_
  rintro ⟨⟩ -
  try simp only [List.cons_append, List.nil_append]
  refine ag_nil (q_int rfl rfl rfl rfl rfl (b_neq _ _ _ _) ?_)
  refine s_eq 111 rfl (v' := .bool false) (by first | rfl | simp) ?_
  refine q_pick_f rfl rfl rfl rfl rfl (q_move rfl rfl rfl rfl (q_move rfl rfl rfl rfl (q_move rfl rfl rfl rfl ?_)))
  have sp_26 := set_spec db ([] : List Int) da 0 dc Ln nil_cv t (by omega) 5 (by omega) (by simp only [maxC]; omega)
  refine l_call rfl rfl rfl rfl rfl rfl Try.call24 (sp_26) Ts ?_
  rintro ⟨fa, fc⟩ -
  obtain ⟨LF, hLF⟩ : ∃ L, L = stL ([] : List Int) t 5 := ⟨_, rfl⟩
  rw [← hLF]
  have hLFv : CV LF := by rw [hLF]; exact stL_cv nil_cv (by omega) (by omega) (by simp only [maxC]; omega)
  have hLFl := hLFv.len
  have hLFg : ∀ k, LF.getD k 0 = if k = t then 5 else ([] : List Int).getD k 0 := fun k => by rw [hLF, stL_g]
  try simp only [List.cons_append, List.nil_append]
  refine ag_nil ?_
  have sp_27 := num_spec 0
  refine l_call rfl rfl rfl rfl rfl rfl Try.call23 (sp_27) Ts ?_
  rintro ⟨⟩ -
  try simp only [List.cons_append, List.nil_append]
  refine ag_nil (q_int rfl rfl rfl rfl rfl (b_neq _ _ _ _) ?_)
  refine s_eq 118 rfl (v' := .bool false) (by first | rfl | simp) ?_
  refine q_pick_f rfl rfl rfl rfl rfl (q_move rfl rfl rfl rfl (q_move rfl rfl rfl rfl (q_move rfl rfl rfl rfl ?_)))
  have sp_28 := get_spec ab LS ea LS.length ec Ln t
  refine l_call rfl rfl rfl rfl rfl rfl Try.call13 (sp_28) Ts ?_
  rintro ⟨⟩ -
  try simp only [List.cons_append, List.nil_append]
  refine ag_nil (q_move rfl rfl rfl rfl (q_int rfl rfl rfl rfl rfl (b_rem _ (by omega) (by omega)) ?_))
  refine q_int rfl rfl rfl rfl rfl (b_neq _ _ _ _) ?_
  refine q_pick_f rfl rfl rfl rfl rfl (r_done (s_keep [6, 7, 8, 10, 11, 12, 13, 127] (e' := [(6, _), (7, _), (8, _), (10, _), (11, _), (12, _), (13, _), (127, _)]) rfl ?_))
  refine k_then_n ?_
  refine c_cond_p rfl (fun hg => by exfalso; exact hg (by rw [hLSg, if_pos rfl])) (fun hg => ?_)
  refine c_skip (k_then_n (c_seq (c_plain (.q 0 ((.l 1 [] (.q 2 (.done))))) (by kernel_rfl) ?_)))
  refine q_move rfl rfl rfl rfl ?_
  have sp_29 := list_spec ab LS ea LS.length ec Ln (by omega)
  refine l_call rfl rfl rfl rfl rfl rfl Try.call18 (sp_29) Ts ?_
  rintro ⟨wa, wc⟩ -
  try simp only [List.cons_append, List.nil_append]
  refine ag_nil (q_assign rfl rfl rfl rfl (r_done (k_then_n (c_seq (c_seq (c_plain (.q 0 (.done)) (by kernel_rfl) ?_))))))
  refine q_assign rfl rfl rfl rfl (r_done (k_then_n (c_block ?_)))
  refine c_loop2 (α := Nat × List Int) (fun (x_ : Nat × List Int) => match x_ with | (i, ow) => i ≤ LA.length ∧ (ow.length = LA.length)) (fun (x_ : Nat × List Int) => match x_ with | (i, ow) => [(19, .int .i64 ((i : Nat) : Int))]) (fun (x_ : Nat × List Int) => match x_ with | (i, ow) => [own 1 encU pa pc ow]) (fun (x_ : Nat × List Int) => match x_ with | (i, ow) => LA.length - i) [6, 7, 8, 10, 11, 12, 13, 18] (er := [(6, _), (7, _), (8, _), (10, _), (11, _), (12, _), (13, _), (18, _)]) rfl (0, LA) ?_ (by exact ⟨rfl, trivial⟩) (by (try dsimp only); (try simp only [Nat.add_zero, Nat.zero_add]); (repeat ((with_reducible apply Z2); focus (first | (with_reducible (repeat (first | exact Z0 | apply Z1)); done) | (repeat (first | exact Z0 | apply Z1))))); exact Z3) ?_
  · exact ⟨Nat.zero_le _, rfl⟩
  rintro ⟨i, ow⟩ ⟨hle_i, hol⟩
  try simp only [List.cons_append, List.nil_append]
  refine c_seq (c_seq (c_plain (.q 0 (.q 1 (.q 2 (.q 3 (.done))))) (by kernel_rfl) ?_))
  refine q_move rfl rfl rfl rfl (q_move rfl rfl rfl rfl (q_len rfl rfl rfl rfl Try.underlying23 ?_))
  refine q_int rfl rfl rfl rfl rfl (b_lss _ _ _ _) ?_
  refine r_done (k_then_n ?_)
  refine c_cond_p rfl (fun hlt => ?_) (fun hlt => ?_)
  ·
   obtain ⟨z, hz⟩ := get_lt (l := ow) (i := i) (by omega)
   refine c_skip (k_then_n (c_seq (c_block (c_plain (.q 0 (.q 1 (.q 2 ((.l 3 [] (.done)))))) (by kernel_rfl) ?_))))
   refine q_move rfl rfl rfl rfl (q_move rfl rfl rfl rfl (q_idxO (sz := 0) (k := i) (enc := encU) (xs := ow) rfl rfl rfl rfl rfl Try.underlying23 Try.sizeOf30 hz (by first | rfl | omega) (by omega) Tk ?_))
   intro ib138 io138 ha138 hl138 hc138
   refine l_store_O (j := 0) (k := i) (q := 901) (enc := encU) (off := io138) rfl rfl rfl rfl Try.sizeOf30 (us := [_]) rfl rfl rfl ha138 encU_len hz Tk (by first | rfl | exact (Nat.add_zero _).symm | omega) (by first | decide | exact Nat.le_of_ble_eq_true rfl) (by rfl) ?_
   refine ag_nil (r_done (s_keep [6, 7, 8, 10, 11, 12, 13, 18, 19] (e' := [(6, _), (7, _), (8, _), (10, _), (11, _), (12, _), (13, _), (18, _), (19, _)]) rfl ?_))
   refine k_blk_n (k_then_n (c_plain (.q 0 (.q 1 (.q 2 (.done)))) (by kernel_rfl) ?_))
   refine q_move rfl rfl rfl rfl (q_int rfl rfl rfl rfl rfl (b_add' _ (by exact fits_i64 (by omega) (by omega))) ?_)
   refine q_assign rfl rfl rfl rfl (r_done (k_then_n ?_))
   refine loop_next (x := (i, ow)) ((i + 1, ow.set i 901)) ?_ ?_ ?_ ?_
   · try dsimp only
     exact ⟨by omega, by rw [List.length_set]; exact hol⟩
   · show LA.length - (i + 1) < LA.length - i; omega
   · exact ⟨rfl, rfl, rfl, rfl, rfl, rfl, rfl, rfl, rfl, trivial⟩
   · (try simp only [List.cons_append, List.nil_append]); exact Tf
  refine c_exit (k_then_exit (k_then_exit (k_blk_here (k_then_n (c_seq (c_plain (.q 0 (.q 1 (.done))) (by kernel_rfl) ?_))))))
  refine q_move rfl rfl rfl rfl (q_assign rfl rfl rfl rfl (r_done (s_keep [6, 7, 8, 10, 11, 12, 13, 18, 20] (e' := [(6, _), (7, _), (8, _), (10, _), (11, _), (12, _), (13, _), (18, _), (20, _)]) rfl ?_)))
  refine k_then_n (c_seq (c_seq (c_plain (.q 0 (.done)) (by kernel_rfl) ?_)))
  refine q_assign rfl rfl rfl rfl (r_done (k_then_n (c_block (s_eq 20 rfl (v' := .slice pa ow.length pc) (by rw [hol]) ?_))))
  refine c_loop2 (α := Nat × List Int × Option Addr × Nat) (fun (x_ : Nat × List Int × Option Addr × Nat) => match x_ with | (k, gl, ga, gc) => k ≤ 70 ∧ (gl.length = LA.length + k)) (fun (x_ : Nat × List Int × Option Addr × Nat) => match x_ with | (k, gl, ga, gc) => [(20, .slice ga gl.length gc), (21, .int .i64 ((k : Nat) : Int))]) (fun (x_ : Nat × List Int × Option Addr × Nat) => match x_ with | (k, gl, ga, gc) => [own 1 encU ga gc gl]) (fun (x_ : Nat × List Int × Option Addr × Nat) => match x_ with | (k, gl, ga, gc) => 70 - k) [6, 7, 8, 10, 11, 12, 13, 18] (er := [(6, _), (7, _), (8, _), (10, _), (11, _), (12, _), (13, _), (18, _)]) rfl (0, ow, pa, pc) ?_ (by exact ⟨rfl, rfl, trivial⟩) (by (try dsimp only); (try simp only [Nat.add_zero, Nat.zero_add]); (repeat ((with_reducible apply Z2); focus (first | (with_reducible (repeat (first | exact Z0 | apply Z1)); done) | (repeat (first | exact Z0 | apply Z1))))); exact Z3) ?_
  · exact ⟨Nat.zero_le _, by omega⟩
  rintro ⟨k, gl, ga, gc⟩ ⟨hle_k, hgl⟩
  try simp only [List.cons_append, List.nil_append]
  refine c_seq (c_seq (c_plain (.q 0 (.q 1 (.done))) (by kernel_rfl) ?_))
  refine q_move rfl rfl rfl rfl (q_int rfl rfl rfl rfl rfl (b_lss _ _ _ _) ?_)
  refine r_done (k_then_n ?_)
  refine c_cond_p rfl (fun hlk => ?_) (fun hlk => ?_)
  ·
   refine c_skip (k_then_n (c_seq (c_block (c_plain (.q 0 ((.l 1 [] ((.l 2 [] (.q 3 (.done))))))) (by kernel_rfl) ?_))))
   refine q_move rfl rfl rfl rfl (l_buildSlice rfl rfl rfl rfl (run_build1 (us := [_]) Try.underlying23 Try.sizeOf30 rfl Try.zeroValue30 rfl rfl rfl) ?_)
   intro b145
   refine ag_nil (l_append (sz := 1) (enc := encU) (xs := gl) rfl rfl rfl rfl rfl Try.underlying23 Try.typeInfo30 rfl rfl rfl (by decide) Tk Tk (by first | rfl | omega | (simp; done) | (simp; omega)) (ys := [901]) (rds_some rdn_cells) (by rfl) (by first | rfl | omega) (encU_len) (encU_one) (by omega) (by show _ * 8 ≤ _; omega) ?_)
   intro ao146 cp146
   refine ag_nil (q_assign rfl rfl rfl rfl (r_done (s_keep [6, 7, 8, 10, 11, 12, 13, 18, 20, 21] (e' := [(6, _), (7, _), (8, _), (10, _), (11, _), (12, _), (13, _), (18, _), (20, _), (21, _)]) rfl ?_)))
   refine k_blk_n (k_then_n (c_plain (.q 0 (.q 1 (.q 2 (.done)))) (by kernel_rfl) ?_))
   refine q_move rfl rfl rfl rfl (q_int rfl rfl rfl rfl rfl (b_add' _ (by exact fits_i64 (by omega) (by omega))) ?_)
   refine q_assign rfl rfl rfl rfl (r_done (k_then_n (s_eq 20 rfl (v' := .slice ao146 (gl ++ [901]).length cp146) (by simp) ?_)))
   refine loop_next (x := (k, gl, ga, gc)) ((k + 1, gl ++ [901], ao146, cp146)) ?_ ?_ ?_ ?_
   · try dsimp only
     exact ⟨by omega, by rw [List.length_append, hgl]; rfl⟩
   · show 70 - (k + 1) < 70 - k; omega
   · exact ⟨rfl, rfl, rfl, rfl, rfl, rfl, rfl, rfl, rfl, rfl, trivial⟩
   · (try simp only [List.cons_append, List.nil_append]); exact Tf
  refine c_exit (k_then_exit (k_then_exit (k_blk_here (k_then_n (c_seq (c_seq (c_plain (.q 0 (.q 1 ((.l 2 [] ((.l 3 [] (.q 4 (.q 5 (.q 6 ((.l 7 [] (.q 8 ((.l 9 [] (.q 10 (.q 11 (.q 12 (.q 13 (.q 14 (.q 15 (.q 16 (.q 17 (.q 18 (.q 19 (.done))))))))))))))))))))))))) (by kernel_rfl) ?_)))))))
  refine q_move rfl rfl rfl rfl (q_load_c (j := 0) rfl rfl rfl rfl Try.isAgg23 Tk Az (by rfl) ?_)
  refine s_take (A := own 1 encU ka kc (fitL xs)) Tk ?_
  refine own_fc fun f_30a f_30b f_30c => ?_
  have sp_31 := trimmed_spec (fitL xs) ka ((fitL xs).length) kc (own 1 encU ka kc (fitL xs)) Ln (rds_own encU_len (fun h => (f_30b h).1) f_30c) (by omega) (by omega)
  refine l_call rfl rfl rfl rfl rfl rfl Try.call19 (sp_31) Ts ?_
  rintro ⟨⟩ -
  try simp only [List.cons_append, List.nil_append]
  refine ag_nil (s_take (A := own 1 encU qa qc LA) Tk ?_)
  refine own_fc fun f_32a f_32b f_32c => ?_
  refine s_heap (fun _ h => Bun.fold ((by (repeat ((with_reducible apply Z2); focus (first | (with_reducible (repeat (first | exact Z0 | apply Z1)); done) | (repeat (first | exact Z0 | apply Z1))))); exact Z3 : Takes _ [own 1 encU qa qc LA, own 1 encU ka kc (fitL xs)] _) _ h)) ?_
  have sp_33 := same_spec LA (tr (fitL xs)) qa ka LA.length ((tr (fitL xs)).length) qc kc (Bun [own 1 encU qa qc LA, own 1 encU ka kc (fitL xs)]) Ln (rds_bun (List.mem_cons_self) (rds_own encU_len (fun h => (f_32b h).1) f_32c)) Ln (rds_bun (List.mem_cons_of_mem _ (List.mem_cons_self)) ((rds_take (rds_own encU_len (fun h => (f_30b h).1) f_30c) encU_len _))) (by omega)
  refine l_call rfl rfl rfl rfl rfl rfl Try.call17 (sp_33) Ts ?_
  rintro ⟨⟩ -
  try simp only [List.cons_append, List.nil_append]
  refine s_take (A := Bun [own 1 encU qa qc LA, own 1 encU ka kc (fitL xs)]) Tk ?_
  refine s_bun ?_
  try simp only [List.cons_append, List.nil_append]
  try simp only [List.cons_append, List.nil_append]
  refine ag_nil (q_not rfl rfl rfl rfl ?_)
  refine q_move rfl rfl rfl rfl ?_
  refine s_bool_np 152 rfl (fun hg => by exfalso; exact hg hLA) (fun hg => ?_)
  refine q_move rfl rfl rfl rfl ?_
  have sp_34 := list_spec ab LS ea LS.length ec Ln (by omega)
  refine l_call rfl rfl rfl rfl rfl rfl Try.call18 (sp_34) Ts ?_
  rintro ⟨ya, yc⟩ -
  try simp only [List.cons_append, List.nil_append]
  refine ag_nil (q_move rfl rfl rfl rfl (s_take (A := own 1 encU ya yc LS) Tk ?_))
  refine own_fc fun f_35a f_35b f_35c => ?_
  refine s_take (A := own 1 encU wa wc LS) Tk ?_
  refine own_fc fun f_36a f_36b f_36c => ?_
  refine s_heap (fun _ h => Bun.fold ((by (repeat ((with_reducible apply Z2); focus (first | (with_reducible (repeat (first | exact Z0 | apply Z1)); done) | (repeat (first | exact Z0 | apply Z1))))); exact Z3 : Takes _ [own 1 encU ya yc LS, own 1 encU wa wc LS] _) _ h)) ?_
  have sp_37 := same_spec LS LS ya wa LS.length LS.length yc wc (Bun [own 1 encU ya yc LS, own 1 encU wa wc LS]) Ln (rds_bun (List.mem_cons_self) (rds_own encU_len (fun h => (f_35b h).1) f_35c)) Ln (rds_bun (List.mem_cons_of_mem _ (List.mem_cons_self)) (rds_own encU_len (fun h => (f_36b h).1) f_36c)) (by omega)
  refine l_call rfl rfl rfl rfl rfl rfl Try.call17 (sp_37) Ts ?_
  rintro ⟨⟩ -
  try simp only [List.cons_append, List.nil_append]
  refine s_take (A := Bun [own 1 encU ya yc LS, own 1 encU wa wc LS]) Tk ?_
  refine s_bun ?_
  try simp only [List.cons_append, List.nil_append]
  try simp only [List.cons_append, List.nil_append]
  refine ag_nil (q_not rfl rfl rfl rfl ?_)
  refine q_pick_f rfl rfl rfl rfl rfl (q_move rfl rfl rfl rfl ?_)
  refine s_bool_np 159 rfl (fun hg => by exfalso; first | exact hg rfl | exact hg trivial | simp at hg) (fun hg => ?_)
  refine q_move rfl rfl rfl rfl (q_len rfl rfl rfl rfl Try.underlying23 ?_)
  refine q_move rfl rfl rfl rfl (q_len rfl rfl rfl rfl Try.underlying23 ?_)
  refine q_int rfl rfl rfl rfl rfl (b_add' _ (by exact fits_i64 (by omega) (by omega))) ?_
  refine q_int rfl rfl rfl rfl rfl (b_neq _ _ _ _) ?_
  refine q_pick_f rfl rfl rfl rfl rfl (r_done (s_keep [6, 7, 8, 10, 11, 13, 166] (e' := [(6, _), (7, _), (8, _), (10, _), (11, _), (13, _), (166, _)]) rfl ?_))
  refine k_then_n ?_
  refine c_cond_p rfl (fun hg => by exfalso; omega) (fun hg => ?_)
  refine c_skip (k_then_n (c_seq (c_plain (.q 0 ((.l 1 [] (.done)))) (by kernel_rfl) ?_)))
  refine q_move rfl rfl rfl rfl ?_
  have sp_38 := clear_spec ab LS ea LS.length ec Ln (by omega)
  refine l_call rfl rfl rfl rfl rfl rfl Try.call25 (sp_38) Ts ?_
  rintro ⟨⟩ -
  try simp only [List.cons_append, List.nil_append]
  refine ag_nil (r_done (k_then_n (c_seq (c_plain (.q 0 (.q 1 ((.l 2 [] ((.l 3 [] (.q 4 (.q 5 ((.l 6 [] (.q 7 (.q 8 (.q 9 (.q 10 (.q 11 ((.l 12 [] (.q 13 (.q 14 ((.l 15 [] (.done)))))))))))))))))))))) (by kernel_rfl) ?_))))
  refine q_move rfl rfl rfl rfl (q_load_c (j := 0) rfl rfl rfl rfl Try.isAgg23 Tk Az (by rfl) ?_)
  refine s_take (A := own 1 encU ka kc (fitL xs)) Tk ?_
  refine own_fc fun f_39a f_39b f_39c => ?_
  have sp_40 := trimmed_spec (fitL xs) ka ((fitL xs).length) kc (own 1 encU ka kc (fitL xs)) Ln (rds_own encU_len (fun h => (f_39b h).1) f_39c) (by omega) (by omega)
  refine l_call rfl rfl rfl rfl rfl rfl Try.call19 (sp_40) Ts ?_
  rintro ⟨⟩ -
  try simp only [List.cons_append, List.nil_append]
  refine ag_nil (s_take (A := own 1 encU qa qc LA) Tk ?_)
  refine own_fc fun f_41a f_41b f_41c => ?_
  refine s_heap (fun _ h => Bun.fold ((by (repeat ((with_reducible apply Z2); focus (first | (with_reducible (repeat (first | exact Z0 | apply Z1)); done) | (repeat (first | exact Z0 | apply Z1))))); exact Z3 : Takes _ [own 1 encU qa qc LA, own 1 encU ka kc (fitL xs)] _) _ h)) ?_
  have sp_42 := same_spec LA (tr (fitL xs)) qa ka LA.length ((tr (fitL xs)).length) qc kc (Bun [own 1 encU qa qc LA, own 1 encU ka kc (fitL xs)]) Ln (rds_bun (List.mem_cons_self) (rds_own encU_len (fun h => (f_41b h).1) f_41c)) Ln (rds_bun (List.mem_cons_of_mem _ (List.mem_cons_self)) ((rds_take (rds_own encU_len (fun h => (f_39b h).1) f_39c) encU_len _))) (by omega)
  refine l_call rfl rfl rfl rfl rfl rfl Try.call17 (sp_42) Ts ?_
  rintro ⟨⟩ -
  try simp only [List.cons_append, List.nil_append]
  refine s_take (A := Bun [own 1 encU qa qc LA, own 1 encU ka kc (fitL xs)]) Tk ?_
  refine s_bun ?_
  try simp only [List.cons_append, List.nil_append]
  try simp only [List.cons_append, List.nil_append]
  refine ag_nil (q_move rfl rfl rfl rfl ?_)
  refine s_bool_p 173 rfl (fun hg => ?_) (fun hg => by exfalso; exact hg hLA)
  refine q_move rfl rfl rfl rfl ?_
  have sp_43 := len_spec ab ([] : List Int) ea 0 ec Ln
  refine l_call rfl rfl rfl rfl rfl rfl Try.call20 (sp_43) Ts ?_
  rintro ⟨⟩ -
  try simp only [List.cons_append, List.nil_append]
  refine ag_nil (q_int rfl rfl rfl rfl rfl (b_eql _ _ _ _) ?_)
  refine s_eq 176 rfl (v' := .bool true) (by first | rfl | simp) ?_
  refine q_pick_t rfl rfl rfl rfl rfl (q_move rfl rfl rfl rfl (q_move rfl rfl rfl rfl (q_move rfl rfl rfl rfl ?_)))
  have sp_44 := get_spec db LF fa LF.length fc Ln t
  refine l_call rfl rfl rfl rfl rfl rfl Try.call13 (sp_44) Ts ?_
  rintro ⟨⟩ -
  try simp only [List.cons_append, List.nil_append]
  refine ag_nil (q_int rfl rfl rfl rfl rfl (b_eql _ _ _ _) ?_)
  refine s_eq 182 rfl (v' := .bool true) (by rw [hLFg, if_pos rfl]; rfl) ?_
  refine q_pick_t rfl rfl rfl rfl rfl (l_store (j := 0) rfl rfl rfl rfl Try.sizeOf4 (us := [_]) rfl rfl rfl Tk Az (by first | decide | (simp; done) | omega) ?_)
  simp only [setL, List.set]
  refine ag_nil (r_done (s_keep [6] (e' := [(6, _)]) rfl ?_))
  refine k_then_n (c_ret (rm_ret ?_))
  refine rm_mark (blk := blk_20) Tk ?_
  refine rm_done (us := [_]) rfl ⟨rv_cell1 rfl Try.isAgg4 Tk (j := 0) rfl rfl, trivial⟩ (()) (by first | rfl | (first | rfl | (congr 1; done) | (congr 1 <;> first | rfl | omega | (simp; done) | (simp; omega)))) (by trivial) ?_
  exact Tf
 exact h2.elim
end Go.Ab.Vc
set_option linter.unusedVariables false
set_option linter.unusedSimpArgs false
set_option maxRecDepth 100000
namespace Go.Ab.Vc
open Go Go.Proofs Go.Ab
theorem or_pack {t c : Nat} (ht : t < 65536) (hc : c < 281474976710656) : orV .u64 ((t * 281474976710656 : Nat) : Int) (c : Int) = ((t * 281474976710656 + c : Nat) : Int) := by
  have h1 : (t * 281474976710656 ||| c) = t * 281474976710656 + c := by
    have := Nat.shiftLeft_add_eq_or_of_lt (i := 48) (b := c) (by omega) t
    rw [Nat.shiftLeft_eq] at this
    exact this.symm
  have h2 : (BitVec.ofInt IntKind.u64.bits ((t * 281474976710656 : Nat) : Int) ||| BitVec.ofInt IntKind.u64.bits (c : Int)).toNat = t * 281474976710656 + c := by
    show (BitVec.ofInt 64 _ ||| BitVec.ofInt 64 _).toNat = _
    rw [BitVec.ofInt_natCast, BitVec.ofInt_natCast, BitVec.toNat_or, BitVec.toNat_ofNat, BitVec.toNat_ofNat, Nat.mod_eq_of_lt (by omega), Nat.mod_eq_of_lt (by omega), h1]
  rw [orV, h2]
  exact wrap_fits (fits_u64 (by omega) (by omega))
theorem and_mask {e : Nat} (he : e < 18446744073709551616) : andV .u64 (e : Int) 281474976710655 = ((e % 281474976710656 : Nat) : Int) := by
  have h2 : (BitVec.ofInt IntKind.u64.bits (e : Int) &&& BitVec.ofInt IntKind.u64.bits 281474976710655).toNat = e % 281474976710656 := by
    show (BitVec.ofInt 64 _ &&& BitVec.ofInt 64 ((281474976710655 : Nat) : Int)).toNat = _
    rw [BitVec.ofInt_natCast, BitVec.ofInt_natCast, BitVec.toNat_and, BitVec.toNat_ofNat, BitVec.toNat_ofNat, Nat.mod_eq_of_lt (by omega), Nat.mod_eq_of_lt (by omega)]
    exact Nat.and_two_pow_sub_one_eq_mod e 48
  rw [andV, h2]
  exact wrap_fits (fits_u64 (by omega) (by omega))
/-- May an epoch be? Its thread, its clock. -/
abbrev epV (e : Nat) : Prop := e ≠ 0 ∧ e / 281474976710656 < 65535 ∧ e % 281474976710656 ≠ 0
def epT (e : Nat) : Nat := if epV e then e / 281474976710656 else 0
def epC (e : Nat) : Nat := if epV e then e % 281474976710656 else 0
/-- Has a vector an epoch? -/
def hasE (e : Nat) (l : List Int) : Prop := (epC e : Int) ≤ l.getD (epT e) 0
instance (e : Nat) (l : List Int) : Decidable (hasE e l) := inferInstanceAs (Decidable (_ ≤ _))
/-- A thread's epoch. -/
def eN (l : List Int) (t : Nat) : Nat := if l.getD t 0 = 0 then 0 else t * 281474976710656 + (l.getD t 0).toNat
theorem eN_pos {l : List Int} {t : Nat} (h : l.getD t 0 ≠ 0) : eN l t = t * 281474976710656 + (l.getD t 0).toNat := if_neg h
theorem epT_lt (e : Nat) : epT e < 65535 := by
  unfold epT; split
  · rename_i h; exact h.2.1
  · decide
theorem parts_spec (e : Nat) (he : e < 18446744073709551616) : Spec Try.prog 66 [.int .u64 ((e : Nat) : Int)] [] (fun (_ : Unit) => .tuple #[.int .u16 ((epT e : Nat) : Int), .int .u64 ((epC e : Nat) : Int), .bool (decide (e = 0 ∨ epV e))]) (fun _ => True) (fun _ => []) := by
 refine spec_mk (n := 24) Try.func66 rfl rfl rfl ?_
 intro Γ w0
 simp only [argE, List.cons_append, List.nil_append, Nat.zero_add, Nat.reduceAdd]
 refine c_seq (c_plain (.q 0 (.q 1 (.q 2 (.done)))) (by kernel_rfl) ?_)
 refine q_assign rfl rfl rfl rfl (q_assign rfl rfl rfl rfl (q_assign rfl rfl rfl rfl (r_done (k_then_n (c_seq (c_plain (.q 0 (.q 1 (.done))) (by kernel_rfl) ?_))))))
 refine q_move rfl rfl rfl rfl (q_assign rfl rfl rfl rfl (r_done (s_keep [0, 5] (e' := [(0, _), (5, _)]) rfl ?_)))
 refine k_then_n (c_seq (c_plain (.q 0 (.q 1 (.q 2 (.done)))) (by kernel_rfl) ?_))
 refine q_move rfl rfl rfl rfl (q_int rfl rfl rfl rfl rfl (b_and _ _ _ _) ?_)
 refine s_eq 9 rfl (v' := .int .u64 ((e % 281474976710656 : Nat) : Int)) (by rw [and_mask he]) ?_
 refine q_assign rfl rfl rfl rfl (r_done (k_then_n (c_seq (c_plain (.q 0 (.q 1 (.done))) (by kernel_rfl) ?_))))
 refine q_move rfl rfl rfl rfl (q_assign rfl rfl rfl rfl (r_done (k_then_n (c_seq (c_plain (.q 0 (.q 1 (.q 2 (.done)))) (by kernel_rfl) ?_)))))
 refine q_move rfl rfl rfl rfl (q_int rfl rfl rfl rfl rfl (b_shrL _ 48 281474976710656 rfl (by decide) rfl) ?_)
 refine s_eq 12 rfl (v' := .int .u64 (((e / 281474976710656) : Nat) : Int)) (by first | rfl | (congr 1; omega)) ?_
 refine q_assign rfl rfl rfl rfl (r_done (s_keep [0, 5, 6] (e' := [(0, _), (5, _), (6, _)]) rfl ?_))
 refine k_then_n (c_seq (c_seq (c_plain (.q 0 (.q 1 (.done))) (by kernel_rfl) ?_)))
 refine q_move rfl rfl rfl rfl (q_int rfl rfl rfl rfl rfl (b_eql _ _ _ _) ?_)
 refine r_done (k_then_n ?_)
 refine c_cond_p rfl (fun hz => ?_) (fun hz => ?_)
 ·
  have hnv : ¬ epV e := fun h => h.1 (by omega)
  refine c_seq (c_plain (.q 0 (.q 1 (.q 2 (.done)))) (by kernel_rfl) ?_)
  refine q_assign rfl rfl rfl rfl (q_assign rfl rfl rfl rfl (q_assign rfl rfl rfl rfl (r_done (s_keep [2, 3, 4] (e' := [(2, _), (3, _), (4, _)]) rfl ?_))))
  refine k_then_n (c_ret (k_then_ret (retL (us := [_, _, _]) rfl ⟨rv_tmp rfl, rv_tmp rfl, rv_tmp rfl, trivial⟩ (()) (by first | (have hd : decide (e = 0 ∨ epV e) = true := decide_eq_true (.inl (by omega)); rw [epT, epC, if_neg hnv, if_neg hnv, hd]; rfl) | (have hnv : ¬ epV e := (fun h => by have h2 := h.2.1; have h3 := h.2.2; omega); have hd : decide (e = 0 ∨ epV e) = false := decide_eq_false (fun h => h.elim (fun h => by omega) hnv); rw [epT, epC, if_neg hnv, if_neg hnv, hd]; rfl) | (have hv : epV e := ⟨by omega, by omega, by omega⟩; rw [epT, epC, if_pos hv, if_pos hv, decide_eq_true (Or.inr hv)]; rfl)) (by trivial) ?_)))
  exact Tf
 refine c_skip (k_then_n (c_seq (c_seq (c_plain (.q 0 (.q 1 (.q 2 (.q 3 (.q 4 (.q 5 (.done))))))) (by kernel_rfl) ?_))))
 refine q_move rfl rfl rfl rfl (q_int rfl rfl rfl rfl rfl (b_geq _ _ _ _) ?_)
 refine q_move rfl rfl rfl rfl ?_
 refine s_bool_p 17 rfl (fun hth => ?_) (fun hth => ?_)
 ·
  refine q_skip rfl rfl rfl rfl (q_skip rfl rfl rfl rfl (q_pick_t rfl rfl rfl rfl rfl (r_done (s_keep [5, 6, 20] (e' := [(5, _), (6, _), (20, _)]) rfl ?_))))
  refine k_then_n (c_cond_t rfl ?_)
  refine c_seq (c_plain (.q 0 (.q 1 (.q 2 (.done)))) (by kernel_rfl) ?_)
  refine q_assign rfl rfl rfl rfl (q_assign rfl rfl rfl rfl (q_assign rfl rfl rfl rfl (r_done (k_then_n (c_ret (k_then_ret (retL (us := [_, _, _]) rfl ⟨rv_tmp rfl, rv_tmp rfl, rv_tmp rfl, trivial⟩ (()) (by first | (have hd : decide (e = 0 ∨ epV e) = true := decide_eq_true (.inl (by omega)); rw [epT, epC, if_neg hnv, if_neg hnv, hd]; rfl) | (have hnv : ¬ epV e := (fun h => by have h2 := h.2.1; have h3 := h.2.2; omega); have hd : decide (e = 0 ∨ epV e) = false := decide_eq_false (fun h => h.elim (fun h => by omega) hnv); rw [epT, epC, if_neg hnv, if_neg hnv, hd]; rfl) | (have hv : epV e := ⟨by omega, by omega, by omega⟩; rw [epT, epC, if_pos hv, if_pos hv, decide_eq_true (Or.inr hv)]; rfl)) (by trivial) ?_)))))))
  exact Tf
 refine q_move rfl rfl rfl rfl (q_int rfl rfl rfl rfl rfl (b_eql _ _ _ _) ?_)
 refine q_pick_f rfl rfl rfl rfl rfl (r_done (s_keep [5, 6, 20] (e' := [(5, _), (6, _), (20, _)]) rfl ?_))
 refine k_then_n ?_
 refine c_cond_p rfl (fun hcl => ?_) (fun hcl => ?_)
 ·
  refine c_seq (c_plain (.q 0 (.q 1 (.q 2 (.done)))) (by kernel_rfl) ?_)
  refine q_assign rfl rfl rfl rfl (q_assign rfl rfl rfl rfl (q_assign rfl rfl rfl rfl (r_done (k_then_n (c_ret (k_then_ret (retL (us := [_, _, _]) rfl ⟨rv_tmp rfl, rv_tmp rfl, rv_tmp rfl, trivial⟩ (()) (by first | (have hd : decide (e = 0 ∨ epV e) = true := decide_eq_true (.inl (by omega)); rw [epT, epC, if_neg hnv, if_neg hnv, hd]; rfl) | (have hnv : ¬ epV e := (fun h => by have h2 := h.2.1; have h3 := h.2.2; omega); have hd : decide (e = 0 ∨ epV e) = false := decide_eq_false (fun h => h.elim (fun h => by omega) hnv); rw [epT, epC, if_neg hnv, if_neg hnv, hd]; rfl) | (have hv : epV e := ⟨by omega, by omega, by omega⟩; rw [epT, epC, if_pos hv, if_pos hv, decide_eq_true (Or.inr hv)]; rfl)) (by trivial) ?_)))))))
  exact Tf
 refine c_skip (k_then_n (c_seq (c_plain (.q 0 (.q 1 (.q 2 (.q 3 (.q 4 (.q 5 (.done))))))) (by kernel_rfl) ?_)))
 refine q_move rfl rfl rfl rfl (q_conv' rfl rfl rfl rfl Try.underlying98 Try.underlying30 (by simp only [fits, IntKind.min, IntKind.max, IntKind.signed, IntKind.bits]; simp; omega) ?_)
 refine q_move rfl rfl rfl rfl (q_assign rfl rfl rfl rfl (q_assign rfl rfl rfl rfl (q_assign rfl rfl rfl rfl (r_done (s_keep [2, 3, 4] (e' := [(2, _), (3, _), (4, _)]) rfl ?_)))))
 refine k_then_n (c_ret (retL (us := [_, _, _]) rfl ⟨rv_tmp rfl, rv_tmp rfl, rv_tmp rfl, trivial⟩ (()) (by first | (have hd : decide (e = 0 ∨ epV e) = true := decide_eq_true (.inl (by omega)); rw [epT, epC, if_neg hnv, if_neg hnv, hd]; rfl) | (have hnv : ¬ epV e := (fun h => by have h2 := h.2.1; have h3 := h.2.2; omega); have hd : decide (e = 0 ∨ epV e) = false := decide_eq_false (fun h => h.elim (fun h => by omega) hnv); rw [epT, epC, if_neg hnv, if_neg hnv, hd]; rfl) | (have hv : epV e := ⟨by omega, by omega, by omega⟩; rw [epT, epC, if_pos hv, if_pos hv, decide_eq_true (Or.inr hv)]; rfl)) (by trivial) ?_))
 exact Tf
theorem eleq_spec (e : Nat) (he : e < 18446744073709551616) (l : List Int) (ao : Option Addr) (n c : Nat) (A : HProp) (hn : l.length = n) (hr : RdS A ao (l.flatMap encU)) : Spec Try.prog 46 [.int .u64 ((e : Nat) : Int), .slice ao n c] [A] (fun (_ : Unit) => .bool (decide (hasE e l))) (fun _ => True) (fun _ => [A]) := by
 refine spec_mk (n := 27) Try.func46 rfl rfl rfl ?_
 intro Γ w0
 simp only [argE, List.cons_append, List.nil_append, Nat.zero_add, Nat.reduceAdd]
 refine c_seq (c_plain (.q 0 (.done)) (by kernel_rfl) ?_)
 refine q_assign rfl rfl rfl rfl (r_done (k_then_n (c_seq (c_plain (.q 0 ((.l 1 [] (.q 2 (.q 3 (.q 4 (.q 5 (.q 6 (.q 7 (.q 8 (.done))))))))))) (by kernel_rfl) ?_))))
 refine q_move rfl rfl rfl rfl ?_
 have sp_1 := parts_spec e he
 refine l_call rfl rfl rfl rfl rfl rfl Try.call66 (sp_1) Ts ?_
 rintro ⟨⟩ -
 try simp only [List.cons_append, List.nil_append]
 refine ag_nil (q_move rfl rfl rfl rfl (q_extract rfl rfl rfl rfl rfl (q_extract rfl rfl rfl rfl rfl (q_extract rfl rfl rfl rfl rfl (q_assign rfl rfl rfl rfl (q_assign rfl rfl rfl rfl (q_assign rfl rfl rfl rfl (r_done ?_))))))))
 refine s_keep [1, 5, 6] (e' := [(1, _), (5, _), (6, _)]) rfl ?_
 refine k_then_n (c_seq (c_seq ?_))
 have htl := epT_lt e
 refine c_plain (.q 0 (.q 1 (.q 2 (.q 3 (.q 4 (.done)))))) (by kernel_rfl) ?_
 refine q_move rfl rfl rfl rfl (q_conv' rfl rfl rfl rfl Try.underlying3 Try.underlying98 (by exact fits_i64 (by omega) (by omega)) ?_)
 refine q_move rfl rfl rfl rfl (q_len rfl rfl rfl rfl Try.underlying23 ?_)
 refine q_int rfl rfl rfl rfl rfl (b_geq _ _ _ _) ?_
 refine r_done (s_keep [1, 5, 6, 18] (e' := [(1, _), (5, _), (6, _), (18, _)]) rfl ?_)
 refine k_then_n ?_
 refine c_cond_p rfl (fun hge => ?_) (fun hge => ?_)
 ·
  refine c_seq (c_plain (.q 0 (.q 1 (.q 2 (.done)))) (by kernel_rfl) ?_)
  refine q_move rfl rfl rfl rfl (q_int rfl rfl rfl rfl rfl (b_eql _ _ _ _) ?_)
  refine q_assign rfl rfl rfl rfl (r_done (s_keep [4] (e' := [(4, _)]) rfl ?_))
  refine k_then_n (c_ret (k_then_ret (ret1 rfl rfl (()) (by congr 1; exact decide_eq_decide.2 (by rw [hasE, g_out (by omega)]; try omega)) (by trivial) ?_)))
  exact Tf
 obtain ⟨x, hx⟩ := get_lt (l := l) (i := epT e) (by omega)
 refine c_skip (k_then_n (c_seq (c_plain (.q 0 (.q 1 (.q 2 (.q 3 (.q 4 (.q 5 (.q 6 (.done)))))))) (by kernel_rfl) ?_)))
 refine q_move rfl rfl rfl rfl (q_move rfl rfl rfl rfl (q_move rfl rfl rfl rfl (q_idxR (sz := 0) (k := epT e) rfl rfl rfl rfl rfl Try.underlying23 Try.sizeOf30 (hr) hx encU_len (by first | rfl | omega) (by omega) ?_)))
 intro ib24 io24 _ hd24
 refine q_load rfl rfl rfl rfl Try.isAgg30 Tk (hd24 0 (.int .u64 x) rfl) ?_
 refine q_int rfl rfl rfl rfl rfl (b_leq _ _ _ _) ?_
 refine q_assign rfl rfl rfl rfl (r_done (s_keep [4] (e' := [(4, _)]) rfl ?_))
 refine k_then_n (c_ret (ret1 rfl rfl (()) (by congr 1; exact decide_eq_decide.2 (by rw [hasE, getD_mem hx])) (by trivial) ?_))
 exact Tf
theorem has_spec (b : Nat) (l : List Int) (ao : Option Addr) (n cap : Nat) (hn : l.length = n) (e : Nat) (he : e < 18446744073709551616) : Spec Try.prog 27 [.pointer (some ⟨b, 0, none⟩), .int .u64 ((e : Nat) : Int)] [cells b 0 [.slice ao n cap], own 1 encU ao cap l] (fun (_ : Unit) => .bool (decide (hasE e l))) (fun _ => True) (fun _ => [cells b 0 [.slice ao n cap], own 1 encU ao cap l]) := by
 refine spec_mk (n := 15) Try.func27 rfl rfl rfl ?_
 intro Γ w0
 simp only [argE, List.cons_append, List.nil_append, Nat.zero_add, Nat.reduceAdd]
 refine c_seq (c_plain (.q 0 (.done)) (by kernel_rfl) ?_)
 refine q_assign rfl rfl rfl rfl (r_done (k_then_n (c_seq (c_plain (.q 0 (.q 1 (.q 2 (.q 3 (.q 4 (.q 5 (.q 6 (.q 7 ((.l 8 [] (.q 9 (.q 10 (.done))))))))))))) (by kernel_rfl) ?_))))
 refine q_move rfl rfl rfl rfl (q_ne_nil rfl rfl rfl rfl Try.underlying25 ?_)
 refine s_eq 6 rfl (v' := .bool true) rfl ?_
 refine q_move rfl rfl rfl rfl (q_move rfl rfl rfl rfl (q_move rfl rfl rfl rfl (q_nil_p rfl rfl rfl rfl (q_field (k := 0) rfl rfl rfl rfl Try.underlying64 rfl Try.sizeOf23 rfl ?_))))
 refine q_load_c (j := 0) rfl rfl rfl rfl Try.isAgg23 Tk Az (by rfl) ?_
 refine s_take (A := own 1 encU ao cap l) Tk ?_
 refine own_fc fun f_1a f_1b f_1c => ?_
 have sp_2 := eleq_spec e he l ao n cap (own 1 encU ao cap l) Ln (rds_own encU_len (fun h => (f_1b h).1) f_1c)
 refine l_call rfl rfl rfl rfl rfl rfl Try.call46 (sp_2) Ts ?_
 rintro ⟨⟩ -
 try simp only [List.cons_append, List.nil_append]
 refine ag_nil (q_pick_t rfl rfl rfl rfl rfl (q_assign rfl rfl rfl rfl (r_done (s_keep [4] (e' := [(4, _)]) rfl ?_))))
 refine k_then_n (c_ret (ret1 rfl rfl (()) (by first | rfl | (first | rfl | (congr 1; done) | (congr 1 <;> first | rfl | omega | (simp; done) | (simp; omega)))) (by trivial) ?_))
 exact Tf
theorem pack_spec (t c : Nat) (ht : t < 65535) (hc : 0 < c ∧ c < 281474976710656) : Spec Try.prog 45 [.int .i64 ((t : Nat) : Int), .int .u64 ((c : Nat) : Int)] [] (fun (_ : Unit) => .tuple #[.int .u64 ((t * 281474976710656 + c : Nat) : Int), .int .i64 0]) (fun _ => True) (fun _ => []) := by
 refine spec_mk (n := 29) Try.func45 rfl rfl rfl ?_
 intro Γ w0
 simp only [argE, List.cons_append, List.nil_append, Nat.zero_add, Nat.reduceAdd]
 refine c_seq (c_plain (.q 0 (.q 1 (.done))) (by kernel_rfl) ?_)
 refine q_assign rfl rfl rfl rfl (q_assign rfl rfl rfl rfl (r_done (k_then_n (c_seq (c_seq (c_plain (.q 0 (.q 1 (.q 2 (.q 3 (.q 4 (.q 5 (.q 6 (.q 7 (.q 8 (.q 9 (.q 10 (.q 11 (.q 12 (.q 13 (.done))))))))))))))) (by kernel_rfl) ?_))))))
 refine q_move rfl rfl rfl rfl (q_int rfl rfl rfl rfl rfl (b_lss _ _ _ _) ?_)
 refine q_move rfl rfl rfl rfl ?_
 refine s_bool_p 9 rfl (fun hg => by exfalso; omega) (fun hg => ?_)
 refine q_move rfl rfl rfl rfl (q_int rfl rfl rfl rfl rfl (b_geq _ _ _ _) ?_)
 refine q_pick_f rfl rfl rfl rfl rfl (q_move rfl rfl rfl rfl ?_)
 refine s_bool_p 13 rfl (fun hg => by exfalso; omega) (fun hg => ?_)
 refine q_move rfl rfl rfl rfl (q_int rfl rfl rfl rfl rfl (b_eql _ _ _ _) ?_)
 refine q_pick_f rfl rfl rfl rfl rfl (q_move rfl rfl rfl rfl ?_)
 refine s_bool_p 17 rfl (fun hg => by exfalso; omega) (fun hg => ?_)
 refine q_move rfl rfl rfl rfl (q_int rfl rfl rfl rfl rfl (b_gtr _ _ _ _) ?_)
 refine q_pick_f rfl rfl rfl rfl rfl (r_done (s_keep [0, 1, 20] (e' := [(0, _), (1, _), (20, _)]) rfl ?_))
 refine k_then_n ?_
 refine c_cond_p rfl (fun hg => by exfalso; omega) (fun hg => ?_)
 refine c_skip (k_then_n (c_seq (c_plain (.q 0 (.q 1 (.q 2 (.done)))) (by kernel_rfl) ?_)))
 refine q_move rfl rfl rfl rfl (q_conv' rfl rfl rfl rfl Try.underlying30 Try.underlying3 (by exact fits_u64 (by omega) (by omega)) ?_)
 refine q_assign rfl rfl rfl rfl (r_done (s_keep [1, 6] (e' := [(1, _), (6, _)]) rfl ?_))
 refine k_then_n (c_seq (c_plain (.q 0 (.q 1 (.q 2 (.done)))) (by kernel_rfl) ?_))
 refine q_move rfl rfl rfl rfl (q_int rfl rfl rfl rfl rfl (b_shlL _ 48 281474976710656 rfl (by decide) rfl) ?_)
 refine s_eq 24 rfl (v' := .int .u64 ((t * 281474976710656 : Nat) : Int)) (by rw [wrap_fits (fits_u64 (by omega) (by omega))]; first | done | (congr 1; done) | (congr 1; omega)) ?_
 refine q_assign rfl rfl rfl rfl (r_done (k_then_n (c_seq (c_plain (.q 0 (.q 1 (.q 2 (.q 3 (.done))))) (by kernel_rfl) ?_))))
 refine q_move rfl rfl rfl rfl (q_move rfl rfl rfl rfl (q_int rfl rfl rfl rfl rfl (b_or _ _ _ _) ?_))
 refine s_eq 27 rfl (v' := .int .u64 ((t * 281474976710656 + c : Nat) : Int)) (by rw [or_pack (by omega) (by omega)]) ?_
 refine q_assign rfl rfl rfl rfl (r_done (s_keep [6] (e' := [(6, _)]) rfl ?_))
 refine k_then_n (c_seq (c_plain (.q 0 (.q 1 (.q 2 (.done)))) (by kernel_rfl) ?_))
 refine q_move rfl rfl rfl rfl (q_assign rfl rfl rfl rfl (q_assign rfl rfl rfl rfl (r_done (k_then_n (c_ret (ret2 rfl rfl rfl (()) (by first | rfl | (first | rfl | (congr 1; done) | (congr 1 <;> first | rfl | omega | (simp; done) | (simp; omega)))) (by trivial) ?_))))))
 exact Tf
end Go.Ab.Vc
set_option linter.unusedVariables false
set_option linter.unusedSimpArgs false
set_option maxRecDepth 100000
namespace Go.Ab.Vc
open Go Go.Proofs Go.Ab
def icE (l : List Int) (i : Nat) : List Int := if l.getD i 0 = maxC then l else icL l i
def icN (l : List Int) (i : Nat) : Int := if l.getD i 0 = maxC then 0 else l.getD i 0 + 1
def icF (l : List Int) (i : Nat) : Int := if l.getD i 0 = maxC then 30 else 0
end Go.Ab.Vc
set_option linter.unusedVariables false
set_option linter.unusedSimpArgs false
set_option maxRecDepth 100000
namespace Go.Ab.Rv
open Go Go.Proofs Go.Ab Go.Ab.Vc
theorem getD_of {l : List Int} {k : Nat} {x : Int} (h : l[k]? = some x) : l.getD k 0 = x := by rw [List.getD_eq_getElem?_getD, h]; rfl
theorem getD_no {l : List Int} {k : Nat} (h : l.length ≤ k) : l.getD k 0 = 0 := by rw [List.getD_eq_getElem?_getD, List.getElem?_eq_none h]; rfl
theorem app_getD (l : List Int) (n k : Nat) : (l ++ List.replicate n (0 : Int)).getD k 0 = l.getD k 0 := by
  simp only [List.getD_eq_getElem?_getD]
  rcases Nat.lt_or_ge k l.length with h | h
  · rw [List.getElem?_append_left h]
  · rw [List.getElem?_append_right h, List.getElem?_eq_none h, List.getElem?_replicate]; split <;> rfl
def withL (l : List Int) (i : Nat) (x : Int) : List Int := (l ++ List.replicate (i + 1 - l.length) 0).set i x
theorem with_g (l : List Int) (i : Nat) (x : Int) (k : Nat) : (withL l i x).getD k 0 = if k = i then x else l.getD k 0 := by
  unfold withL
  have hl : i < (l ++ List.replicate (i + 1 - l.length) (0 : Int)).length := by simp; omega
  by_cases h : k = i
  · subst h
    rw [if_pos rfl, List.getD_eq_getElem?_getD, List.getElem?_set_self hl]; rfl
  · rw [if_neg h, List.getD_eq_getElem?_getD, List.getElem?_set_ne (Ne.symm h), ← List.getD_eq_getElem?_getD, app_getD]
/-- A list as long as may be, of clocks. -/
def OkV (l : List Int) : Prop := l.length ≤ 65535 ∧ ∀ x ∈ l, 0 ≤ x ∧ x ≤ maxC
theorem ok_cv {l : List Int} (h : OkV l) : CV (tr l) := tr_cv h.1 h.2
theorem ok_g {l : List Int} (h : OkV l) (k : Nat) : 0 ≤ l.getD k 0 ∧ l.getD k 0 ≤ maxC := by
  rcases Nat.lt_or_ge k l.length with h1 | h1
  · obtain ⟨x, hx⟩ := get_lt h1
    rw [getD_of hx]; exact h.2 x (List.mem_of_getElem? hx)
  · rw [getD_no h1]; decide
theorem ok_nil : OkV [] := ⟨by decide, fun x h => by cases h⟩
theorem ok_with {l : List Int} (h : OkV l) {i : Nat} (hi : i < 65535) {x : Int} (h0 : 0 ≤ x) (h1 : x ≤ maxC) : OkV (withL l i x) := by
  unfold withL
  refine ⟨by simp; have := h.1; omega, fun y hy => ?_⟩
  rcases List.mem_or_eq_of_mem_set hy with hy | rfl
  · rcases List.mem_append.1 hy with hy | hy
    · exact h.2 y hy
    · rw [(List.mem_replicate.1 hy).2]; decide
  · exact ⟨h0, h1⟩
theorem tr_with {l : List Int} (h : OkV l) {i : Nat} (hi : i < 65535) {x : Int} (h0 : 0 ≤ x) (h1 : x ≤ maxC) : tr (withL l i x) = stL (tr l) i x :=
  Tr_ext (tr_Tr _) (stL_cv (ok_cv h) hi h0 h1).tr fun k => by rw [tr_g, with_g, stL_g, tr_g]
theorem ic_st {l : List Int} {t : Nat} (hl : CV l) (ht : t < 65535) (h : l.getD t 0 < maxC) : stL l t (l.getD t 0 + 1) = icL l t := by
  have hg := g_rng hl.rng (by decide) t
  exact Tr_ext (stL_cv hl ht (by omega) (by omega)).tr (icL_cv hl ht h).tr fun k => by rw [stL_g, icL_g]
theorem below_iff {l m : List Int} (hl : OkV l) (hm : OkV m) : LeqL (tr l) (tr m) ↔ ∀ i : Nat, i < l.length → l.getD i 0 ≤ m.getD i 0 := by
  rw [leq_iff (ok_cv hl) (ok_cv hm)]
  constructor
  · intro q i _
    have := q i
    rwa [tr_g, tr_g] at this
  · intro q i
    rw [tr_g, tr_g]
    rcases Nat.lt_or_ge i l.length with hi | hi
    · exact q i hi
    · rw [getD_no hi]; exact (ok_g hm i).1
theorem trN_next (l : List Int) (i : Nat) : trN l (i + 1) = if l.getD i 0 = 0 then trN l i else i + 1 := rfl
/-- The first i clocks of m have been joined into l. -/
def JnI (l m v : List Int) (i : Nat) : Prop := ∀ k : Nat, v.getD k 0 = if k < i then max (l.getD k 0) (m.getD k 0) else l.getD k 0
theorem JnI_zero (l m : List Int) : JnI l m l 0 := fun k => by rw [if_neg (by omega)]
theorem JnI_skip {l m v : List Int} {i : Nat} (h : JnI l m v i) (hle : m.getD i 0 ≤ v.getD i 0) : JnI l m v (i + 1) := fun k => by
  have h1 := h k
  have h2 := h i
  rw [if_neg (by omega)] at h2
  by_cases e : k = i
  · subst e; rw [if_pos (by omega), h2]; omega
  · rw [h1]
    by_cases e2 : k < i
    · rw [if_pos e2, if_pos (by omega)]
    · rw [if_neg e2, if_neg (by omega)]
theorem JnI_put {l m v : List Int} {i : Nat} (h : JnI l m v i) (hlt : v.getD i 0 < m.getD i 0) : JnI l m (withL v i (m.getD i 0)) (i + 1) := fun k => by
  have h2 := h i
  rw [if_neg (by omega)] at h2
  rw [with_g]
  by_cases e : k = i
  · subst e; rw [if_pos rfl, if_pos (by omega)]; omega
  · rw [if_neg e, h k]
    by_cases e2 : k < i
    · rw [if_pos e2, if_pos (by omega)]
    · rw [if_neg e2, if_neg (by omega)]
theorem JnI_end {l m v : List Int} {i : Nat} (hl : OkV l) (hm : OkV m) (hv : OkV v) (h : JnI l m v i) (hi : m.length ≤ i) : tr v = jn (tr l) (tr m) :=
  Tr_ext (tr_Tr _) (jn_cv (ok_cv hl) (ok_cv hm)).tr fun k => by
    rw [tr_g, jn_g (ok_cv hl) (ok_cv hm), tr_g, tr_g, h k]
    split
    · rfl
    · rw [getD_no (l := m) (by omega)]
      have := (ok_g hl k).1
      omega
/-- A vector at b: its list may end in zeros. -/
def ckB (b : Nat) (t : List Int) : HProp := fun h => ∃ ao cap l, OkV l ∧ tr l = t ∧ Sat [cells b 0 [.slice ao l.length cap], own 1 encU ao cap l] h
def ckA (a : Option Addr) (t : List Int) : HProp := fun h => ∃ b, a = some ⟨b, 0, none⟩ ∧ ckB b t h
def optR (a : Option Addr) (m : Option (List Int)) : HProp := match m with | none => fun _ => a = none | some t => ckA a t
section
variable {w0 : World} {ds : List Deferred} {n : Nat} {e : Env} {Γ Γ' : List HProp} {X : Act → World → Prop}
theorem ck_open {b : Nat} {t : List Int} (tk : Take Γ (ckB b t) Γ') (k : ∀ ao cap l, OkV l → tr l = t → Le (St w0 ds n e (cells b 0 [.slice ao l.length cap] :: own 1 encU ao cap l :: Γ')) X) : Le (St w0 ds n e Γ) X := fun x w s => by
  obtain ⟨h1, l1, ⟨ao, cap, l, ho, ht, a1⟩, s1⟩ := tk _ s.heap
  exact k ao cap l ho ht x w ⟨s.defers, s.size, s.env, Bun.unfold ⟨h1, l1, a1, s1⟩, s.amb⟩
theorem ck_fold {b : Nat} {ao : Option Addr} {cap m : Nat} {l : List Int} (t : List Int) (tk : Takes Γ [cells b 0 [.slice ao m cap], own 1 encU ao cap l] Γ') (hm : m = l.length) (ho : OkV l) (ht : tr l = t) (k : Le (St w0 ds n e (ckB b t :: Γ')) X) : Le (St w0 ds n e Γ) X := s_heap (fun h s => by
  subst hm
  obtain ⟨h1, l1, a1, s1⟩ := Bun.fold (tk h s)
  exact ⟨h1, l1, ⟨ao, cap, l, ho, ht, a1⟩, s1⟩) k
end
theorem new_spec : Spec Try.prog 31 [] [] (fun (r : Nat) => .pointer (some ⟨r, 0, none⟩)) (fun r => True) (fun r => [ckB r []]) := by
 refine spec_mk (n := 3) Try.func31 rfl rfl rfl ?_
 intro Γ w0
 simp only [argE, List.cons_append, List.nil_append, Nat.zero_add, Nat.reduceAdd]
 refine c_seq (c_plain (.q 0 (.done)) (by kernel_rfl) ?_)
 refine q_assign rfl rfl rfl rfl (r_done (k_then_n (c_seq (c_plain (.q 0 ((.l 1 [] (.q 2 (.done))))) (by kernel_rfl) ?_))))
 refine q_build rfl rfl rfl rfl (vs := [_]) (run_buildS Try.underlying81 Try.zeroValue81 (ps := [(0, 1)]) ⟨rfl, Try.sizeOf23, trivial⟩ rfl) ?_
 refine l_box rfl rfl rfl rfl (us := [_]) rfl ?_
 intro b2
 refine ag_nil (q_assign rfl rfl rfl rfl (r_done (k_then_n (c_ret (s_heap (fun _ h => own_nil (sz := 1) (enc := encU) h) ?_)))))
 refine ck_fold (b := b2) (ao := none) (cap := 0) (l := []) ([] : List Int) Ts (by first | rfl | simp) ok_nil rfl ?_
 refine ret1 rfl rfl (b2) (by first | rfl | (first | rfl | (congr 1; done) | (congr 1 <;> first | rfl | omega | (simp; done) | (simp; omega)))) (by trivial) ?_
 exact Tf
theorem may_spec (i : Nat) (hi : i < 65535) : Spec Try.prog 68 [.int .i64 ((i : Nat) : Int)] [] (fun (_ : Unit) => .bool true) (fun _ => True) (fun _ => []) := by
 refine spec_mk (n := 9) Try.func68 rfl rfl rfl ?_
 intro Γ w0
 simp only [argE, List.cons_append, List.nil_append, Nat.zero_add, Nat.reduceAdd]
 refine c_seq (c_plain (.q 0 (.done)) (by kernel_rfl) ?_)
 refine q_assign rfl rfl rfl rfl (r_done (k_then_n (c_seq (c_plain (.q 0 (.q 1 (.q 2 (.q 3 (.q 4 (.q 5 (.q 6 (.done)))))))) (by kernel_rfl) ?_))))
 refine q_move rfl rfl rfl rfl (q_int rfl rfl rfl rfl rfl (b_geq _ _ _ _) ?_)
 refine q_move rfl rfl rfl rfl ?_
 refine s_bool_p 5 rfl (fun hg => ?_) (fun hg => by exfalso; omega)
 refine q_move rfl rfl rfl rfl (q_int rfl rfl rfl rfl rfl (b_lss _ _ _ _) ?_)
 refine q_pick_t rfl rfl rfl rfl rfl (q_assign rfl rfl rfl rfl (r_done (s_keep [2] (e' := [(2, _)]) rfl ?_)))
 refine k_then_n (c_ret (ret1 rfl rfl (()) (by rw [decide_eq_true (show (i : Int) < 65535 by omega)]) (by trivial) ?_))
 exact Tf
theorem at_spec (xs : List Int) (ao : Option Addr) (n c : Nat) (A : HProp) (hr : RdS A ao (xs.flatMap encU)) (hn : xs.length = n) (hb : n ≤ 4000000000) (i : Nat) : Spec Try.prog 71 [.slice ao n c, .int .i64 ((i : Nat) : Int)] [A] (fun (_ : Unit) => .int .u64 (xs.getD i 0)) (fun _ => True) (fun _ => [A]) := by
 refine spec_mk (n := 17) Try.func71 rfl rfl rfl ?_
 intro Γ w0
 simp only [argE, List.cons_append, List.nil_append, Nat.zero_add, Nat.reduceAdd]
 refine c_seq (c_plain (.q 0 (.done)) (by kernel_rfl) ?_)
 refine q_assign rfl rfl rfl rfl (r_done (k_then_n (c_seq (c_seq (c_plain (.q 0 (.q 1 (.q 2 (.q 3 (.q 4 (.q 5 (.q 6 (.q 7 (.done))))))))) (by kernel_rfl) ?_)))))
 refine q_move rfl rfl rfl rfl (q_int rfl rfl rfl rfl rfl (b_lss _ _ _ _) ?_)
 refine q_move rfl rfl rfl rfl ?_
 refine s_bool_p 7 rfl (fun hg => by exfalso; omega) (fun hg => ?_)
 refine q_move rfl rfl rfl rfl (q_move rfl rfl rfl rfl (q_len rfl rfl rfl rfl Try.underlying23 ?_))
 refine q_int rfl rfl rfl rfl rfl (b_geq _ _ _ _) ?_
 refine q_pick_f rfl rfl rfl rfl rfl (r_done (s_keep [0, 1, 12] (e' := [(0, _), (1, _), (12, _)]) rfl ?_))
 refine k_then_n ?_
 refine c_cond_p rfl (fun hge => ?_) (fun hge => ?_)
 ·
  refine c_seq (c_plain (.q 0 (.done)) (by kernel_rfl) ?_)
  refine q_assign rfl rfl rfl rfl (r_done (k_then_n (c_ret (k_then_ret (ret1 rfl rfl (()) (by rw [getD_no (by omega)]) (by trivial) ?_)))))
  exact Tf
 obtain ⟨x, hx⟩ := get_lt (l := xs) (i := i) (by omega)
 refine c_skip (k_then_n (c_seq (c_plain (.q 0 (.q 1 (.q 2 (.q 3 (.q 4 (.done)))))) (by kernel_rfl) ?_)))
 refine q_move rfl rfl rfl rfl (q_move rfl rfl rfl rfl (q_idxR (sz := 0) (k := i) rfl rfl rfl rfl rfl Try.underlying23 Try.sizeOf30 (hr) hx encU_len (by first | rfl | omega) (by omega) ?_))
 intro ib15 io15 _ hd15
 refine q_load rfl rfl rfl rfl Try.isAgg30 Tk (hd15 0 (.int .u64 x) rfl) ?_
 refine q_assign rfl rfl rfl rfl (r_done (s_keep [4] (e' := [(4, _)]) rfl ?_))
 refine k_then_n (c_ret (ret1 rfl rfl (()) (by rw [getD_of hx]) (by trivial) ?_))
 exact Tf
theorem get_open (b : Nat) (ao : Option Addr) (cap : Nat) (l : List Int) (ho : OkV l) (i : Nat) : Spec Try.prog 57 [.pointer (some ⟨b, 0, none⟩), .int .i64 ((i : Nat) : Int)] [cells b 0 [.slice ao l.length cap], own 1 encU ao cap l] (fun (_ : Unit) => .int .u64 (l.getD i 0)) (fun _ => True) (fun _ => [cells b 0 [.slice ao l.length cap], own 1 encU ao cap l]) := by
 refine spec_mk (n := 13) Try.func57 rfl rfl rfl ?_
 intro Γ w0
 simp only [argE, List.cons_append, List.nil_append, Nat.zero_add, Nat.reduceAdd]
 have hll := ho.1
 refine c_seq (c_plain (.q 0 (.done)) (by kernel_rfl) ?_)
 refine q_assign rfl rfl rfl rfl (r_done (k_then_n (c_seq (c_seq (c_plain (.q 0 (.q 1 (.done))) (by kernel_rfl) ?_)))))
 refine q_move rfl rfl rfl rfl (q_eq_nil rfl rfl rfl rfl Try.underlying58 ?_)
 refine s_eq 6 rfl (v' := .bool false) rfl ?_
 refine r_done (k_then_n (c_cond_f rfl ?_))
 refine c_skip (k_then_n (c_seq (c_plain (.q 0 (.q 1 (.q 2 (.q 3 (.q 4 ((.l 5 [] (.q 6 (.done))))))))) (by kernel_rfl) ?_)))
 refine q_move rfl rfl rfl rfl (q_nil_p rfl rfl rfl rfl (q_field (k := 0) rfl rfl rfl rfl Try.underlying81 rfl Try.sizeOf23 rfl ?_))
 refine q_load_c (j := 0) rfl rfl rfl rfl Try.isAgg23 Tk Az (by rfl) ?_
 refine q_move rfl rfl rfl rfl (s_take (A := own 1 encU ao cap l) Tk ?_)
 refine own_fc fun f_1a f_1b f_1c => ?_
 have sp_2 := Rv.at_spec l ao l.length cap (own 1 encU ao cap l) (rds_own encU_len (fun h => (f_1b h).1) f_1c) Ln (by omega) i
 refine l_call rfl rfl rfl rfl rfl rfl Try.call71 (sp_2) Ts ?_
 rintro ⟨⟩ -
 try simp only [List.cons_append, List.nil_append]
 refine ag_nil (q_assign rfl rfl rfl rfl (r_done (s_keep [4] (e' := [(4, _)]) rfl ?_)))
 refine k_then_n (c_ret (ret1 rfl rfl (()) (by first | rfl | (first | rfl | (congr 1; done) | (congr 1 <;> first | rfl | omega | (simp; done) | (simp; omega)))) (by trivial) ?_))
 exact Tf
theorem put_open (b : Nat) (ao : Option Addr) (cap : Nat) (l : List Int) (ho : OkV l) (i : Nat) (z : Int) (hi : i < 65535) : Spec Try.prog 69 [.pointer (some ⟨b, 0, none⟩), .int .i64 ((i : Nat) : Int), .int .u64 z] [cells b 0 [.slice ao l.length cap], own 1 encU ao cap l] (fun (r : Option Addr × Nat) => .tuple #[]) (fun r => True) (fun r => [cells b 0 [.slice r.1 (withL l i z).length r.2], own 1 encU r.1 r.2 (withL l i z)]) := by
 refine spec_mk (n := 29) Try.func69 rfl rfl rfl ?_
 intro Γ w0
 simp only [argE, List.cons_append, List.nil_append, Nat.zero_add, Nat.reduceAdd]
 have hll := ho.1
 refine c_seq (c_block ?_)
 refine c_loop2 (α := Nat × Option Addr × Nat) (fun (x_ : Nat × Option Addr × Nat) => match x_ with | (m, aa, cc) => m ≤ i + 1 - l.length ∧ True) (fun (x_ : Nat × Option Addr × Nat) => match x_ with | (m, aa, cc) => []) (fun (x_ : Nat × Option Addr × Nat) => match x_ with | (m, aa, cc) => [cells b 0 [.slice aa (l.length + m) cc], own 1 encU aa cc (l ++ List.replicate m (0 : Int))]) (fun (x_ : Nat × Option Addr × Nat) => match x_ with | (m, aa, cc) => i + 1 - l.length - m) [0, 1, 2] (er := [(0, _), (1, _), (2, _)]) rfl (0, ao, cap) ?_ (by exact trivial) (by (try dsimp only); rw [List.replicate_zero, List.append_nil, Nat.add_zero]; (repeat ((with_reducible apply Z2); focus (first | (with_reducible (repeat (first | exact Z0 | apply Z1)); done) | (repeat (first | exact Z0 | apply Z1))))); exact Z3) ?_
 · exact ⟨Nat.zero_le _, trivial⟩
 rintro ⟨m, aa, cc⟩ ⟨hle_m, hm_⟩
 try simp only [List.cons_append, List.nil_append]
 refine c_seq (c_seq (c_plain (.q 0 (.q 1 (.q 2 (.q 3 (.q 4 (.q 5 (.q 6 (.done)))))))) (by kernel_rfl) ?_))
 refine q_move rfl rfl rfl rfl (q_nil_p rfl rfl rfl rfl (q_field (k := 0) rfl rfl rfl rfl Try.underlying81 rfl Try.sizeOf23 rfl ?_))
 refine q_load_c (j := 0) rfl rfl rfl rfl Try.isAgg23 Tk Az (by rfl) ?_
 refine q_len rfl rfl rfl rfl Try.underlying23 ?_
 refine q_move rfl rfl rfl rfl (q_int rfl rfl rfl rfl rfl (b_leq _ _ _ _) ?_)
 refine r_done (s_keep [0, 1, 2, 12] (e' := [(0, _), (1, _), (2, _), (12, _)]) rfl ?_)
 refine k_then_n ?_
 refine c_cond_p rfl (fun hlt => ?_) (fun hlt => ?_)
 ·
  refine c_skip (k_then_n (c_block (c_plain (.q 0 (.q 1 (.q 2 (.q 3 (.q 4 ((.l 5 [] ((.l 6 [] (.q 7 (.q 8 ((.l 9 [] (.done)))))))))))))) (by kernel_rfl) ?_)))
  refine q_move rfl rfl rfl rfl (q_move rfl rfl rfl rfl (q_nil_p rfl rfl rfl rfl (q_field (k := 0) rfl rfl rfl rfl Try.underlying81 rfl Try.sizeOf23 rfl ?_)))
  refine q_load_c (j := 0) rfl rfl rfl rfl Try.isAgg23 Tk Az (by rfl) ?_
  refine l_buildSlice rfl rfl rfl rfl (run_build1 (us := [_]) Try.underlying23 Try.sizeOf30 rfl Try.zeroValue30 rfl rfl rfl) ?_
  intro b18
  refine ag_nil (l_append (sz := 1) (enc := encU) (xs := (l ++ List.replicate m (0 : Int))) rfl rfl rfl rfl rfl Try.underlying23 Try.typeInfo30 rfl rfl rfl (by decide) Tk Tk (by first | rfl | omega | (simp; done) | (simp; omega)) (ys := [(0 : Int)]) (rds_some rdn_cells) (by rfl) (by first | rfl | omega) (encU_len) (encU_one) (by omega) (by show _ * 8 ≤ _; omega) ?_)
  intro ao19 cp19
  refine s_eq 19 rfl (v' := .slice ao19 (l.length + (m + 1)) cp19) (by first | rfl | (congr 1; done) | (congr 1 <;> first | rfl | omega | (simp; done) | (simp; omega))) ?_
  refine ag_nil (q_nil_p rfl rfl rfl rfl (q_field (k := 0) rfl rfl rfl rfl Try.underlying81 rfl Try.sizeOf23 rfl ?_))
  refine l_store (j := 0) rfl rfl rfl rfl Try.sizeOf23 (us := [_]) rfl rfl rfl Tk Az (by first | decide | (simp; done) | omega) ?_
  simp only [setL, List.set]
  refine ag_nil (r_done (s_keep [0, 1, 2] (e' := [(0, _), (1, _), (2, _)]) rfl ?_))
  refine k_blk_n (k_then_n ?_)
  rw [show (l ++ List.replicate m (0 : Int)) ++ [0] = l ++ List.replicate (m + 1) 0 from by rw [List.append_assoc, ← List.replicate_succ']]
  refine loop_next (x := (m, aa, cc)) ((m + 1, ao19, cp19)) ?_ ?_ ?_ ?_
  · try dsimp only
    exact ⟨by omega, trivial⟩
  · show i + 1 - l.length - (m + 1) < i + 1 - l.length - m; omega
  · exact ⟨rfl, rfl, rfl, trivial⟩
  · (try simp only [List.cons_append, List.nil_append]); exact Tf
 refine c_exit (k_then_exit (k_then_exit (k_blk_here (k_then_n ?_))))
 obtain ⟨e, he⟩ := get_lt (l := (l ++ List.replicate m (0 : Int))) (i := i) (by simp; omega)
 refine c_plain (.q 0 (.q 1 (.q 2 (.q 3 (.q 4 (.q 5 (.q 6 ((.l 7 [] (.done)))))))))) (by kernel_rfl) ?_
 refine q_move rfl rfl rfl rfl (q_nil_p rfl rfl rfl rfl (q_field (k := 0) rfl rfl rfl rfl Try.underlying81 rfl Try.sizeOf23 rfl ?_))
 refine q_load_c (j := 0) rfl rfl rfl rfl Try.isAgg23 Tk Az (by rfl) ?_
 refine q_move rfl rfl rfl rfl (q_move rfl rfl rfl rfl (q_idxO (sz := 0) (k := i) (enc := encU) (xs := (l ++ List.replicate m (0 : Int))) rfl rfl rfl rfl rfl Try.underlying23 Try.sizeOf30 he (by first | rfl | omega) (by first | omega | (simp; omega)) Tk ?_))
 intro ib28 io28 ha28 hl28 hc28
 refine l_store_O (j := 0) (k := i) (q := z) (enc := encU) (off := io28) rfl rfl rfl rfl Try.sizeOf30 (us := [_]) rfl rfl rfl ha28 encU_len he Tk (by first | rfl | exact (Nat.add_zero _).symm | omega) (by first | decide | exact Nat.le_of_ble_eq_true rfl) (by rfl) ?_
 refine ag_nil (r_done (s_keep [] (e' := []) rfl ?_))
 refine ret_end ?_
 have hmm : m = i + 1 - l.length := by omega
 have hw : (l ++ List.replicate m (0 : Int)).set i z = withL l i z := by rw [hmm]; rfl
 rw [hw]
 have hwl : (withL l i z).length = l.length + m := by unfold withL; simp; omega
 refine ret0 rfl ((aa, cc)) (by first | rfl | (first | rfl | (congr 1; done) | (congr 1 <;> first | rfl | omega | (simp; done) | (simp; omega)))) (by trivial) ?_
 rw [hwl]
 exact Tf
theorem get_spec (b : Nat) (t : List Int) (i : Nat) : Spec Try.prog 57 [.pointer (some ⟨b, 0, none⟩), .int .i64 ((i : Nat) : Int)] [ckB b t] (fun (_ : Unit) => .int .u64 (t.getD i 0)) (fun _ => True) (fun _ => [ckB b t]) := fun Γ w s => by
  obtain ⟨h1, l1, ⟨ao, cap, l, ho, ht, a1⟩, s1⟩ := s
  have s2 := Bun.unfold (Γ := [cells b 0 [.slice ao l.length cap], own 1 encU ao cap l]) ⟨h1, l1, a1, s1⟩
  subst ht
  rw [tr_g]
  exact (get_open b ao cap l ho i Γ w s2).mono fun e w' ⟨x, e1, hx, s', a⟩ => ⟨x, e1, hx, (by
    obtain ⟨h3, l3, a3, s3⟩ := Bun.fold (Γ := [cells b 0 [.slice ao l.length cap], own 1 encU ao cap l]) s'
    exact ⟨h3, l3, ⟨ao, cap, l, ho, rfl, a3⟩, s3⟩), a⟩
theorem set_spec (b : Nat) (t : List Int) (i : Nat) (z : Int) (hi : i < 65535) (h0 : 0 ≤ z) (h1 : z ≤ maxC) : Spec Try.prog 51 [.pointer (some ⟨b, 0, none⟩), .int .i64 ((i : Nat) : Int), .int .u64 z] [ckB b t] (fun (_ : Unit) => .int .i64 0) (fun _ => True) (fun _ => [ckB b (stL t i z)]) := by
 refine spec_mk (n := 18) Try.func51 rfl rfl rfl ?_
 intro Γ w0
 simp only [argE, List.cons_append, List.nil_append, Nat.zero_add, Nat.reduceAdd]
 have h1_ := h1
 simp only [maxC] at h1_
 refine c_seq (c_plain (.q 0 (.done)) (by kernel_rfl) ?_)
 refine q_assign rfl rfl rfl rfl (r_done (k_then_n (c_seq (c_seq (c_plain (.q 0 (.q 1 (.done))) (by kernel_rfl) ?_)))))
 refine q_move rfl rfl rfl rfl (q_eq_nil rfl rfl rfl rfl Try.underlying58 ?_)
 refine s_eq 8 rfl (v' := .bool false) rfl ?_
 refine r_done (k_then_n (c_cond_f rfl ?_))
 refine c_skip (k_then_n (c_seq (c_seq (ck_open (b := b) (t := t) Tk fun ao cap l ho ht => ?_))))
 have hll := ho.1
 refine c_plain (.q 0 ((.l 1 [] (.q 2 (.done))))) (by kernel_rfl) ?_
 refine q_move rfl rfl rfl rfl ?_
 have sp_1 := Rv.may_spec i (by omega)
 refine l_call rfl rfl rfl rfl rfl rfl Try.call68 (sp_1) Ts ?_
 rintro ⟨⟩ -
 try simp only [List.cons_append, List.nil_append]
 refine ag_nil (q_not rfl rfl rfl rfl ?_)
 refine s_eq 11 rfl (v' := .bool false) rfl ?_
 refine r_done (s_keep [0, 1, 2, 11] (e' := [(0, _), (1, _), (2, _), (11, _)]) rfl ?_)
 refine k_then_n (c_cond_f rfl ?_)
 refine c_skip (k_then_n (c_seq (c_seq (c_plain (.q 0 (.q 1 (.done))) (by kernel_rfl) ?_))))
 refine q_move rfl rfl rfl rfl (q_int rfl rfl rfl rfl rfl (b_gtr _ _ _ _) ?_)
 refine r_done (k_then_n ?_)
 refine c_cond_p rfl (fun hg => by exfalso; omega) (fun hg => ?_)
 refine c_skip (k_then_n (c_seq (c_plain (.q 0 (.q 1 (.q 2 ((.l 3 [] (.done)))))) (by kernel_rfl) ?_)))
 refine q_move rfl rfl rfl rfl (q_move rfl rfl rfl rfl (q_move rfl rfl rfl rfl ?_))
 have sp_2 := Rv.put_open b ao cap l ho i z (by omega)
 refine l_call rfl rfl rfl rfl rfl rfl Try.call69 (sp_2) Ts ?_
 rintro ⟨pa, pc⟩ -
 try simp only [List.cons_append, List.nil_append]
 refine ag_nil (r_done (s_keep [] (e' := []) rfl ?_))
 refine k_then_n (c_seq (c_plain (.q 0 (.done)) (by kernel_rfl) ?_))
 refine q_assign rfl rfl rfl rfl (r_done (k_then_n (c_ret (ck_fold (b := b) (ao := pa) (cap := pc) (l := (withL l i z)) (stL t i z) Ts (by first | rfl | simp) (ok_with ho hi h0 h1) (by rw [tr_with ho hi h0 h1, ht]) ?_))))
 refine ret1 rfl rfl (()) (by first | rfl | (first | rfl | (congr 1; done) | (congr 1 <;> first | rfl | omega | (simp; done) | (simp; omega)))) (by trivial) ?_
 exact Tf
theorem copy_spec (b : Nat) (t : List Int) : Spec Try.prog 50 [.pointer (some ⟨b, 0, none⟩)] [ckB b t] (fun (r : Nat) => .pointer (some ⟨r, 0, none⟩)) (fun r => True) (fun r => [ckB b t, ckB r t]) := by
 refine spec_mk (n := 13) Try.func50 rfl rfl rfl ?_
 intro Γ w0
 simp only [argE, List.cons_append, List.nil_append, Nat.zero_add, Nat.reduceAdd]
 refine c_seq (c_plain (.q 0 (.done)) (by kernel_rfl) ?_)
 refine q_assign rfl rfl rfl rfl (r_done (k_then_n (c_seq (c_seq (c_plain (.q 0 (.q 1 (.done))) (by kernel_rfl) ?_)))))
 refine q_move rfl rfl rfl rfl (q_eq_nil rfl rfl rfl rfl Try.underlying58 ?_)
 refine s_eq 4 rfl (v' := .bool false) rfl ?_
 refine r_done (k_then_n (c_cond_f rfl ?_))
 refine c_skip (k_then_n (c_seq (ck_open (b := b) (t := t) Tk fun ao cap l ho ht => ?_)))
 have hll := ho.1
 refine c_plain ((.l 0 [] (.q 1 (.q 2 (.q 3 (.q 4 ((.l 5 [] (.q 6 ((.l 7 [] (.q 8 (.done))))))))))))) (by kernel_rfl) ?_
 refine l_buildSlice0 rfl rfl rfl rfl Try.underlying23 Try.sizeOf30 ?_
 intro b5
 refine ag_nil (q_move rfl rfl rfl rfl (q_nil_p rfl rfl rfl rfl (q_field (k := 0) rfl rfl rfl rfl Try.underlying81 rfl Try.sizeOf23 rfl ?_)))
 refine q_load_c (j := 0) rfl rfl rfl rfl Try.isAgg23 Tk Az (by rfl) ?_
 refine s_take (A := own 1 encU ao cap l) Tk ?_
 refine own_fc fun f_1a f_1b f_1c => ?_
 refine s_take (A := cells b5 0 []) Tk ?_
 refine s_heap (fun _ h => own_mk (sz := 1) (enc := encU) (xs := []) (sp := []) (cap := 0) (Nat.le_refl _) rfl h) ?_
 refine l_append (sz := 1) (enc := encU) (xs := []) rfl rfl rfl rfl rfl Try.underlying23 Try.typeInfo30 rfl rfl rfl (by decide) Tk Tk (by first | rfl | omega | (simp; done) | (simp; omega)) (ys := l) (rds_own encU_len (fun h => (f_1b h).1) f_1c) (by rfl) (by first | rfl | omega) (encU_len) (encU_one) (by omega) (by show _ * 8 ≤ _; omega) ?_
 intro ao10 cp10
 try simp only [List.nil_append]
 refine s_eq 10 rfl (v' := .slice ao10 l.length cp10) (by first | rfl | (congr 1; done) | (congr 1 <;> first | rfl | omega | (simp; done) | (simp; omega))) ?_
 refine ag_nil (q_build rfl rfl rfl rfl (vs := [_]) (run_buildS Try.underlying81 Try.zeroValue81 (ps := [(0, 1)]) ⟨rfl, Try.sizeOf23, trivial⟩ rfl) ?_)
 refine l_box rfl rfl rfl rfl (us := [_]) rfl ?_
 intro b12
 refine ag_nil (q_assign rfl rfl rfl rfl (r_done (s_keep [2] (e' := [(2, _)]) rfl ?_)))
 refine k_then_n (c_ret (ck_fold (b := b) (ao := ao) (cap := cap) (l := l) t Ts (by first | rfl | simp) ho ht ?_))
 refine ck_fold (b := b12) (ao := ao10) (cap := cp10) (l := l) t Ts (by first | rfl | simp) ho ht ?_
 refine ret1 rfl rfl (b12) (by first | rfl | (first | rfl | (congr 1; done) | (congr 1 <;> first | rfl | omega | (simp; done) | (simp; omega)))) (by trivial) ?_
 exact Tf
theorem leq_spec (b c : Nat) (t u : List Int) : Spec Try.prog 58 [.pointer (some ⟨b, 0, none⟩), .pointer (some ⟨c, 0, none⟩)] [ckB b t, ckB c u] (fun (_ : Unit) => .bool (decide (LeqL t u))) (fun _ => True) (fun _ => [ckB b t, ckB c u]) := by
 refine spec_mk (n := 32) Try.func58 rfl rfl rfl ?_
 intro Γ w0
 simp only [argE, List.cons_append, List.nil_append, Nat.zero_add, Nat.reduceAdd]
 refine c_seq (c_plain (.q 0 (.done)) (by kernel_rfl) ?_)
 refine q_assign rfl rfl rfl rfl (r_done (k_then_n (c_seq (c_seq (c_plain (.q 0 (.q 1 (.q 2 (.q 3 (.q 4 (.q 5 (.done))))))) (by kernel_rfl) ?_)))))
 refine q_move rfl rfl rfl rfl (q_eq_nil rfl rfl rfl rfl Try.underlying58 ?_)
 refine s_eq 7 rfl (v' := .bool false) rfl ?_
 refine q_move rfl rfl rfl rfl (q_move rfl rfl rfl rfl (q_eq_nil rfl rfl rfl rfl Try.underlying58 ?_))
 refine s_eq 10 rfl (v' := .bool false) rfl ?_
 refine q_pick_f rfl rfl rfl rfl rfl (r_done (s_keep [0, 1, 11] (e' := [(0, _), (1, _), (11, _)]) rfl ?_))
 refine k_then_n (c_cond_f rfl ?_)
 refine c_skip (k_then_n (c_seq (c_seq (ck_open (b := b) (t := t) Tk fun ao cap l ho ht => ?_))))
 have hll := ho.1
 refine ck_open (b := c) (t := u) Tk fun ao2 cap2 l2 ho2 ht2 => ?_
 have hll2 := ho2.1
 refine c_plain (.q 0 (.done)) (by kernel_rfl) ?_
 refine q_assign rfl rfl rfl rfl (r_done (k_then_n (c_block ?_)))
 refine c_loop2 (α := Nat) (fun (k : Nat) => k ≤ l.length ∧ (∀ j : Nat, j < k → l.getD j 0 ≤ l2.getD j 0)) (fun (k : Nat) => [(5, .int .i64 ((k : Nat) : Int))]) (fun (k : Nat) => []) (fun (k : Nat) => l.length - k) [0, 1] (er := [(0, _), (1, _)]) rfl (0) ?_ (by exact ⟨rfl, trivial⟩) (by (try dsimp only); (try simp only [Nat.add_zero, Nat.zero_add]); (repeat ((with_reducible apply Z2); focus (first | (with_reducible (repeat (first | exact Z0 | apply Z1)); done) | (repeat (first | exact Z0 | apply Z1))))); exact Z3) ?_
 · exact ⟨Nat.zero_le _, fun j h => by omega⟩
 rintro k ⟨hle_k, hI⟩
 try simp only [List.cons_append, List.nil_append]
 refine c_seq (c_seq (c_plain (.q 0 (.q 1 (.q 2 (.q 3 (.q 4 (.q 5 (.q 6 (.done)))))))) (by kernel_rfl) ?_))
 refine q_move rfl rfl rfl rfl (q_move rfl rfl rfl rfl (q_nil_p rfl rfl rfl rfl (q_field (k := 0) rfl rfl rfl rfl Try.underlying81 rfl Try.sizeOf23 rfl ?_)))
 refine q_load_c (j := 0) rfl rfl rfl rfl Try.isAgg23 Tk Az (by rfl) ?_
 refine q_len rfl rfl rfl rfl Try.underlying23 ?_
 refine q_int rfl rfl rfl rfl rfl (b_lss _ _ _ _) ?_
 refine r_done (s_keep [0, 1, 5, 18] (e' := [(0, _), (1, _), (5, _), (18, _)]) rfl ?_)
 refine k_then_n ?_
 refine c_cond_p rfl (fun hlt => ?_) (fun hlt => ?_)
 ·
  refine c_skip (k_then_n (c_seq (c_block (c_seq (c_draw rfl (.q 0 (.q 1 (.q 2 (.q 3 (.q 4 (.q 5 (.q 6 (.q 7 (.q 8 ((.l 9 [3, 6] (.q 10 (.done))))))))))))) (by kernel_rfl) ?_)))))
  refine q_move rfl rfl rfl rfl (q_nil_p rfl rfl rfl rfl (q_field (k := 0) rfl rfl rfl rfl Try.underlying81 rfl Try.sizeOf23 rfl ?_))
  refine q_load_c (j := 0) rfl rfl rfl rfl Try.isAgg23 Tk Az (by rfl) ?_
  refine q_move rfl rfl rfl rfl ?_
  obtain ⟨x, hx⟩ := get_lt (l := l) (i := k) (by first | omega | (simp; done) | (simp; omega))
  refine q_idxO (sz := 0) (k := k) (enc := encU) (xs := l) rfl rfl rfl rfl rfl Try.underlying23 Try.sizeOf30 hx (by first | rfl | omega) (by omega) Tk ?_
  intro ib26 io26 ha26 hl26 hc26
  refine q_load_O (v := (.int .u64 x)) (j := 0) (k' := k) (enc := encU) (off := io26) rfl rfl rfl rfl Try.isAgg30 ha26 encU_len hx Tk (by first | rfl | exact (Nat.add_zero _).symm | omega) (by rfl) ?_
  refine q_move rfl rfl rfl rfl (q_move rfl rfl rfl rfl ?_)
  have sp_1 := Rv.get_open c ao2 cap2 l2 ho2 k
  refine l_call rfl rfl rfl rfl rfl rfl Try.call57 (sp_1) Ts ?_
  rintro ⟨⟩ -
  try simp only [List.cons_append, List.nil_append]
  refine ag_load_c (q := 0) rfl rfl rfl Try.isAgg23 Tk Az (by rfl) ?_
  refine ag_load_O (v := (.int .u64 x)) (j := 0) (k' := k) (enc := encU) (off := io26) rfl rfl rfl Try.isAgg30 ha26 encU_len hx Tk (by first | rfl | exact (Nat.add_zero _).symm | omega) (by rfl) ?_
  refine ag_nil (q_int rfl rfl rfl rfl rfl (b_gtr _ _ _ _) ?_)
  refine r_done (s_keep [0, 1, 5, 31] (e' := [(0, _), (1, _), (5, _), (31, _)]) rfl ?_)
  refine k_then_n ?_
  refine c_cond_p rfl (fun hc => ?_) (fun hc => ?_)
  ·
   refine c_seq (c_plain (.q 0 (.done)) (by kernel_rfl) ?_)
   refine q_assign rfl rfl rfl rfl (r_done (s_keep [4] (e' := [(4, _)]) rfl ?_))
   refine k_then_n (c_ret (k_blk_ret (k_then_ret (k_then_ret (k_blk_ret (k_then_ret (ck_fold (b := b) (ao := ao) (cap := cap) (l := l) t Ts (by first | rfl | simp) ho ht ?_)))))))
   refine ck_fold (b := c) (ao := ao2) (cap := cap2) (l := l2) u Ts (by first | rfl | simp) ho2 ht2 ?_
   refine ret1 rfl rfl (()) (by congr 1; symm; rw [decide_eq_false_iff_not, ← ht, ← ht2, below_iff ho ho2]; intro h; have := h k (by omega); rw [getD_of hx] at this; omega) (by trivial) ?_
   exact Tf
  refine c_skip (k_blk_n (k_then_n (c_plain (.q 0 (.q 1 (.q 2 (.done)))) (by kernel_rfl) ?_)))
  refine q_move rfl rfl rfl rfl (q_int rfl rfl rfl rfl rfl (b_add' _ (by exact fits_i64 (by omega) (by omega))) ?_)
  refine q_assign rfl rfl rfl rfl (r_done (k_then_n ?_))
  refine loop_next (x := k) (k + 1) ?_ ?_ ?_ ?_
  · exact ⟨by omega, fun j hj => (by
        by_cases e : j = k
        · subst e; rw [getD_of hx]; omega
        · exact hI j (by omega))⟩
  · show l.length - (k + 1) < l.length - k; omega
  · exact ⟨rfl, rfl, rfl, trivial⟩
  · (try simp only [List.cons_append, List.nil_append]); exact Tf
 refine c_exit (k_then_exit (k_then_exit (k_blk_here (k_then_n (c_seq (c_plain (.q 0 (.done)) (by kernel_rfl) ?_))))))
 refine q_assign rfl rfl rfl rfl (r_done (s_keep [4] (e' := [(4, _)]) rfl ?_))
 refine k_then_n (c_ret (ck_fold (b := b) (ao := ao) (cap := cap) (l := l) t Ts (by first | rfl | simp) ho ht ?_))
 refine ck_fold (b := c) (ao := ao2) (cap := cap2) (l := l2) u Ts (by first | rfl | simp) ho2 ht2 ?_
 refine ret1 rfl rfl (()) (by congr 1; symm; rw [decide_eq_true_eq, ← ht, ← ht2, below_iff ho ho2]; intro j hj; exact hI j (by omega)) (by trivial) ?_
 exact Tf
theorem len_open (b : Nat) (ao : Option Addr) (cap : Nat) (l : List Int) (ho : OkV l) : Spec Try.prog 64 [.pointer (some ⟨b, 0, none⟩)] [cells b 0 [.slice ao l.length cap], own 1 encU ao cap l] (fun (_ : Unit) => .int .i64 ((trN l l.length : Nat) : Int)) (fun _ => True) (fun _ => [cells b 0 [.slice ao l.length cap], own 1 encU ao cap l]) := by
 refine spec_mk (n := 28) Try.func64 rfl rfl rfl ?_
 intro Γ w0
 simp only [argE, List.cons_append, List.nil_append, Nat.zero_add, Nat.reduceAdd]
 have hll := ho.1
 refine c_seq (c_plain (.q 0 (.done)) (by kernel_rfl) ?_)
 refine q_assign rfl rfl rfl rfl (r_done (k_then_n (c_seq (c_plain (.q 0 (.done)) (by kernel_rfl) ?_))))
 refine q_assign rfl rfl rfl rfl (r_done (k_then_n (c_seq (c_seq (c_plain (.q 0 (.q 1 (.done))) (by kernel_rfl) ?_)))))
 refine q_move rfl rfl rfl rfl (q_eq_nil rfl rfl rfl rfl Try.underlying58 ?_)
 refine s_eq 6 rfl (v' := .bool false) rfl ?_
 refine r_done (k_then_n (c_cond_f rfl ?_))
 refine c_skip (k_then_n (c_seq (c_seq (c_plain (.q 0 (.done)) (by kernel_rfl) ?_))))
 refine q_assign rfl rfl rfl rfl (r_done (k_then_n (c_block ?_)))
 refine c_loop2 (α := Nat) (fun (i : Nat) => i ≤ l.length) (fun (i : Nat) => [(3, .int .i64 ((trN l i : Nat) : Int)), (4, .int .i64 ((i : Nat) : Int))]) (fun (i : Nat) => []) (fun (i : Nat) => l.length - i) [0] (er := [(0, _)]) rfl (0) ?_ (by exact ⟨rfl, rfl, trivial⟩) (by (try dsimp only); (try simp only [Nat.add_zero, Nat.zero_add]); (repeat ((with_reducible apply Z2); focus (first | (with_reducible (repeat (first | exact Z0 | apply Z1)); done) | (repeat (first | exact Z0 | apply Z1))))); exact Z3) ?_
 · exact Nat.zero_le _
 rintro i hle_i
 try simp only [List.cons_append, List.nil_append]
 refine c_seq (c_seq (c_plain (.q 0 (.q 1 (.q 2 (.q 3 (.q 4 (.q 5 (.q 6 (.done)))))))) (by kernel_rfl) ?_))
 refine q_move rfl rfl rfl rfl (q_move rfl rfl rfl rfl (q_nil_p rfl rfl rfl rfl (q_field (k := 0) rfl rfl rfl rfl Try.underlying81 rfl Try.sizeOf23 rfl ?_)))
 refine q_load_c (j := 0) rfl rfl rfl rfl Try.isAgg23 Tk Az (by rfl) ?_
 refine q_len rfl rfl rfl rfl Try.underlying23 ?_
 refine q_int rfl rfl rfl rfl rfl (b_lss _ _ _ _) ?_
 refine r_done (s_keep [0, 3, 4, 14] (e' := [(0, _), (3, _), (4, _), (14, _)]) rfl ?_)
 refine k_then_n ?_
 refine c_cond_p rfl (fun hlt => ?_) (fun hlt => ?_)
 ·
  refine c_skip (k_then_n (c_seq (c_block (c_seq (c_plain (.q 0 (.q 1 (.q 2 (.q 3 (.q 4 (.q 5 (.q 6 (.q 7 (.done))))))))) (by kernel_rfl) ?_)))))
  refine q_move rfl rfl rfl rfl (q_nil_p rfl rfl rfl rfl (q_field (k := 0) rfl rfl rfl rfl Try.underlying81 rfl Try.sizeOf23 rfl ?_))
  refine q_load_c (j := 0) rfl rfl rfl rfl Try.isAgg23 Tk Az (by rfl) ?_
  refine q_move rfl rfl rfl rfl ?_
  obtain ⟨x, hx⟩ := get_lt (l := l) (i := i) (by first | omega | (simp; done) | (simp; omega))
  refine q_idxO (sz := 0) (k := i) (enc := encU) (xs := l) rfl rfl rfl rfl rfl Try.underlying23 Try.sizeOf30 hx (by first | rfl | omega) (by omega) Tk ?_
  intro ib22 io22 ha22 hl22 hc22
  refine q_load_O (v := (.int .u64 x)) (j := 0) (k' := i) (enc := encU) (off := io22) rfl rfl rfl rfl Try.isAgg30 ha22 encU_len hx Tk (by first | rfl | exact (Nat.add_zero _).symm | omega) (by rfl) ?_
  refine q_int rfl rfl rfl rfl rfl (b_gtr _ _ _ _) ?_
  refine r_done (s_keep [0, 3, 4, 24] (e' := [(0, _), (3, _), (4, _), (24, _)]) rfl ?_)
  refine k_then_n ?_
  refine c_cond_p rfl (fun hz => ?_) (fun hz => ?_)
  ·
   have hnx : trN l (i + 1) = i + 1 := by rw [trN_next, if_neg (by rw [getD_of hx]; omega)]
   refine c_plain (.q 0 (.q 1 (.q 2 (.done)))) (by kernel_rfl) ?_
   refine q_move rfl rfl rfl rfl (q_int rfl rfl rfl rfl rfl (b_add' _ (by exact fits_i64 (by omega) (by omega))) ?_)
   refine q_assign rfl rfl rfl rfl (r_done (k_blk_n (k_then_n (c_plain (.q 0 (.q 1 (.q 2 (.done)))) (by kernel_rfl) ?_))))
   refine q_move rfl rfl rfl rfl (q_int rfl rfl rfl rfl rfl (b_add' _ (by exact fits_i64 (by omega) (by omega))) ?_)
   refine q_assign rfl rfl rfl rfl (r_done (s_keep [0, 3, 4] (e' := [(0, _), (3, _), (4, _)]) rfl ?_))
   refine k_then_n (s_eq 3 rfl (v' := .int .i64 ((trN l (i + 1) : Nat) : Int)) (by rw [hnx]; try rfl) ?_)
   refine loop_next (x := i) (i + 1) ?_ ?_ ?_ ?_
   · exact by show i + 1 ≤ l.length; omega
   · show l.length - (i + 1) < l.length - i; omega
   · exact ⟨rfl, rfl, rfl, trivial⟩
   · (try simp only [List.cons_append, List.nil_append]); exact Tf
  have hxr := ho.2 x (List.mem_of_getElem? hx)
  have hnx : trN l (i + 1) = trN l i := by rw [trN_next, if_pos (by rw [getD_of hx]; omega)]
  refine c_skip (k_blk_n (k_then_n (c_plain (.q 0 (.q 1 (.q 2 (.done)))) (by kernel_rfl) ?_)))
  refine q_move rfl rfl rfl rfl (q_int rfl rfl rfl rfl rfl (b_add' _ (by exact fits_i64 (by omega) (by omega))) ?_)
  refine q_assign rfl rfl rfl rfl (r_done (k_then_n (s_eq 3 rfl (v' := .int .i64 ((trN l (i + 1) : Nat) : Int)) (by rw [hnx]; try rfl) ?_)))
  refine loop_next (x := i) (i + 1) ?_ ?_ ?_ ?_
  · exact by show i + 1 ≤ l.length; omega
  · show l.length - (i + 1) < l.length - i; omega
  · exact ⟨rfl, rfl, rfl, trivial⟩
  · (try simp only [List.cons_append, List.nil_append]); exact Tf
 refine c_exit (k_then_exit (k_then_exit (k_blk_here (k_then_n (c_seq (c_plain (.q 0 (.q 1 (.done))) (by kernel_rfl) ?_))))))
 refine q_move rfl rfl rfl rfl (q_assign rfl rfl rfl rfl (r_done (s_keep [2] (e' := [(2, _)]) rfl ?_)))
 refine k_then_n (c_ret (ret1 rfl rfl (()) (by rw [show i = l.length from by omega]) (by trivial) ?_))
 exact Tf
theorem list_spec (b : Nat) (t : List Int) : Spec Try.prog 36 [.pointer (some ⟨b, 0, none⟩)] [ckB b t] (fun (r : Option Addr × Nat) => .slice r.1 t.length r.2) (fun r => True) (fun r => [ckB b t, own 1 encU r.1 r.2 t]) := by
 refine spec_mk (n := 14) Try.func36 rfl rfl rfl ?_
 intro Γ w0
 simp only [argE, List.cons_append, List.nil_append, Nat.zero_add, Nat.reduceAdd]
 refine c_seq (c_plain (.q 0 (.done)) (by kernel_rfl) ?_)
 refine q_assign rfl rfl rfl rfl (r_done (k_then_n (c_seq (c_seq (c_plain (.q 0 (.q 1 (.done))) (by kernel_rfl) ?_)))))
 refine q_move rfl rfl rfl rfl (q_eq_nil rfl rfl rfl rfl Try.underlying58 ?_)
 refine s_eq 4 rfl (v' := .bool false) rfl ?_
 refine r_done (k_then_n (c_cond_f rfl ?_))
 refine c_skip (k_then_n (c_seq (ck_open (b := b) (t := t) Tk fun ao cap l ho ht => ?_)))
 have hll := ho.1
 have htl := trN_le l l.length
 refine c_draw rfl (.q 1 (.q 2 (.q 3 (.q 4 (.q 5 ((.alt (.l 0 [4] ((.l 6 [4] (.q 7 ((.l 8 [] (.q 9 (.done)))))))) (.l 6 [4] (.q 7 ((.l 0 [4] ((.l 8 [] (.q 9 (.done))))))))))))))) (by kernel_rfl) ?_
 refine q_move rfl rfl rfl rfl (q_nil_p rfl rfl rfl rfl (q_field (k := 0) rfl rfl rfl rfl Try.underlying81 rfl Try.sizeOf23 rfl ?_))
 refine q_load_c (j := 0) rfl rfl rfl rfl Try.isAgg23 Tk Az (by rfl) ?_
 refine q_move rfl rfl rfl rfl ?_
 refine r_alt ?_ ?_
 ·
  refine l_buildSlice0 rfl rfl rfl rfl Try.underlying23 Try.sizeOf30 ?_
  intro b5
  refine ag_load_c (q := 0) rfl rfl rfl Try.isAgg23 Tk Az (by rfl) ?_
  refine ag_nil ?_
  have sp_1 := Rv.len_open b ao cap l ho
  refine l_call rfl rfl rfl rfl rfl rfl Try.call64 (sp_1) Ts ?_
  rintro ⟨⟩ -
  try simp only [List.cons_append, List.nil_append]
  refine ag_load_c (q := 0) rfl rfl rfl Try.isAgg23 Tk Az (by rfl) ?_
  refine ag_nil (s_take (A := own 1 encU ao cap l) Tk ?_)
  refine own_fc fun f_2a f_2b f_2c => ?_
  refine q_cut_hi (h' := trN l l.length) rfl rfl rfl rfl rfl Try.underlying23 Try.sizeOf30 (by first | rfl | omega) (by first | omega | (have hcap_ := f_2a; simp only [List.length_append, List.length_map, List.length_replicate, List.length_cons, List.length_nil] at hcap_; omega)) ?_
  refine s_take (A := cells b5 0 []) Tk ?_
  refine s_heap (fun _ h => own_mk (sz := 1) (enc := encU) (xs := []) (sp := []) (cap := 0) (Nat.le_refl _) rfl h) ?_
  refine l_append (sz := 1) (enc := encU) (xs := []) rfl rfl rfl rfl rfl Try.underlying23 Try.typeInfo30 rfl rfl rfl (by decide) Tk Tk (by first | rfl | omega | (simp; done) | (simp; omega)) (ys := (l.take (trN l l.length))) (rds_take (rds_own encU_len (fun h => (f_2b h).1) f_2c) encU_len (trN l l.length)) (by rfl) (by rw [List.length_take, Nat.min_eq_left htl]) (encU_len) (encU_one) (by omega) (by show _ * 8 ≤ _; omega) ?_
  intro ao13 cp13
  try simp only [List.nil_append]
  refine s_eq 13 rfl (v' := .slice ao13 (trN l l.length) cp13) (by first | rfl | (congr 1; done) | (congr 1 <;> first | rfl | omega | (simp; done) | (simp; omega))) ?_
  refine ag_nil (q_assign rfl rfl rfl rfl (r_done (s_keep [2] (e' := [(2, _)]) rfl ?_)))
  refine k_then_n (c_ret (ck_fold (b := b) (ao := ao) (cap := cap) (l := l) t Ts (by first | rfl | simp) ho ht ?_))
  rw [show l.take (trN l l.length) = t from ht]
  refine ret1 rfl rfl ((ao13, cp13)) (by rw [← ht, tr_len]) (by trivial) ?_
  exact Tf
 have sp_3 := Rv.len_open b ao cap l ho
 refine l_call rfl rfl rfl rfl rfl rfl Try.call64 (sp_3) Ts ?_
 rintro ⟨⟩ -
 try simp only [List.cons_append, List.nil_append]
 refine ag_load_c (q := 0) rfl rfl rfl Try.isAgg23 Tk Az (by rfl) ?_
 refine ag_nil (s_take (A := own 1 encU ao cap l) Tk ?_)
 refine own_fc fun f_4a f_4b f_4c => ?_
 refine q_cut_hi (h' := trN l l.length) rfl rfl rfl rfl rfl Try.underlying23 Try.sizeOf30 (by first | rfl | omega) (by first | omega | (have hcap_ := f_4a; simp only [List.length_append, List.length_map, List.length_replicate, List.length_cons, List.length_nil] at hcap_; omega)) ?_
 refine l_buildSlice0 rfl rfl rfl rfl Try.underlying23 Try.sizeOf30 ?_
 intro b5
 refine ag_load_c (q := 0) rfl rfl rfl Try.isAgg23 Tk Az (by rfl) ?_
 refine ag_nil (s_take (A := cells b5 0 []) Tk ?_)
 refine s_heap (fun _ h => own_mk (sz := 1) (enc := encU) (xs := []) (sp := []) (cap := 0) (Nat.le_refl _) rfl h) ?_
 refine l_append (sz := 1) (enc := encU) (xs := []) rfl rfl rfl rfl rfl Try.underlying23 Try.typeInfo30 rfl rfl rfl (by decide) Tk Tk (by first | rfl | omega | (simp; done) | (simp; omega)) (ys := (l.take (trN l l.length))) (rds_take (rds_own encU_len (fun h => (f_4b h).1) f_4c) encU_len (trN l l.length)) (by rfl) (by rw [List.length_take, Nat.min_eq_left htl]) (encU_len) (encU_one) (by omega) (by show _ * 8 ≤ _; omega) ?_
 intro ao13 cp13
 try simp only [List.nil_append]
 refine s_eq 13 rfl (v' := .slice ao13 (trN l l.length) cp13) (by first | rfl | (congr 1; done) | (congr 1 <;> first | rfl | omega | (simp; done) | (simp; omega))) ?_
 refine ag_nil (q_assign rfl rfl rfl rfl (r_done (s_keep [2] (e' := [(2, _)]) rfl ?_)))
 refine k_then_n (c_ret (ck_fold (b := b) (ao := ao) (cap := cap) (l := l) t Ts (by first | rfl | simp) ho ht ?_))
 rw [show l.take (trN l l.length) = t from ht]
 refine ret1 rfl rfl ((ao13, cp13)) (by rw [← ht, tr_len]) (by trivial) ?_
 exact Tf
end Go.Ab.Rv
set_option linter.unusedVariables false
set_option linter.unusedSimpArgs false
namespace Go.Ab
open Go
theorem rds_take {α : Type} {A : HProp} {ao : Option Addr} {sz : Nat} {enc : α → List Value} {xs : List α} (h : RdS A ao (xs.flatMap enc)) (hsz : ∀ x, (enc x).length = sz) (k : Nat) : RdS A ao ((xs.take k).flatMap enc) := by
  rcases h with h | ⟨b, o, h1, h2⟩
  · left
    rw [← List.take_append_drop k xs, List.flatMap_append, List.append_eq_nil_iff] at h
    exact h.1
  · refine .inr ⟨b, o, h1, fun i v hv => h2 i v ?_⟩
    rw [← List.take_append_drop k xs, List.flatMap_append, List.getElem?_append_left]
    · exact hv
    · exact (List.getElem?_eq_some_iff.1 hv).1
/-- How keys of a kind are looked for. -/
structure KeyOK (P : Program) (T : TypeId) {κ : Type} (ek : κ → Value) : Prop where
  chk : ∀ (b : Bool) (k : κ) (w : World), (Instr.checkKey b 10000 T (ek k)).run P w = .ok () w
  same : ∀ k, Instr.sameBits 10000 (ek k) (ek k) = true
  fnd : ∀ (k : κ) (es : List MapEntry) (ks : List κ), es.map (·.key) = ks.map ek → ∃ r, (∀ w, (Instr.findKey T (ek k) es).run P w = .ok r w) ∧
    ((r = none ∧ k ∉ ks) ∨ ∃ i e, r = some (i, e.val) ∧ es[i]? = some e ∧ ks[i]? = some k)
abbrev ekZ (z : Int) : Value := .int .i64 z
/-- What a list of entries tells. -/
structure MapL {κ ν : Type} (F : κ → Option ν) (M : List (κ × ν × Nat)) (clock : Nat) : Prop where
  keys : (M.map (·.1)).Nodup
  born : (M.map (·.2.2)).Nodup
  lt : ∀ p ∈ M, p.2.2 < clock
  tells : ∀ k v, F k = some v ↔ ∃ b, (k, v, b) ∈ M
def mke {κ ν : Type} (ek : κ → Value) (ev : ν → Value) (p : κ × ν × Nat) : MapEntry := ⟨ek p.1, ev p.2.1, p.2.2⟩
def mapO {κ ν : Type} (ek : κ → Value) (ev : ν → Value) (r : Nat) (F : κ → Option ν) : HProp := fun h => ∃ (M : List (κ × ν × Nat)) (clock : Nat), MapL F M clock ∧ objP r (.map (M.map (mke ek ev)).toArray clock) h
def upd {κ ν : Type} [DecidableEq κ] (F : κ → Option ν) (k : κ) (v : Option ν) : κ → Option ν := fun q => if q = k then v else F q
def noF {κ ν : Type} : κ → Option ν := fun _ => none
section
variable {κ ν : Type} {F : κ → Option ν} {M : List (κ × ν × Nat)} {clock : Nat}
theorem nodup_idx {α : Type} {l : List α} (h : l.Nodup) {i j : Nat} {x : α} (hi : l[i]? = some x) (hj : l[j]? = some x) : i = j := by
  obtain ⟨h1, e1⟩ := List.getElem?_eq_some_iff.1 hi
  obtain ⟨h2, e2⟩ := List.getElem?_eq_some_iff.1 hj
  rw [List.Nodup, List.pairwise_iff_getElem] at h
  rcases Nat.lt_trichotomy i j with h3 | h3 | h3
  · exact absurd (e1.trans e2.symm) (h i j h1 h2 h3)
  · exact h3
  · exact absurd (e2.trans e1.symm) (h j i h2 h1 h3)
theorem MapL.none (h : MapL F M clock) {k : κ} (hk : k ∉ M.map (·.1)) : F k = .none := by
  cases e : F k with
  | none => rfl
  | some v => obtain ⟨b, hb⟩ := (h.tells k v).1 e; exact absurd (List.mem_map.2 ⟨_, hb, rfl⟩) hk
theorem MapL.some (h : MapL F M clock) {k : κ} {v : ν} {b i : Nat} (hi : M[i]? = .some (k, v, b)) : F k = .some v := (h.tells k v).2 ⟨b, List.mem_of_getElem? hi⟩
theorem MapL.push [DecidableEq κ] (h : MapL F M clock) {k : κ} (hk : k ∉ M.map (·.1)) (v : ν) : MapL (upd F k (.some v)) (M ++ [(k, v, clock)]) (clock + 1) where
  keys := by
    rw [List.map_append]
    exact List.nodup_append.2 ⟨h.keys, by simp, fun a ha b hb => by simp at hb; subst hb; intro e; subst e; exact hk ha⟩
  born := by
    rw [List.map_append]
    refine List.nodup_append.2 ⟨h.born, by simp, fun a ha b hb => ?_⟩
    simp at hb; subst hb
    obtain ⟨p, hp, rfl⟩ := List.mem_map.1 ha
    have := h.lt p hp; omega
  lt := fun p hp => by
    rcases List.mem_append.1 hp with hp | hp
    · have := h.lt p hp; omega
    · simp at hp; subst hp; exact Nat.lt_succ_self _
  tells := fun q u => by
    unfold upd
    by_cases hq : q = k
    · subst hq
      rw [if_pos rfl]
      constructor
      · intro e; cases e; exact ⟨clock, by simp⟩
      · rintro ⟨b, hb⟩
        rcases List.mem_append.1 hb with hb | hb
        · exact absurd (List.mem_map.2 ⟨_, hb, rfl⟩) hk
        · simp at hb; rw [hb.1]
    · rw [if_neg hq, h.tells]
      constructor
      · rintro ⟨b, hb⟩; exact ⟨b, List.mem_append_left _ hb⟩
      · rintro ⟨b, hb⟩
        rcases List.mem_append.1 hb with hb | hb
        · exact ⟨b, hb⟩
        · simp at hb; exact absurd hb.1 hq
theorem map_set_same {α β : Type} {f : α → β} {l : List α} {i : Nat} {x y : α} (hx : l[i]? = .some x) (hf : f y = f x) : (l.set i y).map f = l.map f := by
  apply List.ext_getElem?
  intro j
  rw [List.getElem?_map, List.getElem?_map, List.getElem?_set]
  split
  · rename_i e; subst e
    rw [hx]
    split
    · simp [hf]
    · rename_i h2; rw [List.getElem?_eq_none (by omega)] at hx; cases hx
  · rfl
theorem MapL.put [DecidableEq κ] (h : MapL F M clock) {k : κ} {v0 : ν} {b i : Nat} (hi : M[i]? = .some (k, v0, b)) (v : ν) : MapL (upd F k (.some v)) (M.set i (k, v, b)) clock where
  keys := by rw [map_set_same (y := (k, v, b)) hi rfl]; exact h.keys
  born := by rw [map_set_same (y := (k, v, b)) hi rfl]; exact h.born
  lt := fun p hp => by
    rcases List.mem_or_eq_of_mem_set hp with hp | rfl
    · exact h.lt p hp
    · exact h.lt (k, v0, b) (List.mem_of_getElem? hi)
  tells := fun q u => by
    have hlt : i < M.length := (List.getElem?_eq_some_iff.1 hi).1
    unfold upd
    by_cases hq : q = k
    · subst hq
      rw [if_pos rfl]
      constructor
      · intro e; cases e; exact ⟨b, List.mem_of_getElem? (i := i) (by rw [List.getElem?_set_self hlt])⟩
      · rintro ⟨c, hc⟩
        obtain ⟨j, hj⟩ := List.getElem?_of_mem hc
        by_cases hji : i = j
        · subst hji; rw [List.getElem?_set_self hlt] at hj; cases hj; rfl
        · rw [List.getElem?_set_ne hji] at hj
          exact absurd (nodup_idx h.keys (x := q) (by rw [List.getElem?_map, hi]; rfl) (by rw [List.getElem?_map, hj]; rfl)) hji
    · rw [if_neg hq, h.tells]
      constructor
      · rintro ⟨c, hc⟩
        obtain ⟨j, hj⟩ := List.getElem?_of_mem hc
        have hji : i ≠ j := fun e => by subst e; rw [hi] at hj; cases hj; exact hq rfl
        exact ⟨c, List.mem_of_getElem? (i := j) (by rw [List.getElem?_set_ne hji]; exact hj)⟩
      · rintro ⟨c, hc⟩
        rcases List.mem_or_eq_of_mem_set hc with hc | hc
        · exact ⟨c, hc⟩
        · cases hc; exact absurd rfl hq
theorem MapL.keep [DecidableEq κ] (h : MapL F M clock) {k : κ} (hk : k ∉ M.map (·.1)) : MapL (upd F k .none) M clock where
  keys := h.keys
  born := h.born
  lt := h.lt
  tells := fun q u => by
    unfold upd
    by_cases hq : q = k
    · subst hq; rw [if_pos rfl, ← h.none hk]; exact h.tells q u
    · rw [if_neg hq]; exact h.tells q u
end
section
variable {P : Program} {r : Option Nat} {w0 : World} {ds : List Deferred} {n : Nat} {e : Env} {Γ : List HProp} {K : Act → World → Prop} {l : List Oper} {i : Nat} {t : RT} {fl : List Nat}
variable {d : Nat} {ty : TypeId} {pos : String} {af : Array Edge} {g : Option (Nat × Bool)}
variable {κ ν : Type} {ek : κ → Value} {ev1 : ν → Value} {F : κ → Option ν}
end
end Go.Ab
set_option linter.unusedVariables false
set_option linter.unusedSimpArgs false
namespace Go.Ab
open Go
abbrev ek2 (k : Int × Int) : Value := .agg #[.int .i64 k.1, .int .i64 k.2]
/-- What a list of entries says of a key. -/
def lk {κ β : Type} [DecidableEq κ] (k : κ) : List (κ × β) → Option β
  | [] => none
  | p :: l => if p.1 = k then some p.2 else lk k l
section
variable {κ β : Type} [DecidableEq κ]
end
/-- What lies behind the values of a table F, but for the keys S; T tells what is there. -/
def rest {κ ν τ : Type} [DecidableEq κ] (res : ν → τ → HProp) (F : κ → Option ν) (T : κ → Option τ) (S : List κ) : HProp := fun h =>
  ∃ L : List (κ × ν × τ), (L.map (·.1)).Nodup ∧ (∀ k, k ∉ S → F k = (lk k L).map (·.1) ∧ T k = (lk k L).map (·.2)) ∧ (∀ k ∈ S, k ∉ L.map (·.1)) ∧ bigS (fun p => res p.2.1 p.2.2) L h
section
variable {κ ν τ : Type} [DecidableEq κ] {res : ν → τ → HProp} {F F' : κ → Option ν} {T T' : κ → Option τ} {S : List κ}
variable {w0 : World} {ds : List Deferred} {n : Nat} {e : Env} {Γ Γ' : List HProp} {X : Act → World → Prop}
end
/-- What lies behind the elements of a list V; Y tells what is there. -/
def restL {ν τ : Type} (res : ν → τ → HProp) (V : List ν) (Y : List τ) (S : List Nat) : HProp := rest res (fun i : Nat => V[i]?) (fun i : Nat => Y[i]?) S
section
variable {ν τ : Type} {res : ν → τ → HProp} {V : List ν} {Y : List τ} {S : List Nat}
variable {w0 : World} {ds : List Deferred} {n : Nat} {e : Env} {Γ Γ' : List HProp} {X : Act → World → Prop}
end
end Go.Ab
set_option linter.unusedVariables false
set_option linter.unusedSimpArgs false
namespace Go.Ab
open Go
/-- A loop over the map m: F what it holds (N entries), vis the keys gone over. -/
structure RngL {κ ν : Type} (F : κ → Option ν) (M : List (κ × ν × Nat)) (clock : Nat) (seen : List Nat) (vis : List κ) (N : Nat) : Prop where
  map : MapL F M clock
  len : M.length = N
  vs : ∃ V : List (κ × ν × Nat), (∀ p ∈ V, p ∈ M) ∧ V.map (·.1) = vis ∧ V.map (·.2.2) = seen
def rng {κ ν : Type} (ek : κ → Value) (ev : ν → Value) (r m : Nat) (F : κ → Option ν) (vis : List κ) (N : Nat) : HProp := fun h =>
  ∃ (M : List (κ × ν × Nat)) (clock since : Nat) (seen : List Nat), RngL F M clock seen vis N ∧ (∀ p ∈ M, p.2.2 < since) ∧ since ≤ clock ∧ Sat [objP r (.mapIter (some m) since seen.toArray clock), objP m (.map (M.map (mke ek ev)).toArray clock)] h
section
variable {κ ν : Type} {F : κ → Option ν} {M : List (κ × ν × Nat)} {clock N : Nat} {seen : List Nat} {vis : List κ}
theorem RngL.facts (h : RngL F M clock seen vis N) : (∀ k ∈ vis, ∃ v, F k = some v) := fun k hk => by
  obtain ⟨V, h1, h2, -⟩ := h.vs
  rw [← h2] at hk
  obtain ⟨p, hp, rfl⟩ := List.mem_map.1 hk
  exact ⟨p.2.1, (h.map.tells _ _).2 ⟨p.2.2, h1 p hp⟩⟩
end
section
variable {P : Program} {r : Option Nat} {w0 : World} {ds : List Deferred} {n : Nat} {e : Env} {Γ : List HProp} {K : Act → World → Prop} {l : List Oper} {i : Nat} {t : RT} {fl : List Nat}
variable {d : Nat} {ty : TypeId} {pos : String} {af : Array Edge} {g : Option (Nat × Bool)}
variable {κ ν : Type} {ek : κ → Value} {ev1 : ν → Value} {F : κ → Option ν}
end
end Go.Ab
set_option linter.unusedVariables false
set_option linter.unusedSimpArgs false
namespace Go.Ab
open Go
section
variable {P : Program} {r : Option Nat} {w0 : World} {ds : List Deferred} {n : Nat} {e : Env} {Γ : List HProp} {K : Act → World → Prop} {l : List Oper} {i : Nat} {t : RT} {fl : List Nat}
variable {d : Nat} {ty : TypeId} {pos : String} {af : Array Edge} {g : Option (Nat × Bool)}
theorem run_indexAtA {T E : TypeId} {b o m sz : Nat} {k' : IntKind} {ix : Int} (hu : P.underlying T = some (.array m E)) (hs : ∀ w, (sizeOf E).run P w = .ok sz w) (h0 : 0 ≤ ix) (h1 : ix < m) (w : World) :
    (Instr.indexAt T (.pointer (some ⟨b, o, none⟩)) (.int k' ix)).run P w = .ok (.pointer (some ⟨b, o + ix.toNat * sz, none⟩)) w := by
  have h2 : 0 ≤ ix ∧ ix < m := ⟨h0, h1⟩
  simp [Instr.indexAt, Instr.sureAddr, asIntOf, run_underlying hu, hs, h2, add_none]
theorem q_idxA {T E : TypeId} {x y : Operand} {b o m sz k : Nat} {k' : IntKind} {ix : Int} (ho : nthO l i = some ⟨some d, .indexAddr T x y, ty, pos, af, g⟩) (hg : gd l e g = some true) (hn : Nat.blt d n = true)
    (hx : ev e x = some (.pointer (some ⟨b, o, none⟩))) (hy : ev e y = some (.int k' ix)) (hu : P.underlying T = some (.array m E)) (hs : ∀ w, (sizeOf E).run P w = .ok sz w) (hi : ix = (k : Int)) (h1 : k < m)
    (kk : Le (St w0 ds n ((d, .pointer (some ⟨b, o + k * sz, none⟩)) :: e) Γ) (wpRT P r l.toArray K t)) : Le (St w0 ds n e Γ) (wpRT P r l.toArray K (.q i t)) := by
  subst hi
  exact q_pure ho hg rfl hn rfl (fun _ h => by cases h) (fun a w s w' => by simp [execOp, s.ev hx, s.ev hy, run_indexAtA hu hs (by omega) (by omega : (k : Int) < m)]) kk
end
end Go.Ab
set_option linter.unusedVariables false
set_option linter.unusedSimpArgs false
namespace Go.Ab
open Go
/-- A block's head: so many cells, none frozen. -/
def headP (b n : Nat) : HProp := fun h => ∃ t, h (b, none) = some (.inr (.inr (t, n, 0, 0)))
theorem Sat.newCellsH {Γ : List HProp} {w : World} (s : Sat Γ (lh w)) (c : Array Value) (t : TypeId) : Sat (cells w.heap.size 0 c.toList :: headP w.heap.size c.size :: Γ) (lh (w.alloc (.cells c t))) := by
  have hn : lh (w.alloc (.cells c t)) (w.heap.size, none) = some (.inr (.inr (t, c.size, 0, 0))) := by simp only [lh, heap_alloc_same]; rfl
  have s1 : Sat (headP w.heap.size c.size :: Γ) (fun l => if l = (w.heap.size, none) then some (.inr (.inr (t, c.size, 0, 0))) else lh w l) := by
    refine s.grown (h1 := fun l => if l = (w.heap.size, none) then some (.inr (.inr (t, c.size, 0, 0))) else none) ⟨t, by simp⟩ ?_ ?_ ?_
    · intro l v e; dsimp only at e ⊢; split at e
      · rename_i h; rw [if_pos h]; exact e
      · cases e
    · intro l v e; show (if l = (w.heap.size, none) then _ else lh w l) = some v; split
      · rename_i h; subst h; rw [lh_none_of_ge (Nat.le_refl _)] at e; cases e
      · exact e
    · intro l v e; split at e
      · rename_i h; subst h; exact lh_none_of_ge (Nat.le_refl _) _
      · cases e
  refine s1.grown (h1 := fun l => match l with | (b, some o) => if b = w.heap.size then (c[o]?).map fun v => .inl (v, false) else none | _ => none) ?_ ?_ ?_ ?_
  · intro i v hv
    simp only [Nat.zero_add, if_true]
    rw [Array.getElem?_toList] at hv
    simp [hv]
  · rintro ⟨b, x⟩ v e
    cases x with
    | none => cases e
    | some o =>
      simp only at e
      split at e
      · rename_i hb; subst hb
        simp only [lh, heap_alloc_same, lhC]
        cases hc : c[o]? with
        | none => simp [hc] at e
        | some u => simp [hc] at e; subst e; simp
      · cases e
  · intro l v e
    dsimp only at e
    split at e
    · rename_i h; subst h; rw [hn]; exact e
    · exact lh_alloc_le w _ l v e
  · rintro ⟨b, x⟩ v e
    cases x with
    | none => cases e
    | some o =>
      simp only at e
      split at e
      · rename_i hb; subst hb; simp [lh_none_of_ge (Nat.le_refl _)]
      · cases e
section
variable {P : Program}
theorem run_sameAddr_fresh {a b : Addr} {ca cb : Array Value} {ta tb : TypeId} {fb : Nat × Nat} (w : World) (hne : a.block ≠ b.block) (ha : w.heap[a.block]? = some (.cells ca ta (0, 0))) (hb : w.heap[b.block]? = some (.cells cb tb fb)) (hc : cb.size ≠ 0) :
    (sameAddr a b).run P w = .ok false w := by
  obtain ⟨lo, hi⟩ := fb
  by_cases h1 : lo ≤ b.off ∧ b.off < hi <;> by_cases h2 : lo ≤ cb.size ∧ cb.size < hi <;>
  simp [sameAddr, hne, World.frozen?, ha, hb, noView, viewAt, World.shape?, mayBeOne, stringish, h1, h2, hc]
theorem run_eql_fresh {tp te : TypeId} {j : TypeInfo} {a b : Addr} {ca cb : Array Value} {ta tb : TypeId} {fb : Nat × Nat} (w : World) (hp : P.underlying tp = some (.pointer te)) (hte : P.info? te = some j) (hsz : j.size ≠ 0)
    (hne : a.block ≠ b.block) (ha : w.heap[a.block]? = some (.cells ca ta (0, 0))) (hb : w.heap[b.block]? = some (.cells cb tb fb)) (hc : cb.size ≠ 0) :
    (binOp .eql tp (.pointer (some a)) (.pointer (some b))).run P w = .ok (.bool false) w := by
  have h : ∀ d : Nat, (Op.equalIn (d + 1) tp (.pointer (some a)) (.pointer (some b))).run P w = .ok false w := fun d => by
    simp [Op.equalIn, run_underlying hp, sizeOf, typeInfo, hte, hsz, run_sameAddr_fresh w hne ha hb hc]
  simp only [binOp]
  simp [Op.equal, Op.maxDepth, h 9999]
end
section
variable {P : Program} {r : Option Nat} {w0 : World} {ds : List Deferred} {n : Nat} {e : Env} {Γ : List HProp} {K : Act → World → Prop} {l : List Oper} {i : Nat} {t : RT} {fl : List Nat}
variable {d : Nat} {ty : TypeId} {pos : String} {af : Array Edge} {g : Option (Nat × Bool)}
theorem l_boxH (m : Nat) {T : TypeId} {x : Operand} {v : Value} {us : List Value} (ho : nthO l i = some ⟨some d, .box T x, ty, pos, af, g⟩) (hg : gd l e g = some true) (hn : Nat.blt d n = true) (hx : ev e x = some v) (hv : v.cells.toList = us) (hm : us.length = m)
    (k : ∀ b, Le (St w0 ds n ((d, .pointer (some ⟨b, 0, none⟩)) :: e) (cells b 0 us :: headP b m :: Γ)) (AG P r l.toArray fl (wpRT P r l.toArray K t))) : Le (St w0 ds n e Γ) (wpRT P r l.toArray K (.l i fl t)) :=
  l_gen ho hg (fun _ h => by cases h) (fun a w s => by
    have hr : (execOp a.eval ⟨some d, .box T x, ty, pos, af, g⟩).run P w = .ok (.value (.pointer (some ⟨w.heap.size, 0, none⟩))) (w.alloc (.cells v.cells T)) := by
      simp [execOp, s.ev hx, Instr.box, newVar, newRow]
    rw [hr]
    subst hv hm
    have s' := s.heap.newCellsH v.cells T
    rw [← Array.length_toList] at s'
    exact k _ _ _ ((s.world s' ⟨rfl, rfl, rfl, by simp⟩).put hn))
/-- Two pointers, the first to a fresh block, the second to another one. -/
theorem l_eqC {tx tz : TypeId} {x y : Operand} {ao bo : Option Addr} {E : TypeId} {j : TypeInfo} (ho : nthO l i = some ⟨some d, .binOp .eql tx x y tz, ty, pos, af, g⟩) (hg : gd l e g = some true) (hn : Nat.blt d n = true) (hx : ev e x = some (.pointer ao)) (hy : ev e y = some (.pointer bo))
    (hu : P.underlying tx = some (.pointer E)) (hi : P.info? E = some j) (hj : j.size ≠ 0)
    (hh : ∀ h, Sat Γ h → ∃ a b m u fz, ao = some ⟨a, 0, none⟩ ∧ bo = some ⟨b, 0, none⟩ ∧ a ≠ b ∧ (∃ t, h (a, none) = some (.inr (.inr (t, m + 1, 0, 0)))) ∧ h (b, some 0) = some (.inl (u, fz)))
    (k : Le (St w0 ds n ((d, .bool false) :: e) Γ) (AG P r l.toArray fl (wpRT P r l.toArray K t))) : Le (St w0 ds n e Γ) (wpRT P r l.toArray K (.l i fl t)) :=
  l_gen ho hg (fun _ h => by cases h) (fun a w s => by
    obtain ⟨a', b', m, u, fz, rfl, rfl, hab, ⟨t, h1⟩, h2⟩ := hh _ s.heap
    have ha : ∃ c, w.heap[a']? = some (.cells c t (0, 0)) ∧ c.size = m + 1 := by
      simp only [lh, lhO] at h1
      split at h1
      · rename_i c t' lo hi e9
        simp only [Option.some.injEq, Sum.inr.injEq, Prod.mk.injEq] at h1
        obtain ⟨rfl, h3, rfl, rfl⟩ := h1
        exact ⟨c, e9, h3⟩
      · cases h1
      · cases h1
    have hb : ∃ c t f, w.heap[b']? = some (.cells c t f) ∧ c.size ≠ 0 := by
      simp only [lh, lhC] at h2
      split at h2
      · rename_i c t' lo hi e9
        refine ⟨c, t', _, e9, fun h0 => ?_⟩
        rw [Array.getElem?_eq_none (by omega)] at h2; cases h2
      · cases h2
    obtain ⟨c, ha, hc⟩ := ha
    obtain ⟨c2, t2, f2, hb, hc2⟩ := hb
    have hr : (execOp a.eval ⟨some d, .binOp .eql tx x y tz, ty, pos, af, g⟩).run P w = .ok (.value (.bool false)) w := by
      simp only [execOp, s.ev hx, s.ev hy, eqGuard, Sem.run_bind]
      simp [run_eql_fresh (P := P) (a := ⟨a', 0, none⟩) (b := ⟨b', 0, none⟩) w hu hi hj hab ha hb hc2]
    rw [hr]
    exact k _ _ (s.put hn))
end
end Go.Ab
