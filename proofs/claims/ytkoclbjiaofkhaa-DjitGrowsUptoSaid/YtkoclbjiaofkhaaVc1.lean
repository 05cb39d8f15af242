/- Package vclock: vectors. -/
import Derived.Test.YtkoclbjiaofkhaaEngO
import Derived.Test.YtkoclbjiaofkhaaProg
set_option linter.unusedVariables false
set_option linter.unusedSimpArgs false
set_option maxRecDepth 100000
namespace Go.Ab.Vc
open Go Go.Proofs Go.Ab
def encU (z : Int) : List Value := [.int .u64 z]
theorem encU_len : ∀ x, (encU x).length = 1 := fun _ => rfl
theorem encU_one : ∀ x, (encU x).all Value.oneCell' = true := fun _ => rfl
abbrev maxC : Int := 281474976710655
/-- How long a list is without the zeros at its end. -/
def trN (l : List Int) : Nat → Nat
  | 0 => 0
  | n + 1 => if l.getD n 0 = 0 then trN l n else n + 1
def tr (l : List Int) : List Int := l.take (trN l l.length)
theorem trN_le (l : List Int) : ∀ n, trN l n ≤ n
  | 0 => Nat.le_refl _
  | n + 1 => by
    unfold trN
    split
    · have := trN_le l n; omega
    · omega
theorem tr_len (l : List Int) : (tr l).length = trN l l.length := by
  rw [tr, List.length_take, Nat.min_eq_left (trN_le _ _)]
theorem tr_le (l : List Int) : (tr l).length ≤ l.length := by rw [tr_len]; exact trN_le _ _
theorem trN_z (l : List Int) : ∀ n j, trN l n ≤ j → j < n → l.getD j 0 = 0
  | 0, j, _, h => by omega
  | n + 1, j, h1, h2 => by
    unfold trN at h1
    split at h1
    · rename_i h
      by_cases hj : j = n
      · subst hj; exact h
      · exact trN_z l n j h1 (by omega)
    · omega
theorem tr_g (l : List Int) (i : Nat) : (tr l).getD i 0 = l.getD i 0 := by
  by_cases h : i < trN l l.length
  · simp only [List.getD_eq_getElem?_getD, tr]; rw [List.getElem?_take_of_lt h]
  · have h1 : (tr l).getD i 0 = 0 := by simp only [List.getD_eq_getElem?_getD]; rw [List.getElem?_eq_none (by rw [tr_len]; omega)]; rfl
    rw [h1]
    by_cases h2 : i < l.length
    · exact (trN_z l l.length i (by omega) h2).symm
    · simp only [List.getD_eq_getElem?_getD]; rw [List.getElem?_eq_none (by omega)]; rfl
/-- No zero at the end. -/
def Tr (l : List Int) : Prop := l = [] ∨ l.getD (l.length - 1) 0 ≠ 0
theorem trN_tr (l : List Int) : ∀ n, trN l n = 0 ∨ l.getD (trN l n - 1) 0 ≠ 0
  | 0 => .inl rfl
  | n + 1 => by
    unfold trN
    split
    · exact trN_tr l n
    · rename_i h; exact .inr h
theorem tr_Tr (l : List Int) : Tr (tr l) := by
  rcases trN_tr l l.length with h | h
  · exact .inl (by rw [tr, h]; rfl)
  · right; rw [tr_g, tr_len]; exact h
theorem getD_mem {l : List Int} {i : Nat} {x : Int} (h : l[i]? = some x) : l.getD i 0 = x := by simp [h]
/-- Vectors without zeros at the end are their clocks. -/
theorem Tr_ext {a b : List Int} (ha : Tr a) (hb : Tr b) (h : ∀ i, a.getD i 0 = b.getD i 0) : a = b := by
  have key : ∀ {a b : List Int}, Tr b → (∀ i, a.getD i 0 = b.getD i 0) → b.length ≤ a.length := by
    intro a b hb h
    rcases hb with hb | hb
    · subst hb; exact Nat.zero_le _
    · rcases Nat.lt_or_ge a.length b.length with h1 | h1
      · rw [← h] at hb
        simp only [List.getD_eq_getElem?_getD] at hb
        rw [List.getElem?_eq_none (by omega)] at hb
        exact absurd rfl hb
      · exact h1
  have h1 := key hb h
  have h2 := key ha fun i => (h i).symm
  apply List.ext_getElem?
  intro i
  by_cases hi : i < a.length
  · obtain ⟨x, hx⟩ := get_lt hi
    obtain ⟨y, hy⟩ := get_lt (l := b) (i := i) (by omega)
    have := h i
    rw [getD_mem hx, getD_mem hy] at this
    rw [hx, hy, this]
  · rw [List.getElem?_eq_none (by omega), List.getElem?_eq_none (by omega)]
theorem tr_fix {l : List Int} (h : Tr l) : tr l = l := Tr_ext (tr_Tr l) h (tr_g l)
/-- A vector, as it may be. -/
structure CV (l : List Int) : Prop where
  tr : Tr l
  len : l.length ≤ 65535
  rng : ∀ x ∈ l, 0 ≤ x ∧ x ≤ maxC
theorem tr_cv {l : List Int} (h : l.length ≤ 65535) (hr : ∀ x ∈ l, 0 ≤ x ∧ x ≤ maxC) : CV (tr l) := ⟨tr_Tr l, Nat.le_trans (tr_le l) h, fun x hx => hr x (List.mem_of_mem_take hx)⟩
/-- As long as m at the least. -/
def pd (l : List Int) (m : Nat) : List Int := l ++ List.replicate (m - l.length) 0
theorem pd_len (l : List Int) (m : Nat) : (pd l m).length = max l.length m := by simp [pd]; omega
theorem pd_g (l : List Int) (m i : Nat) : (pd l m).getD i 0 = l.getD i 0 := by
  simp only [List.getD_eq_getElem?_getD, pd]
  by_cases h : i < l.length
  · rw [List.getElem?_append_left h]
  · rw [List.getElem?_append_right (by omega), List.getElem?_replicate, List.getElem?_eq_none (l := l) (by omega)]
    split <;> rfl
/-- The join of two. -/
def jn (l m : List Int) : List Int := (List.range (max l.length m.length)).map fun i => max (l.getD i 0) (m.getD i 0)
theorem jn_len (l m : List Int) : (jn l m).length = max l.length m.length := by simp [jn]
theorem mem_g {l : List Int} {i : Nat} (h : i < l.length) : l.getD i 0 ∈ l := by
  obtain ⟨x, hx⟩ := get_lt h
  rw [getD_mem hx]; exact List.mem_of_getElem? hx
theorem g_rng {l : List Int} {B : Int} (hr : ∀ x ∈ l, 0 ≤ x ∧ x ≤ B) (hB : 0 ≤ B) (i : Nat) : 0 ≤ l.getD i 0 ∧ l.getD i 0 ≤ B := by
  by_cases h : i < l.length
  · exact hr _ (mem_g h)
  · have : l.getD i 0 = 0 := by simp only [List.getD_eq_getElem?_getD]; rw [List.getElem?_eq_none (by omega)]; rfl
    omega
theorem jn_g {l m : List Int} (hl : CV l) (hm : CV m) (i : Nat) : (jn l m).getD i 0 = max (l.getD i 0) (m.getD i 0) := by
  by_cases h : i < max l.length m.length
  · simp only [List.getD_eq_getElem?_getD, jn, List.getElem?_map, List.getElem?_range h, Option.map_some, Option.getD_some]
  · have h1 : ∀ q : List Int, q.length ≤ i → q.getD i 0 = 0 := fun q hq => by simp only [List.getD_eq_getElem?_getD]; rw [List.getElem?_eq_none hq]; rfl
    rw [h1 _ (by rw [jn_len]; omega), h1 l (by omega), h1 m (by omega)]; rfl
theorem jn_cv {l m : List Int} (hl : CV l) (hm : CV m) : CV (jn l m) := by
  have h1 := hl.len
  have h2 := hm.len
  refine ⟨?_, by rw [jn_len]; omega, fun x hx => ?_⟩
  · by_cases h : max l.length m.length = 0
    · exact .inl (List.eq_nil_of_length_eq_zero (by rw [jn_len]; exact h))
    · right
      rw [jn_g hl hm, jn_len]
      have a := g_rng hl.rng (by decide) (max l.length m.length - 1)
      have b := g_rng hm.rng (by decide) (max l.length m.length - 1)
      rcases Nat.le_total m.length l.length with h3 | h3
      · rcases hl.tr with e | e
        · exfalso; apply h; rw [e] at h3 ⊢; simp at h3; rw [h3]; rfl
        · rw [show max l.length m.length - 1 = l.length - 1 from by omega] at a b ⊢; omega
      · rcases hm.tr with e | e
        · exfalso; apply h; rw [e] at h3 ⊢; simp at h3; rw [h3]; rfl
        · rw [show max l.length m.length - 1 = m.length - 1 from by omega] at a b ⊢; omega
  · obtain ⟨i, -, rfl⟩ := List.mem_map.1 hx
    have a := g_rng hl.rng (by decide) i
    have b := g_rng hm.rng (by decide) i
    omega
/-- What is joined so far, up to thread i. -/
def jnI (l m : List Int) (i : Nat) : List Int := (List.range (max l.length m.length)).map fun k => if k < i then max (l.getD k 0) (m.getD k 0) else l.getD k 0
theorem jnI_len (l m : List Int) (i : Nat) : (jnI l m i).length = max l.length m.length := by simp [jnI]
theorem jnI_get {l m : List Int} {i k : Nat} (h : k < max l.length m.length) : (jnI l m i)[k]? = some (if k < i then max (l.getD k 0) (m.getD k 0) else l.getD k 0) := by
  simp only [jnI, List.getElem?_map, List.getElem?_range h, Option.map_some]
theorem jnI_zero (l m : List Int) : jnI l m 0 = pd l m.length := by
  apply List.ext_getElem?
  intro k
  by_cases h : k < max l.length m.length
  · rw [jnI_get h, if_neg (by omega)]
    obtain ⟨x, hx⟩ := get_lt (l := pd l m.length) (i := k) (by rw [pd_len]; exact h)
    rw [hx, ← pd_g l m.length k, getD_mem hx]
  · rw [List.getElem?_eq_none (by rw [jnI_len]; omega), List.getElem?_eq_none (by rw [pd_len]; omega)]
theorem jnI_next {l m : List Int} {i : Nat} {y : Int} (hy : m[i]? = some y) : (jnI l m i).set i (max (l.getD i 0) y) = jnI l m (i + 1) := by
  have hi := (List.getElem?_eq_some_iff.1 hy).1
  apply List.ext_getElem?
  intro k
  by_cases h : k < max l.length m.length
  · by_cases hk : k = i
    · subst hk
      rw [List.getElem?_set_self (by rw [jnI_len]; omega), jnI_get h, if_pos (by omega), getD_mem hy]
    · rw [List.getElem?_set_ne (Ne.symm hk), jnI_get h, jnI_get h]
      by_cases h2 : k < i
      · rw [if_pos h2, if_pos (by omega)]
      · rw [if_neg h2, if_neg (by omega)]
  · rw [List.getElem?_eq_none (by rw [List.length_set, jnI_len]; omega), List.getElem?_eq_none (by rw [jnI_len]; omega)]
theorem jnI_end {l m : List Int} (hl : CV l) {i : Nat} (h : m.length ≤ i) : jnI l m i = jn l m := by
  apply List.ext_getElem?
  intro k
  by_cases hk : k < max l.length m.length
  · rw [jnI_get hk, jn, List.getElem?_map, List.getElem?_range hk, Option.map_some]
    by_cases h2 : k < i
    · rw [if_pos h2]
    · rw [if_neg h2]
      have h3 : m.getD k 0 = 0 := by simp only [List.getD_eq_getElem?_getD]; rw [List.getElem?_eq_none (by omega)]; rfl
      have := g_rng hl.rng (by decide) k
      rw [h3, Int.max_eq_left this.1]
  · rw [List.getElem?_eq_none (by rw [jnI_len]; omega), List.getElem?_eq_none (by rw [jn_len]; omega)]
/-- A vector somewhere: where, its list's place and room, its clocks. -/
abbrev K := Nat × Option Addr × Nat × List Int
abbrev kf (x : K) : HProp := Bun [cells x.1 0 [.slice x.2.1 x.2.2.2.length x.2.2.1], own 1 encU x.2.1 x.2.2.1 x.2.2.2]
def encP (x : K) : List Value := [.pointer (some ⟨x.1, 0, none⟩)]
theorem encP_len : ∀ x, (encP x).length = 1 := fun _ => rfl
theorem encP_one : ∀ x, (encP x).all Value.oneCell' = true := fun _ => rfl
def jnA (l : List Int) (os : List K) : List Int := os.foldl (fun l x => jn l x.2.2.2) l
theorem jnA_next {l : List Int} {os : List K} {i : Nat} {x : K} (h : os[i]? = some x) : jnA l (os.take (i + 1)) = jn (jnA l (os.take i)) x.2.2.2 := by
  rw [List.take_add_one, h, jnA, jnA, List.foldl_append]; rfl
/-- Is each clock at most the other's? -/
def LeqL (l m : List Int) : Prop := l.length ≤ m.length ∧ ∀ i, i < l.length → l.getD i 0 ≤ m.getD i 0
instance (l m : List Int) : Decidable (LeqL l m) := inferInstanceAs (Decidable (_ ∧ ∀ i, i < l.length → _))

theorem rds_nil {α : Type} {A : HProp} {ao : Option Addr} {sz : Nat} {enc : α → List Value} {xs : List α} (h : RdS A ao (xs.flatMap enc)) (hsz : ∀ x, (enc x).length = sz + 1) (hn : ao = none) : xs = [] := by
  rcases h with h | ⟨b, o, h, -⟩
  · have := flat_len hsz xs
    rw [h, List.length_nil] at this
    have h2 : xs.length = 0 := by
      rcases Nat.mul_eq_zero.1 this.symm with h3 | h3
      · exact h3
      · omega
    exact List.eq_nil_of_length_eq_zero h2
  · rw [hn] at h; cases h

theorem clone_spec (xs : List Int) (ao : Option Addr) (n c : Nat) (A : HProp) (hn : xs.length = n) (hr : RdS A ao (xs.flatMap encU)) (hb : xs.length ≤ 4000000000000) : Spec Try.prog 55 [.slice ao n c] [A] (fun (r : Option Addr × Nat) => .slice r.1 n r.2) (fun r => True) (fun r => [A, own 1 encU r.1 r.2 xs]) := by
 refine spec_mk (n := 8) Try.func55 rfl rfl rfl ?_
 intro Γ w0
 simp only [argE, List.cons_append, List.nil_append, Nat.zero_add, Nat.reduceAdd]
 refine c_seq ?_
 refine c_plain (.q 0 (.done)) (by kernel_rfl) ?_
 refine q_assign rfl rfl rfl rfl ?_
 refine r_done ?_
 refine k_then_n ?_
 refine c_seq ?_
 refine c_seq ?_
 refine c_plain (.q 0 (.q 1 (.done))) (by kernel_rfl) ?_
 refine q_move rfl rfl rfl rfl ?_
 refine q_eq_nils rfl rfl rfl rfl Try.underlying31 ?_
 refine r_done ?_
 refine k_then_n ?_
 refine c_cond rfl (fun hno => ?_) (fun hno => ?_)
 ·
  try simp only [Bool.and_eq_true, Bool.or_eq_true, Bool.not_eq_true', Bool.not_eq_false', Bool.and_eq_false_iff, Bool.or_eq_false_iff, decide_eq_true_eq, decide_eq_false_iff_not] at hno
  have hx := rds_nil hr encU_len (by simpa using hno)
  subst hx
  obtain rfl : n = 0 := by simpa using hn.symm
  refine s_heap (fun _ h => own_nil (sz := 1) (enc := encU) h) ?_
  refine c_seq ?_
  refine c_plain (.q 0 (.done)) (by kernel_rfl) ?_
  refine q_assign rfl rfl rfl rfl ?_
  refine r_done ?_
  refine k_then_n ?_
  refine c_ret ?_
  refine k_then_ret ?_
  refine ret1 rfl rfl ((none, 0)) (by first | rfl | (first | rfl | (congr 1; done) | (congr 1 <;> first | rfl | omega | (simp; done) | (simp; omega)))) (by trivial) ?_
  (repeat ((with_reducible apply Z2); focus (first | (with_reducible (repeat (first | exact Z0 | apply Z1)); done) | (repeat (first | exact Z0 | apply Z1))))); (repeat (first | exact Z3 | exact Takes.self | refine takes_drop2 ?_))
 ·
  try simp only [Bool.and_eq_true, Bool.or_eq_true, Bool.not_eq_true', Bool.not_eq_false', Bool.and_eq_false_iff, Bool.or_eq_false_iff, decide_eq_true_eq, decide_eq_false_iff_not] at hno
  refine c_skip ?_
  refine k_then_n ?_
  refine c_seq ?_
  refine c_plain ((.l 0 [] (.q 1 ((.l 2 [] (.q 3 (.done))))))) (by kernel_rfl) ?_
  refine l_buildSlice0 rfl rfl rfl rfl Try.underlying31 Try.sizeOf35 ?_
  intro b5
  refine ag_nil ?_
  refine q_move rfl rfl rfl rfl ?_
  refine s_take (A := cells b5 0 []) (by with_reducible (repeat (first | exact Z0 | apply Z1))) ?_
  refine s_heap (fun _ h => own_mk (sz := 1) (enc := encU) (xs := []) (sp := []) (cap := 0) (Nat.le_refl _) rfl h) ?_
  refine l_append (sz := 1) (enc := encU) (xs := []) rfl rfl rfl rfl rfl Try.underlying31 Try.typeInfo35 rfl rfl rfl (by decide) (by with_reducible (repeat (first | exact Z0 | apply Z1))) (by with_reducible (repeat (first | exact Z0 | apply Z1))) (by first | rfl | omega | (simp; done) | (simp; omega)) (ys := xs) (hr) (by rfl) (by exact hn) (encU_len) (encU_one) (by omega) (by show _ * 8 ≤ _; omega) ?_
  intro ao7 cp7
  try simp only [List.nil_append]
  refine ag_nil ?_
  refine q_assign rfl rfl rfl rfl ?_
  refine r_done ?_
  refine s_keep [2] (e' := [(2, _)]) rfl ?_
  refine k_then_n ?_
  refine c_ret ?_
  refine ret1 rfl rfl ((ao7, cp7)) (by rw [Nat.zero_add]) (by trivial) ?_
  (repeat ((with_reducible apply Z2); focus (first | (with_reducible (repeat (first | exact Z0 | apply Z1)); done) | (repeat (first | exact Z0 | apply Z1))))); (repeat (first | exact Z3 | exact Takes.self | refine takes_drop2 ?_))


theorem trim_spec (b : Nat) (l : List Int) (ao : Option Addr) (n cap : Nat) (hn : l.length = n) (hb : n ≤ 4000000000) : Spec Try.prog 65 [.pointer (some ⟨b, 0, none⟩)] [cells b 0 [.slice ao n cap], own 1 encU ao cap l] (fun (_ : Unit) => .tuple #[]) (fun _ => True) (fun _ => [cells b 0 [.slice ao (tr l).length cap], own 1 encU ao cap (tr l)]) := by
 refine spec_mk (n := 32) Try.func65 rfl rfl rfl ?_
 intro Γ w0
 simp only [argE, List.cons_append, List.nil_append, Nat.zero_add, Nat.reduceAdd]
 refine c_seq ?_
 refine c_plain (.q 0 (.q 1 (.q 2 (.q 3 (.q 4 (.q 5 (.done))))))) (by kernel_rfl) ?_
 refine q_move rfl rfl rfl rfl ?_
 refine q_nil_p rfl rfl rfl rfl ?_
 refine q_field (k := 0) rfl rfl rfl rfl Try.underlying118 rfl Try.sizeOf31 rfl ?_
 refine q_load_c (j := 0) rfl rfl rfl rfl Try.isAgg31 (by with_reducible (repeat (first | exact Z0 | apply Z1))) (by first | rfl | exact (Nat.add_zero _).symm) (by rfl) ?_
 refine q_len rfl rfl rfl rfl Try.underlying31 ?_
 refine q_assign rfl rfl rfl rfl ?_
 refine r_done ?_
 refine s_keep [0, 2] (e' := [(0, _), (2, _)]) rfl ?_
 refine k_then_n ?_
 refine c_seq ?_
 refine c_block ?_
 refine c_loop2 (α := Nat) (fun (k : Nat) => trN l l.length = trN l k ∧ k ≤ n) (fun (k : Nat) => [(2, .int .i64 ((k : Nat) : Int))]) (fun (k : Nat) => []) (fun (k : Nat) => k) [0] (er := [(0, _)]) rfl (n) ?_ (by exact ⟨rfl, trivial⟩) (by (try dsimp only); (try simp only [Nat.add_zero, Nat.zero_add]); (repeat ((with_reducible apply Z2); focus (first | (with_reducible (repeat (first | exact Z0 | apply Z1)); done) | (repeat (first | exact Z0 | apply Z1))))); exact Z3) ?_
 · exact ⟨by rw [hn], Nat.le_refl _⟩
 rintro k ⟨hk, hkn⟩
 try simp only [List.cons_append, List.nil_append]
 refine c_seq ?_
 refine c_seq ?_
 refine c_plain (.q 0 (.q 1 (.q 2 (.q 3 (.q 4 (.q 5 (.q 6 (.q 7 (.q 8 (.q 9 (.q 10 (.q 11 (.q 12 (.done)))))))))))))) (by kernel_rfl) ?_
 refine q_move rfl rfl rfl rfl ?_
 refine q_int rfl rfl rfl rfl rfl (b_gtr _ _ _ _) ?_
 refine q_move rfl rfl rfl rfl ?_
 refine s_bool_p 10 rfl (fun hk0 => ?_) (fun hk0 => ?_)
 ·
  obtain ⟨k, rfl⟩ : ∃ j, k = j + 1 := ⟨k - 1, by omega⟩
  obtain ⟨x, hx⟩ := get_lt (l := l) (i := k) (by omega)
  refine q_move rfl rfl rfl rfl ?_
  refine q_nil_p rfl rfl rfl rfl ?_
  refine q_field (k := 0) rfl rfl rfl rfl Try.underlying118 rfl Try.sizeOf31 rfl ?_
  refine q_load_c (j := 0) rfl rfl rfl rfl Try.isAgg31 (by with_reducible (repeat (first | exact Z0 | apply Z1))) (by first | rfl | exact (Nat.add_zero _).symm) (by rfl) ?_
  refine q_move rfl rfl rfl rfl ?_
  refine q_int rfl rfl rfl rfl rfl (b_sub' _ (by exact fits_i64 (by omega) (by omega))) ?_
  refine s_eq 16 rfl (v' := .int .i64 ((k : Nat) : Int)) (by congr 1; omega) ?_
  refine q_idxO (sz := 0) (k := k) (enc := encU) (xs := l) rfl rfl rfl rfl rfl Try.underlying31 Try.sizeOf35 hx (by first | rfl | omega) (by omega) (by with_reducible (repeat (first | exact Z0 | apply Z1))) ?_
  intro ib17 io17 ha17 hl17 hc17
  refine q_load_O (v := (.int .u64 x)) (j := 0) (k' := k) (enc := encU) (off := io17) rfl rfl rfl rfl Try.isAgg35 ha17 encU_len hx (by with_reducible (repeat (first | exact Z0 | apply Z1))) (by first | rfl | exact (Nat.add_zero _).symm | omega) (by rfl) ?_
  refine q_int rfl rfl rfl rfl rfl (b_eql _ _ _ _) ?_
  refine q_pick_t rfl rfl rfl rfl rfl ?_
  refine r_done ?_
  refine k_then_n ?_
  refine c_cond_p rfl (fun hz => ?_) (fun hz => ?_)
  ·
   have hz2 : trN l (k + 1) = trN l k := by rw [trN, if_pos (by rw [getD_mem hx]; exact hz)]
   refine c_skip ?_
   refine k_then_n ?_
   refine c_block ?_
   refine c_plain (.q 0 (.q 1 (.q 2 (.done)))) (by kernel_rfl) ?_
   refine q_move rfl rfl rfl rfl ?_
   refine q_int rfl rfl rfl rfl rfl (b_sub' _ (by exact fits_i64 (by omega) (by omega))) ?_
   refine s_eq 22 rfl (v' := .int .i64 ((k : Nat) : Int)) (by congr 1; omega) ?_
   refine q_assign rfl rfl rfl rfl ?_
   refine r_done ?_
   refine s_keep [0, 2, 11, 12, 13, 14, 15, 16, 17, 18, 19] (e' := [(0, _), (2, _), (11, _), (12, _), (13, _), (14, _), (15, _), (16, _), (17, _), (18, _), (19, _)]) rfl ?_
   refine k_blk_n ?_
   refine k_then_n ?_
   refine loop_next (x := k + 1) (k) ?_ ?_ ?_ ?_
   · exact ⟨by rw [hk, hz2], by omega⟩
   · show k < k + 1; omega
   · exact ⟨rfl, rfl, trivial⟩
   · (try simp only [List.cons_append, List.nil_append]); (repeat ((with_reducible apply Z2); focus (first | (with_reducible (repeat (first | exact Z0 | apply Z1)); done) | (repeat (first | exact Z0 | apply Z1))))); (repeat (first | exact Z3 | exact Takes.self | refine takes_drop2 ?_))
  ·
   have hz2 : trN l (k + 1) = k + 1 := by rw [trN, if_neg (by rw [getD_mem hx]; exact hz)]
   refine c_exit ?_
   refine k_then_exit ?_
   refine k_then_exit ?_
   refine k_blk_here ?_
   refine k_then_n ?_
   refine c_plain (.q 0 (.q 1 (.q 2 (.q 3 (.q 4 (.q 5 (.q 6 (.q 7 (.q 8 ((.l 9 [] (.done)))))))))))) (by kernel_rfl) ?_
   refine q_move rfl rfl rfl rfl ?_
   refine q_move rfl rfl rfl rfl ?_
   refine q_nil_p rfl rfl rfl rfl ?_
   refine q_field (k := 0) rfl rfl rfl rfl Try.underlying118 rfl Try.sizeOf31 rfl ?_
   refine q_load_c (j := 0) rfl rfl rfl rfl Try.isAgg31 (by with_reducible (repeat (first | exact Z0 | apply Z1))) (by first | rfl | exact (Nat.add_zero _).symm) (by rfl) ?_
   refine q_move rfl rfl rfl rfl ?_
   refine s_take (A := own 1 encU ao cap l) (by with_reducible (repeat (first | exact Z0 | apply Z1))) ?_
   refine own_fc fun f_1a f_1b f_1c => ?_
   refine q_cut_hi (h' := k + 1) rfl rfl rfl rfl rfl Try.underlying31 Try.sizeOf35 (by first | rfl | omega) (by first | omega | (have hcap_ := f_1a; simp only [List.length_append, List.length_map, List.length_replicate, List.length_cons, List.length_nil] at hcap_; omega)) ?_
   refine s_take (A := own 1 encU ao cap l) (by with_reducible (repeat (first | exact Z0 | apply Z1))) ?_
   refine s_heap (fun _ h => own_take encU_len (k + 1) h) ?_
   refine q_nil_p rfl rfl rfl rfl ?_
   refine q_field (k := 0) rfl rfl rfl rfl Try.underlying118 rfl Try.sizeOf31 rfl ?_
   refine l_store (j := 0) rfl rfl rfl rfl Try.sizeOf31 (us := [_]) rfl rfl rfl (by with_reducible (repeat (first | exact Z0 | apply Z1))) (by first | rfl | exact (Nat.add_zero _).symm) (by first | decide | (simp; done) | omega) ?_
   simp only [setL, List.set]
   refine ag_nil ?_
   refine r_done ?_
   refine s_keep [] (e' := []) rfl ?_
   refine ret_end ?_
   have hkk : trN l l.length = k + 1 := hk.trans hz2
   have hkl : (tr l).length = k + 1 := by rw [tr_len, hkk]
   refine s_take (A := own 1 encU ao cap (l.take (k + 1))) (by first | (with_reducible (repeat (first | exact Z0 | apply Z1)); done) | (repeat (first | exact Z0 | apply Z1))) ?_
   refine s_heap (Γ' := own 1 encU ao cap (tr l) :: _) (fun _ h => (by rw [tr, hkk]; exact h)) ?_
   refine s_take (A := cells b 0 [.slice ao (k + 1) cap]) (by first | (with_reducible (repeat (first | exact Z0 | apply Z1)); done) | (repeat (first | exact Z0 | apply Z1))) ?_
   refine s_heap (Γ' := cells b 0 [.slice ao (tr l).length cap] :: _) (fun _ h => (by rw [hkl]; exact h)) ?_
   refine ret0 rfl (()) (by first | rfl | (first | rfl | (congr 1; done) | (congr 1 <;> first | rfl | omega | (simp; done) | (simp; omega)))) (by trivial) ?_
   (repeat ((with_reducible apply Z2); focus (first | (with_reducible (repeat (first | exact Z0 | apply Z1)); done) | (repeat (first | exact Z0 | apply Z1))))); (repeat (first | exact Z3 | exact Takes.self | refine takes_drop2 ?_))
 ·
  obtain rfl : k = 0 := by omega
  refine q_skip rfl rfl rfl rfl ?_
  refine q_skip rfl rfl rfl rfl ?_
  refine q_skip rfl rfl rfl rfl ?_
  refine q_skip rfl rfl rfl rfl ?_
  refine q_skip rfl rfl rfl rfl ?_
  refine q_skip rfl rfl rfl rfl ?_
  refine q_skip rfl rfl rfl rfl ?_
  refine q_skip rfl rfl rfl rfl ?_
  refine q_skip rfl rfl rfl rfl ?_
  refine q_pick_f rfl rfl rfl rfl rfl ?_
  refine r_done ?_
  refine k_then_n ?_
  refine c_cond_f rfl ?_
  refine c_exit ?_
  refine k_then_exit ?_
  refine k_then_exit ?_
  refine k_blk_here ?_
  refine k_then_n ?_
  refine c_plain (.q 0 (.q 1 (.q 2 (.q 3 (.q 4 (.q 5 (.q 6 (.q 7 (.q 8 ((.l 9 [] (.done)))))))))))) (by kernel_rfl) ?_
  refine q_move rfl rfl rfl rfl ?_
  refine q_move rfl rfl rfl rfl ?_
  refine q_nil_p rfl rfl rfl rfl ?_
  refine q_field (k := 0) rfl rfl rfl rfl Try.underlying118 rfl Try.sizeOf31 rfl ?_
  refine q_load_c (j := 0) rfl rfl rfl rfl Try.isAgg31 (by with_reducible (repeat (first | exact Z0 | apply Z1))) (by first | rfl | exact (Nat.add_zero _).symm) (by rfl) ?_
  refine q_move rfl rfl rfl rfl ?_
  refine s_take (A := own 1 encU ao cap l) (by with_reducible (repeat (first | exact Z0 | apply Z1))) ?_
  refine own_fc fun f_2a f_2b f_2c => ?_
  refine q_cut_hi (h' := 0) rfl rfl rfl rfl rfl Try.underlying31 Try.sizeOf35 (by first | rfl | omega) (by first | omega | (have hcap_ := f_2a; simp only [List.length_append, List.length_map, List.length_replicate, List.length_cons, List.length_nil] at hcap_; omega)) ?_
  refine s_take (A := own 1 encU ao cap l) (by with_reducible (repeat (first | exact Z0 | apply Z1))) ?_
  refine s_heap (fun _ h => own_take encU_len 0 h) ?_
  refine q_nil_p rfl rfl rfl rfl ?_
  refine q_field (k := 0) rfl rfl rfl rfl Try.underlying118 rfl Try.sizeOf31 rfl ?_
  refine l_store (j := 0) rfl rfl rfl rfl Try.sizeOf31 (us := [_]) rfl rfl rfl (by with_reducible (repeat (first | exact Z0 | apply Z1))) (by first | rfl | exact (Nat.add_zero _).symm) (by first | decide | (simp; done) | omega) ?_
  simp only [setL, List.set]
  refine ag_nil ?_
  refine r_done ?_
  refine s_keep [] (e' := []) rfl ?_
  refine ret_end ?_
  have hkk : trN l l.length = 0 := hk
  have hkl : (tr l).length = 0 := by rw [tr_len, hkk]
  refine s_take (A := own 1 encU ao cap (l.take 0)) (by first | (with_reducible (repeat (first | exact Z0 | apply Z1)); done) | (repeat (first | exact Z0 | apply Z1))) ?_
  refine s_heap (Γ' := own 1 encU ao cap (tr l) :: _) (fun _ h => (by rw [tr, hkk]; exact h)) ?_
  refine s_take (A := cells b 0 [.slice ao 0 cap]) (by first | (with_reducible (repeat (first | exact Z0 | apply Z1)); done) | (repeat (first | exact Z0 | apply Z1))) ?_
  refine s_heap (Γ' := cells b 0 [.slice ao (tr l).length cap] :: _) (fun _ h => (by rw [hkl]; exact h)) ?_
  refine ret0 rfl (()) (by first | rfl | (first | rfl | (congr 1; done) | (congr 1 <;> first | rfl | omega | (simp; done) | (simp; omega)))) (by trivial) ?_
  (repeat ((with_reducible apply Z2); focus (first | (with_reducible (repeat (first | exact Z0 | apply Z1)); done) | (repeat (first | exact Z0 | apply Z1))))); (repeat (first | exact Z3 | exact Takes.self | refine takes_drop2 ?_))

theorem of_spec (xs : List Int) (ao : Option Addr) (n c : Nat) (A : HProp) (hn : xs.length = n) (hr : RdS A ao (xs.flatMap encU)) (hl : n ≤ 65535) (hx_ : ∀ x ∈ xs, 0 ≤ x ∧ x ≤ maxC) : Spec Try.prog 58 [.slice ao n c] [A] (fun (r : Nat × Option Addr × Nat) => .tuple #[.pointer (some ⟨r.1, 0, none⟩), .int .i64 0]) (fun r => True) (fun r => [A, cells r.1 0 [.slice r.2.1 (tr xs).length r.2.2], own 1 encU r.2.1 r.2.2 (tr xs)]) := by
 refine spec_mk (n := 26) Try.func58 rfl rfl rfl ?_
 intro Γ w0
 simp only [argE, List.cons_append, List.nil_append, Nat.zero_add, Nat.reduceAdd]
 refine c_seq ?_
 refine c_plain (.q 0 (.q 1 (.done))) (by kernel_rfl) ?_
 refine q_assign rfl rfl rfl rfl ?_
 refine q_assign rfl rfl rfl rfl ?_
 refine r_done ?_
 refine k_then_n ?_
 refine c_seq ?_
 refine c_seq ?_
 refine c_plain (.q 0 (.q 1 (.q 2 (.done)))) (by kernel_rfl) ?_
 refine q_move rfl rfl rfl rfl ?_
 refine q_len rfl rfl rfl rfl Try.underlying31 ?_
 refine q_int rfl rfl rfl rfl rfl (b_gtr _ _ _ _) ?_
 refine r_done ?_
 refine s_keep [0, 9] (e' := [(0, _), (9, _)]) rfl ?_
 refine k_then_n ?_
 refine c_cond_p rfl (fun hg => by exfalso; omega) (fun hg => ?_)
 refine c_skip ?_
 refine k_then_n ?_
 refine c_seq ?_
 refine c_seq ?_
 refine c_plain (.q 0 (.q 1 (.q 2 (.done)))) (by kernel_rfl) ?_
 refine q_move rfl rfl rfl rfl ?_
 refine q_len rfl rfl rfl rfl Try.underlying31 ?_
 refine q_move rfl rfl rfl rfl ?_
 refine r_done ?_
 refine k_then_n ?_
 refine c_block ?_
 refine c_loop2 (α := Nat) (fun (i : Nat) => i ≤ n) (fun (i : Nat) => [(12, .int .i64 ((i : Nat) : Int))]) (fun (i : Nat) => []) (fun (i : Nat) => n - i) [0, 10, 11] (er := [(0, _), (10, _), (11, _)]) rfl (0) ?_ (by exact ⟨rfl, trivial⟩) (by (try dsimp only); (try simp only [Nat.add_zero, Nat.zero_add]); (repeat ((with_reducible apply Z2); focus (first | (with_reducible (repeat (first | exact Z0 | apply Z1)); done) | (repeat (first | exact Z0 | apply Z1))))); exact Z3) ?_
 · exact Nat.zero_le _
 rintro i hle_i
 try simp only [List.cons_append, List.nil_append]
 refine c_seq ?_
 refine c_plain (.q 0 (.done)) (by kernel_rfl) ?_
 refine q_int rfl rfl rfl rfl rfl (b_lss _ _ _ _) ?_
 refine r_done ?_
 refine k_then_n ?_
 refine c_seq ?_
 refine c_cond_p rfl (fun hlt => ?_) (fun hlt => ?_)
 ·
  refine c_skip ?_
  refine k_then_n ?_
  refine c_seq ?_
  refine c_block ?_
  refine c_seq ?_
  refine c_plain (.q 0 (.q 1 (.q 2 (.done)))) (by kernel_rfl) ?_
  obtain ⟨x, hx⟩ := get_lt (l := xs) (i := i) (by first | omega | (simp; done) | (simp; omega))
  refine q_idxR (sz := 0) (k := i) rfl rfl rfl rfl rfl Try.underlying31 Try.sizeOf35 (hr) hx encU_len (by first | rfl | omega) (by omega) ?_
  intro ib14 io14 _ hd14
  refine q_load rfl rfl rfl rfl Try.isAgg35 (by with_reducible (repeat (first | exact Z0 | apply Z1))) (hd14 0 (.int .u64 x) rfl) ?_
  refine q_assign rfl rfl rfl rfl ?_
  refine r_done ?_
  refine k_then_n ?_
  refine c_seq ?_
  refine c_plain (.q 0 (.q 1 (.done))) (by kernel_rfl) ?_
  refine q_move rfl rfl rfl rfl ?_
  refine q_int rfl rfl rfl rfl rfl (b_gtr _ _ _ _) ?_
  refine r_done ?_
  refine s_keep [0, 10, 11, 12, 17] (e' := [(0, _), (10, _), (11, _), (12, _), (17, _)]) rfl ?_
  refine k_then_n ?_
  refine c_cond_p rfl (fun hg => by exfalso; have := hx_ x (List.mem_of_getElem? hx); simp only [maxC] at this; omega) (fun hg => ?_)
  refine c_skip ?_
  refine k_blk_n ?_
  refine k_then_n ?_
  refine c_plain (.q 0 (.q 1 (.done))) (by kernel_rfl) ?_
  refine q_int rfl rfl rfl rfl rfl (b_add' _ (by exact fits_i64 (by omega) (by omega))) ?_
  refine q_move rfl rfl rfl rfl ?_
  refine r_done ?_
  refine k_then_n ?_
  refine loop_next (x := i) (i + 1) ?_ ?_ ?_ ?_
  · exact by show i + 1 ≤ n; omega
  · show n - (i + 1) < n - i; omega
  · exact ⟨rfl, rfl, rfl, rfl, trivial⟩
  · (try simp only [List.cons_append, List.nil_append]); (repeat ((with_reducible apply Z2); focus (first | (with_reducible (repeat (first | exact Z0 | apply Z1)); done) | (repeat (first | exact Z0 | apply Z1))))); (repeat (first | exact Z3 | exact Takes.self | refine takes_drop2 ?_))
 ·
  refine c_exit ?_
  refine k_then_exit ?_
  refine k_then_exit ?_
  refine k_blk_here ?_
  refine k_then_n ?_
  refine c_seq ?_
  refine c_plain (.q 0 ((.l 1 [] (.q 2 ((.l 3 [] (.q 4 (.done)))))))) (by kernel_rfl) ?_
  refine q_move rfl rfl rfl rfl ?_
  have sp_1 := clone_spec xs ao n c A (by first | rfl | assumption | omega | (simp; done) | (simp; omega)) (hr) (by rw [hn]; omega)
  refine l_call rfl rfl rfl rfl rfl rfl Try.call55 (sp_1) (by (repeat ((with_reducible apply Z2); focus (first | (with_reducible (repeat (first | exact Z0 | apply Z1)); done) | (repeat (first | exact Z0 | apply Z1))))); exact Z3) ?_
  rintro ⟨qa, qc⟩ -
  try simp only [List.cons_append, List.nil_append]
  refine ag_nil ?_
  refine q_build rfl rfl rfl rfl (vs := [_]) (run_buildS Try.underlying118 Try.zeroValue118 (ps := [(0, 1)]) ⟨rfl, Try.sizeOf31, trivial⟩ rfl) ?_
  refine l_box rfl rfl rfl rfl (us := [_]) rfl ?_
  intro b22
  refine ag_nil ?_
  refine q_assign rfl rfl rfl rfl ?_
  refine r_done ?_
  refine s_keep [6] (e' := [(6, _)]) rfl ?_
  refine k_then_n ?_
  refine c_seq ?_
  refine c_plain (.q 0 ((.l 1 [] (.done)))) (by kernel_rfl) ?_
  refine q_move rfl rfl rfl rfl ?_
  have sp_2 := trim_spec b22 xs qa n qc (by exact hn) (by omega)
  refine l_call rfl rfl rfl rfl rfl rfl Try.call65 (sp_2) (by (repeat ((with_reducible apply Z2); focus (first | (with_reducible (repeat (first | exact Z0 | apply Z1)); done) | (repeat (first | exact Z0 | apply Z1))))); exact Z3) ?_
  rintro ⟨⟩ -
  try simp only [List.cons_append, List.nil_append]
  refine ag_nil ?_
  refine r_done ?_
  refine k_then_n ?_
  refine c_seq ?_
  refine c_plain (.q 0 (.q 1 (.q 2 (.done)))) (by kernel_rfl) ?_
  refine q_move rfl rfl rfl rfl ?_
  refine q_assign rfl rfl rfl rfl ?_
  refine q_assign rfl rfl rfl rfl ?_
  refine r_done ?_
  refine s_keep [2, 3] (e' := [(2, _), (3, _)]) rfl ?_
  refine k_then_n ?_
  refine c_ret ?_
  refine ret2 rfl rfl rfl ((b22, qa, qc)) (by first | rfl | (first | rfl | (congr 1; done) | (congr 1 <;> first | rfl | omega | (simp; done) | (simp; omega)))) (by trivial) ?_
  (repeat ((with_reducible apply Z2); focus (first | (with_reducible (repeat (first | exact Z0 | apply Z1)); done) | (repeat (first | exact Z0 | apply Z1))))); (repeat (first | exact Z3 | exact Takes.self | refine takes_drop2 ?_))

theorem reach_spec (b : Nat) (l : List Int) (t : Nat) (ao : Option Addr) (n cap : Nat) (hn : l.length = n) (hb : n ≤ 4000000000 ∧ t ≤ 4000000000) : Spec Try.prog 64 [.pointer (some ⟨b, 0, none⟩), .int .i64 (((t : Nat) : Int) - 1)] [cells b 0 [.slice ao n cap], own 1 encU ao cap l] (fun (r : Option Addr × Nat) => .tuple #[]) (fun r => True) (fun r => [cells b 0 [.slice r.1 (pd l t).length r.2], own 1 encU r.1 r.2 (pd l t)]) := by
 refine spec_mk (n := 24) Try.func64 rfl rfl rfl ?_
 intro Γ w0
 simp only [argE, List.cons_append, List.nil_append, Nat.zero_add, Nat.reduceAdd]
 refine c_seq ?_
 refine c_plain (.q 0 (.q 1 (.q 2 (.q 3 (.q 4 (.q 5 (.q 6 (.q 7 (.q 8 (.done)))))))))) (by kernel_rfl) ?_
 refine q_move rfl rfl rfl rfl ?_
 refine q_int rfl rfl rfl rfl rfl (b_add' _ (by exact fits_i64 (by omega) (by omega))) ?_
 refine s_eq 6 rfl (v' := .int .i64 ((t : Nat) : Int)) (by congr 1; omega) ?_
 refine q_move rfl rfl rfl rfl ?_
 refine q_nil_p rfl rfl rfl rfl ?_
 refine q_field (k := 0) rfl rfl rfl rfl Try.underlying118 rfl Try.sizeOf31 rfl ?_
 refine q_load_c (j := 0) rfl rfl rfl rfl Try.isAgg31 (by with_reducible (repeat (first | exact Z0 | apply Z1))) (by first | rfl | exact (Nat.add_zero _).symm) (by rfl) ?_
 refine q_len rfl rfl rfl rfl Try.underlying31 ?_
 refine q_int rfl rfl rfl rfl rfl (b_sub' _ (by exact fits_i64 (by omega) (by omega))) ?_
 refine q_assign rfl rfl rfl rfl ?_
 refine r_done ?_
 refine s_keep [0, 4] (e' := [(0, _), (4, _)]) rfl ?_
 refine k_then_n ?_
 refine c_seq ?_
 refine c_plain (.q 0 (.q 1 (.done))) (by kernel_rfl) ?_
 refine q_move rfl rfl rfl rfl ?_
 refine q_int rfl rfl rfl rfl rfl (b_gtr _ _ _ _) ?_
 refine r_done ?_
 refine k_then_n ?_
 refine c_cond_p rfl (fun hgt => ?_) (fun hgt => ?_)
 ·
  refine c_plain (.q 0 (.q 1 (.q 2 (.q 3 (.q 4 (.q 5 ((.l 6 [] (.q 7 (.q 8 ((.l 9 [] (.done))))))))))))) (by kernel_rfl) ?_
  refine q_move rfl rfl rfl rfl ?_
  refine q_move rfl rfl rfl rfl ?_
  refine q_nil_p rfl rfl rfl rfl ?_
  refine q_field (k := 0) rfl rfl rfl rfl Try.underlying118 rfl Try.sizeOf31 rfl ?_
  refine q_load_c (j := 0) rfl rfl rfl rfl Try.isAgg31 (by with_reducible (repeat (first | exact Z0 | apply Z1))) (by first | rfl | exact (Nat.add_zero _).symm) (by rfl) ?_
  refine q_move rfl rfl rfl rfl ?_
  refine l_appendZ (sz := 1) (enc := encU) (m := t - n) (xs := l) (0 : Int) rfl rfl rfl rfl rfl Try.underlying31 Try.underlying3 Try.typeInfo35 rfl rfl rfl (by decide) (by with_reducible (repeat (first | exact Z0 | apply Z1))) (by first | exact hn | rfl) (by omega) rfl encU_len encU_one (by omega) (by show _ * 8 ≤ _; omega) ?_
  intro ao21 cp21
  rw [show l ++ List.replicate (t - n) 0 = pd l t from by rw [pd, hn]]
  have hpl : (pd l t).length = n + (t - n) := by rw [pd_len, hn]; omega
  refine ag_nil ?_
  refine q_nil_p rfl rfl rfl rfl ?_
  refine q_field (k := 0) rfl rfl rfl rfl Try.underlying118 rfl Try.sizeOf31 rfl ?_
  refine l_store (j := 0) rfl rfl rfl rfl Try.sizeOf31 (us := [_]) rfl rfl rfl (by with_reducible (repeat (first | exact Z0 | apply Z1))) (by first | rfl | exact (Nat.add_zero _).symm) (by first | decide | (simp; done) | omega) ?_
  simp only [setL, List.set]
  refine ag_nil ?_
  refine r_done ?_
  refine s_keep [] (e' := []) rfl ?_
  refine ret_end ?_
  refine s_take (A := cells b 0 [.slice ao21 (n + (t - n)) cp21]) (by first | (with_reducible (repeat (first | exact Z0 | apply Z1)); done) | (repeat (first | exact Z0 | apply Z1))) ?_
  refine s_heap (Γ' := cells b 0 [.slice ao21 (pd l t).length cp21] :: _) (fun _ h => (by rw [hpl]; exact h)) ?_
  refine ret0 rfl ((ao21, cp21)) (by first | rfl | (first | rfl | (congr 1; done) | (congr 1 <;> first | rfl | omega | (simp; done) | (simp; omega)))) (by trivial) ?_
  (repeat ((with_reducible apply Z2); focus (first | (with_reducible (repeat (first | exact Z0 | apply Z1)); done) | (repeat (first | exact Z0 | apply Z1))))); (repeat (first | exact Z3 | exact Takes.self | refine takes_drop2 ?_))
 ·
  have hpd : pd l t = l := by rw [pd, show t - l.length = 0 from by omega]; simp
  rw [show own 1 encU ao cap l = own 1 encU ao cap (pd l t) from by rw [hpd]]
  have hpl : (pd l t).length = n := by rw [hpd, hn]
  refine c_skip ?_
  refine ret_end ?_
  refine s_take (A := cells b 0 [.slice ao n cap]) (by first | (with_reducible (repeat (first | exact Z0 | apply Z1)); done) | (repeat (first | exact Z0 | apply Z1))) ?_
  refine s_heap (Γ' := cells b 0 [.slice ao (pd l t).length cap] :: _) (fun _ h => (by rw [hpl]; exact h)) ?_
  refine ret0 rfl ((ao, cap)) (by first | rfl | (first | rfl | (congr 1; done) | (congr 1 <;> first | rfl | omega | (simp; done) | (simp; omega)))) (by trivial) ?_
  (repeat ((with_reducible apply Z2); focus (first | (with_reducible (repeat (first | exact Z0 | apply Z1)); done) | (repeat (first | exact Z0 | apply Z1))))); (repeat (first | exact Z3 | exact Takes.self | refine takes_drop2 ?_))

theorem index_spec (os : List K) (bo : Option Addr) (m c : Nat) (A : HProp) (hr : RdS A bo (os.flatMap encP)) (hm : os.length = m) (hb : m ≤ 4000000000) : Spec Try.prog 85 [.slice bo m c, .pointer none] [A] (fun (_ : Unit) => .int .i64 (-1)) (fun _ => True) (fun _ => [A]) := by
 refine spec_mk (n := 19) Try.func85 rfl rfl rfl ?_
 intro Γ w0
 simp only [argE, List.cons_append, List.nil_append, Nat.zero_add, Nat.reduceAdd]
 refine c_seq ?_
 refine c_plain (.q 0 (.done)) (by kernel_rfl) ?_
 refine q_assign rfl rfl rfl rfl ?_
 refine r_done ?_
 refine k_then_n ?_
 refine c_seq ?_
 refine c_seq ?_
 refine c_plain (.q 0 (.q 1 (.q 2 (.done)))) (by kernel_rfl) ?_
 refine q_move rfl rfl rfl rfl ?_
 refine q_len rfl rfl rfl rfl Try.underlying150 ?_
 refine q_move rfl rfl rfl rfl ?_
 refine r_done ?_
 refine k_then_n ?_
 refine c_block ?_
 refine c_loop2 (α := Nat) (fun (i : Nat) => i ≤ m) (fun (i : Nat) => [(8, .int .i64 ((i : Nat) : Int))]) (fun (i : Nat) => []) (fun (i : Nat) => m - i) [0, 1, 7] (er := [(0, _), (1, _), (7, _)]) rfl (0) ?_ (by exact ⟨rfl, trivial⟩) (by (try dsimp only); (try simp only [Nat.add_zero, Nat.zero_add]); (repeat ((with_reducible apply Z2); focus (first | (with_reducible (repeat (first | exact Z0 | apply Z1)); done) | (repeat (first | exact Z0 | apply Z1))))); exact Z3) ?_
 · exact Nat.zero_le _
 rintro i hle_i
 try simp only [List.cons_append, List.nil_append]
 refine c_seq ?_
 refine c_plain (.q 0 (.done)) (by kernel_rfl) ?_
 refine q_int rfl rfl rfl rfl rfl (b_lss _ _ _ _) ?_
 refine r_done ?_
 refine k_then_n ?_
 refine c_seq ?_
 refine c_cond_p rfl (fun hlt => ?_) (fun hlt => ?_)
 ·
  refine c_skip ?_
  refine k_then_n ?_
  refine c_seq ?_
  refine c_block ?_
  refine c_seq ?_
  refine c_plain (.q 0 (.q 1 (.done))) (by kernel_rfl) ?_
  refine q_move rfl rfl rfl rfl ?_
  refine q_assign rfl rfl rfl rfl ?_
  refine r_done ?_
  refine k_then_n ?_
  refine c_seq ?_
  refine c_plain (.q 0 (.q 1 (.q 2 (.q 3 (.q 4 (.q 5 (.done))))))) (by kernel_rfl) ?_
  refine q_move rfl rfl rfl rfl ?_
  refine q_move rfl rfl rfl rfl ?_
  refine q_move rfl rfl rfl rfl ?_
  obtain ⟨x, hx⟩ := get_lt (l := os) (i := i) (by first | omega | (simp; done) | (simp; omega))
  refine q_idxR (sz := 0) (k := i) rfl rfl rfl rfl rfl Try.underlying150 Try.sizeOf82 (hr) hx encP_len (by first | rfl | omega) (by omega) ?_
  intro ib14 io14 _ hd14
  refine q_load rfl rfl rfl rfl Try.isAgg82 (by with_reducible (repeat (first | exact Z0 | apply Z1))) (hd14 0 (.pointer (some ⟨x.1, 0, none⟩)) rfl) ?_
  refine q_eqp rfl rfl rfl rfl rfl Try.underlying82 (by first | exact .inl rfl | exact .inr rfl) ?_
  refine s_eq 16 rfl (v' := .bool false) (by simp) ?_
  refine r_done ?_
  refine s_keep [0, 1, 5, 7, 8, 16] (e' := [(0, _), (1, _), (5, _), (7, _), (8, _), (16, _)]) rfl ?_
  refine k_then_n ?_
  refine c_cond_f rfl ?_
  refine c_skip ?_
  refine k_blk_n ?_
  refine k_then_n ?_
  refine c_plain (.q 0 (.q 1 (.done))) (by kernel_rfl) ?_
  refine q_int rfl rfl rfl rfl rfl (b_add' _ (by exact fits_i64 (by omega) (by omega))) ?_
  refine q_move rfl rfl rfl rfl ?_
  refine r_done ?_
  refine k_then_n ?_
  refine loop_next (x := i) (i + 1) ?_ ?_ ?_ ?_
  · exact by show i + 1 ≤ m; omega
  · show m - (i + 1) < m - i; omega
  · exact ⟨rfl, rfl, rfl, rfl, trivial⟩
  · (try simp only [List.cons_append, List.nil_append]); (repeat ((with_reducible apply Z2); focus (first | (with_reducible (repeat (first | exact Z0 | apply Z1)); done) | (repeat (first | exact Z0 | apply Z1))))); (repeat (first | exact Z3 | exact Takes.self | refine takes_drop2 ?_))
 ·
  refine c_exit ?_
  refine k_then_exit ?_
  refine k_then_exit ?_
  refine k_blk_here ?_
  refine k_then_n ?_
  refine c_seq ?_
  refine c_plain (.q 0 (.done)) (by kernel_rfl) ?_
  refine q_assign rfl rfl rfl rfl ?_
  refine r_done ?_
  refine s_keep [4] (e' := [(4, _)]) rfl ?_
  refine k_then_n ?_
  refine c_ret ?_
  refine ret1 rfl rfl (()) (by first | rfl | (first | rfl | (congr 1; done) | (congr 1 <;> first | rfl | omega | (simp; done) | (simp; omega)))) (by trivial) ?_
  (repeat ((with_reducible apply Z2); focus (first | (with_reducible (repeat (first | exact Z0 | apply Z1)); done) | (repeat (first | exact Z0 | apply Z1))))); (repeat (first | exact Z3 | exact Takes.self | refine takes_drop2 ?_))

theorem contains_spec (os : List K) (bo : Option Addr) (m c : Nat) (A : HProp) (hr : RdS A bo (os.flatMap encP)) (hm : os.length = m) (hb : m ≤ 4000000000) : Spec Try.prog 83 [.slice bo m c, .pointer none] [A] (fun (_ : Unit) => .bool false) (fun _ => True) (fun _ => [A]) := by
 refine spec_mk (n := 9) Try.func83 rfl rfl rfl ?_
 intro Γ w0
 simp only [argE, List.cons_append, List.nil_append, Nat.zero_add, Nat.reduceAdd]
 refine c_seq ?_
 refine c_plain (.q 0 (.done)) (by kernel_rfl) ?_
 refine q_assign rfl rfl rfl rfl ?_
 refine r_done ?_
 refine k_then_n ?_
 refine c_seq ?_
 refine c_plain (.q 0 (.q 1 ((.l 2 [] (.q 3 (.q 4 (.done))))))) (by kernel_rfl) ?_
 refine q_move rfl rfl rfl rfl ?_
 refine q_move rfl rfl rfl rfl ?_
 have sp_1 := index_spec os bo m c A hr hm hb
 refine l_call rfl rfl rfl rfl rfl rfl Try.call85 (sp_1) (by (repeat ((with_reducible apply Z2); focus (first | (with_reducible (repeat (first | exact Z0 | apply Z1)); done) | (repeat (first | exact Z0 | apply Z1))))); exact Z3) ?_
 rintro ⟨⟩ -
 try simp only [List.cons_append, List.nil_append]
 refine ag_nil ?_
 refine q_int rfl rfl rfl rfl rfl (b_geq _ _ _ _) ?_
 refine s_eq 8 rfl (v' := .bool false) (by first | rfl | simp) ?_
 refine q_assign rfl rfl rfl rfl ?_
 refine r_done ?_
 refine s_keep [4] (e' := [(4, _)]) rfl ?_
 refine k_then_n ?_
 refine c_ret ?_
 refine ret1 rfl rfl (()) (by first | rfl | (first | rfl | (congr 1; done) | (congr 1 <;> first | rfl | omega | (simp; done) | (simp; omega)))) (by trivial) ?_
 (repeat ((with_reducible apply Z2); focus (first | (with_reducible (repeat (first | exact Z0 | apply Z1)); done) | (repeat (first | exact Z0 | apply Z1))))); (repeat (first | exact Z3 | exact Takes.self | refine takes_drop2 ?_))
end Go.Ab.Vc
