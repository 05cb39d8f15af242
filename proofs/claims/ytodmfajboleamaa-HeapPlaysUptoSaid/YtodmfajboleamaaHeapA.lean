/- Heaps: the plain law. Lists that are heaps by an order, with the numbers of coming in. -/
import Derived.Test.YtodmfajboleamaaEngH
set_option linter.unusedVariables false
set_option linter.unusedSimpArgs false
namespace Go.Ab
open Go

/-- A strict weak order that is told by a Bool. -/
structure OrdB {τ : Type} (lt : τ → τ → Bool) : Prop where
  asym : ∀ a b, lt a b = true → lt b a = false
  neg : ∀ a b c, lt a b = true → lt a c = true ∨ lt c b = true
/-- ... and of those alike the one that came first. -/
def ltI {τ : Type} (lt : τ → τ → Bool) (a b : τ × Nat) : Bool := lt a.1 b.1 || (!lt b.1 a.1 && decide (a.2 < b.2))
theorem OrdB.irr {τ : Type} {lt : τ → τ → Bool} (h : OrdB lt) (a : τ) : lt a a = false := by
  cases e : lt a a with
  | false => rfl
  | true => rw [← h.asym a a e, e]
theorem OrdB.item {τ : Type} {lt : τ → τ → Bool} (h : OrdB lt) : OrdB (ltI lt) := by
  constructor
  · intro a b
    simp only [ltI, Bool.or_eq_true, Bool.and_eq_true, Bool.not_eq_true', decide_eq_true_eq, Bool.or_eq_false_iff, Bool.and_eq_false_iff, Bool.not_eq_false', decide_eq_false_iff_not]
    rintro (h1 | ⟨h1, h2⟩)
    · exact ⟨h.asym _ _ h1, .inl h1⟩
    · exact ⟨h1, .inr (by omega)⟩
  · intro a b c
    simp only [ltI, Bool.or_eq_true, Bool.and_eq_true, Bool.not_eq_true', decide_eq_true_eq]
    rintro (h1 | ⟨h1, h2⟩)
    · rcases h.neg _ _ c.1 h1 with h3 | h3
      · exact .inl (.inl h3)
      · exact .inr (.inl h3)
    · by_cases h3 : lt a.1 c.1 = true
      · exact .inl (.inl h3)
      · by_cases h4 : lt c.1 b.1 = true
        · exact .inr (.inl h4)
        · have h3 : lt a.1 c.1 = false := by simpa using h3
          have h4 : lt c.1 b.1 = false := by simpa using h4
          have h5 : lt c.1 a.1 = false := by
            cases e : lt c.1 a.1 with
            | false => rfl
            | true => rcases h.neg _ _ b.1 e with h6 | h6 <;> simp_all
          have h6 : lt b.1 c.1 = false := by
            cases e : lt b.1 c.1 with
            | false => rfl
            | true => rcases h.neg _ _ a.1 e with h6 | h6 <;> simp_all
          by_cases h7 : a.2 < c.2
          · exact .inl (.inr ⟨h5, h7⟩)
          · exact .inr (.inr ⟨h6, by omega⟩)
theorem OrdB.ntrans {τ : Type} {lt : τ → τ → Bool} (h : OrdB lt) {a b c : τ} (h1 : lt a b = false) (h2 : lt b c = false) : lt a c = false := by
  cases e : lt a c with
  | false => rfl
  | true => rcases h.neg _ _ b e with h3 | h3 <;> simp_all

section
variable {α : Type} (lt : α → α → Bool)
/-- No item is ahead of the one over it. -/
def HO (l : List α) : Prop := ∀ i x y, 0 < i → l[i]? = some x → l[(i - 1) / 2]? = some y → lt x y = false
/-- ... but perhaps the one at i, of the one over it; those under i are not ahead of the one over i. -/
def HOup (l : List α) (i : Nat) : Prop := (∀ j x y, 0 < j → j ≠ i → l[j]? = some x → l[(j - 1) / 2]? = some y → lt x y = false) ∧
  (∀ j x y, 0 < j → 0 < i → (j - 1) / 2 = i → l[j]? = some x → l[(i - 1) / 2]? = some y → lt x y = false)
/-- ... but perhaps those under i, of it; they are not ahead of the one over i. -/
def HOdn (l : List α) (i : Nat) : Prop := (∀ j x y, 0 < j → (j - 1) / 2 ≠ i → l[j]? = some x → l[(j - 1) / 2]? = some y → lt x y = false) ∧
  (∀ j x y, 0 < j → 0 < i → (j - 1) / 2 = i → l[j]? = some x → l[(i - 1) / 2]? = some y → lt x y = false)
def swp (l : List α) (i j : Nat) : List α := match l[i]?, l[j]? with
  | some x, some y => (l.set i y).set j x
  | _, _ => l
variable {lt}
theorem swp_eq {l : List α} {i j : Nat} {x y : α} (hi : l[i]? = some x) (hj : l[j]? = some y) : swp l i j = (l.set i y).set j x := by simp [swp, hi, hj]
theorem swp_len (l : List α) (i j : Nat) : (swp l i j).length = l.length := by
  unfold swp; split <;> simp
theorem swp_get {l : List α} {i j k : Nat} {x y : α} (hi : l[i]? = some x) (hj : l[j]? = some y) : (swp l i j)[k]? = if k = j then some x else if k = i then some y else l[k]? := by
  have h1 : i < l.length := (List.getElem?_eq_some_iff.1 hi).1
  have h2 : j < l.length := (List.getElem?_eq_some_iff.1 hj).1
  rw [swp_eq hi hj, List.getElem?_set]
  by_cases hk : k = j
  · subst hk; simp [h2]
  · rw [if_neg (Ne.symm hk), if_neg hk, List.getElem?_set]
    by_cases hk2 : k = i
    · subst hk2; simp [h1]
    · rw [if_neg (Ne.symm hk2), if_neg hk2]
theorem swp_perm (l : List α) (i j : Nat) : (swp l i j).Perm l := by
  unfold swp
  split
  · rename_i x y hi hj
    have h1 : i < l.length := (List.getElem?_eq_some_iff.1 hi).1
    have h2 : j < l.length := (List.getElem?_eq_some_iff.1 hj).1
    have hx : l[i] = x := (List.getElem?_eq_some_iff.1 hi).2
    have hy : l[j] = y := (List.getElem?_eq_some_iff.1 hj).2
    subst hx hy
    exact List.set_set_perm h1 h2
  · exact List.Perm.refl _
theorem ho_up_start {l : List α} {x : α} (h : HO lt l) : HOup lt (l ++ [x]) l.length := by
  refine ⟨fun j u v hj hne hu hv => ?_, fun j u v hj hi hp hu hv => ?_⟩
  · have hlt : j < (l ++ [x]).length := (List.getElem?_eq_some_iff.1 hu).1
    have hlt' : j < l.length := by simp at hlt; omega
    rw [List.getElem?_append_left hlt'] at hu
    rw [List.getElem?_append_left (by omega)] at hv
    exact h j u v hj hu hv
  · have hlt : j < (l ++ [x]).length := (List.getElem?_eq_some_iff.1 hu).1
    simp at hlt; omega
theorem ho_up_done {l : List α} {i : Nat} (h : HOup lt l i) (hd : i = 0 ∨ ∀ x y, l[i]? = some x → l[(i - 1) / 2]? = some y → lt x y = false) : HO lt l := by
  intro j x y hj hx hy
  by_cases hji : j = i
  · subst hji
    rcases hd with h0 | h0
    · omega
    · exact h0 x y hx hy
  · exact h.1 j x y hj hji hx hy
theorem ho_up_next {l : List α} {i : Nat} {x y : α} (o : OrdB lt) (h : HOup lt l i) (hi : 0 < i) (hx : l[i]? = some x) (hy : l[(i - 1) / 2]? = some y) (hlt : lt x y = true) : HOup lt (swp l i ((i - 1) / 2)) ((i - 1) / 2) := by
  have hne : i ≠ (i - 1) / 2 := by omega
  refine ⟨fun j u v hj hjne hu hv => ?_, fun j u v hj hp0 hpar hu hv => ?_⟩
  · rw [swp_get hx hy] at hu hv
    rw [if_neg hjne] at hu
    by_cases hji : j = i
    · subst hji
      simp at hu hv; subst hu hv
      exact o.asym _ _ hlt
    · rw [if_neg hji] at hu
      by_cases h1 : (j - 1) / 2 = (i - 1) / 2
      · rw [if_pos h1] at hv; simp at hv; subst hv
        -- u under y, x before y
        have h2 := h.1 j u y hj hji hu (by rw [h1]; exact hy)
        have h3 := o.asym _ _ hlt
        cases e : lt u x with
        | false => rfl
        | true => rcases o.neg _ _ y e with h4 | h4 <;> simp_all
      · rw [if_neg h1] at hv
        by_cases h2 : (j - 1) / 2 = i
        · rw [if_pos h2] at hv; simp at hv; subst hv
          exact h.2 j u y hj hi h2 hu hy
        · rw [if_neg h2] at hv
          exact h.1 j u v hj hji hu hv
  · rw [swp_get hx hy] at hu hv
    have h0 : ((i - 1) / 2 - 1) / 2 ≠ (i - 1) / 2 := by omega
    have h0' : ((i - 1) / 2 - 1) / 2 ≠ i := by omega
    rw [if_neg h0, if_neg h0'] at hv
    have hyv := h.1 ((i - 1) / 2) y v hp0 (by omega) hy hv
    by_cases hji : j = i
    · subst hji
      rw [if_neg hne, if_pos rfl] at hu; cases hu
      exact hyv
    · rw [if_neg (by omega), if_neg hji] at hu
      exact o.ntrans (h.1 j u y hj hji hu (by rw [hpar]; exact hy)) hyv
/-- In a heap the first is ahead of all. -/
theorem ho_first {l : List α} {x0 : α} (o : OrdB lt) (h : HO lt l) (h0 : l[0]? = some x0) : ∀ (i : Nat) x, l[i]? = some x → lt x x0 = false := by
  intro i
  induction i using Nat.strongRecOn with
  | _ i ih =>
    intro x hx
    by_cases hi : i = 0
    · subst hi; rw [h0] at hx; cases hx; exact o.irr _
    · have hlt : i < l.length := (List.getElem?_eq_some_iff.1 hx).1
      have hp : l[(i - 1) / 2]? = some l[(i - 1) / 2] := List.getElem?_eq_getElem (by omega)
      exact o.ntrans (h i x _ (by omega) hx hp) (ih ((i - 1) / 2) (by omega) _ hp)
theorem ho_dn_start {l : List α} {n : Nat} {x : α} (h : HO lt l) (hn : l.length = n + 1) : HOdn lt ((l.set 0 x).take n) 0 := by
  refine ⟨fun j u v hj hp hu hv => ?_, fun j u v hj hi => by omega⟩
  have hlt : j < ((l.set 0 x).take n).length := (List.getElem?_eq_some_iff.1 hu).1
  simp only [List.length_take, List.length_set] at hlt
  rw [List.getElem?_take, if_pos (by omega), List.getElem?_set_ne (by omega)] at hu
  rw [List.getElem?_take, if_pos (by omega), List.getElem?_set_ne (by omega)] at hv
  exact h j u v hj hu hv
/-- The place k is i, or the one under i that is ahead. -/
theorem ho_dn_done {l : List α} {i : Nat} (h : HOdn lt l i) (hd : ∀ j x y, 0 < j → (j - 1) / 2 = i → l[j]? = some x → l[i]? = some y → lt x y = false) : HO lt l := by
  intro j x y hj hx hy
  by_cases hp : (j - 1) / 2 = i
  · exact hd j x y hj hp hx (by rw [← hp]; exact hy)
  · exact h.1 j x y hj hp hx hy
theorem ho_dn_next {l : List α} {i k : Nat} {x y : α} (o : OrdB lt) (h : HOdn lt l i) (hk : 0 < k) (hki : (k - 1) / 2 = i) (hx : l[i]? = some x) (hy : l[k]? = some y) (hlt : lt y x = true)
    (hmin : ∀ j u, 0 < j → (j - 1) / 2 = i → l[j]? = some u → lt u y = false) : HOdn lt (swp l i k) k := by
  have hne : i ≠ k := by omega
  refine ⟨fun j u v hj hp hu hv => ?_, fun j u v hj hk0 hpar hu hv => ?_⟩
  · rw [swp_get hx hy] at hu hv
    rw [if_neg hp] at hv
    by_cases hjk : j = k
    · subst hjk
      rw [if_pos rfl] at hu; cases hu
      rw [if_pos hki] at hv; cases hv
      exact o.asym _ _ hlt
    · rw [if_neg hjk] at hu
      by_cases hji : j = i
      · subst hji
        rw [if_pos rfl] at hu; cases hu
        rw [if_neg (by omega)] at hv
        exact h.2 k y v hk hj hki hy hv
      · rw [if_neg hji] at hu
        by_cases h1 : (j - 1) / 2 = i
        · rw [if_pos h1] at hv; cases hv
          exact hmin j u hj h1 hu
        · rw [if_neg h1] at hv
          exact h.1 j u v hj h1 hu hv
  · rw [swp_get hx hy] at hu hv
    rw [if_neg (by omega), if_neg (by omega)] at hu
    rw [if_neg (by omega), if_pos hki] at hv; cases hv
    exact h.1 j u y hj (by omega) hu (by rw [hpar]; exact hy)
end

/-- What a heap holds: a heap's order, numbers of coming in below the next one, each once. -/
structure HInv {τ : Type} (lt : τ → τ → Bool) (its : List (τ × Nat)) (made : Nat) : Prop where
  ho : HO (ltI lt) its
  below : ∀ x ∈ its, x.2 < made
  nodup : (its.map (·.2)).Nodup
theorem HInv.nil {τ : Type} (lt : τ → τ → Bool) (made : Nat) : HInv lt [] made := ⟨fun i x y _ h => by simp at h, fun x h => (by cases h), by simp⟩
theorem HInv.of_perm {τ : Type} {lt : τ → τ → Bool} {l l' : List (τ × Nat)} {m : Nat} (h : HO (ltI lt) l) (p : l.Perm l') (hb : ∀ x ∈ l', x.2 < m) (hn : (l'.map (·.2)).Nodup) : HInv lt l m :=
  ⟨h, fun x hx => hb x (p.mem_iff.1 hx), (p.map _).nodup_iff.2 hn⟩

/-- Of i and those under i up to j the best is k. -/
structure Best {α : Type} (lt : α → α → Bool) (l : List α) (i j k : Nat) : Prop where
  at_ : k = i ∨ (2 * i + 1 ≤ k ∧ k < j ∧ k ≤ 2 * i + 2 ∧ k < l.length ∧ ∀ x y, l[k]? = some y → l[i]? = some x → lt y x = true)
  min : ∀ q u y, (q = i ∨ (2 * i + 1 ≤ q ∧ q < j)) → l[q]? = some u → l[k]? = some y → lt u y = false
theorem OrdB.trans {α : Type} {lt : α → α → Bool} (o : OrdB lt) {a b c : α} (h1 : lt a b = true) (h2 : lt b c = true) : lt a c = true := by
  rcases o.neg _ _ c h1 with h | h
  · exact h
  · rw [o.asym _ _ h2] at h; cases h
theorem best_start {α : Type} {lt : α → α → Bool} (o : OrdB lt) (l : List α) (i : Nat) : Best lt l i (2 * i + 1) i := by
  refine ⟨.inl rfl, ?_⟩
  rintro q u y (rfl | h) hu hy
  · rw [hu] at hy; cases hy; exact o.irr _
  · omega
theorem best_t {α : Type} {lt : α → α → Bool} (o : OrdB lt) {l : List α} {i j k : Nat} {x y : α} (b : Best lt l i j k) (hx : l[j]? = some x) (hy : l[k]? = some y) (h1 : 2 * i + 1 ≤ j) (h2 : j ≤ 2 * i + 2) (h : lt x y = true) : Best lt l i (j + 1) j := by
  have hj : j < l.length := (List.getElem?_eq_some_iff.1 hx).1
  refine ⟨.inr ⟨h1, by omega, h2, hj, fun p q hq hp => ?_⟩, ?_⟩
  · rw [hx] at hq; cases hq
    rcases b.at_ with rfl | ⟨-, -, -, -, h3⟩
    · rw [hy] at hp; cases hp; exact h
    · exact o.trans h (h3 p y hy hp)
  · intro q u z hq hu hz
    rw [hx] at hz; cases hz
    by_cases hqj : q = j
    · subst hqj; rw [hx] at hu; cases hu; exact o.irr _
    · have h4 := b.min q u y (by omega) hu hy
      cases e : lt u x with
      | false => rfl
      | true => rcases o.neg _ _ y e with h5 | h5
                · rw [h4] at h5; cases h5
                · rw [o.asym _ _ h] at h5; cases h5
theorem best_f {α : Type} {lt : α → α → Bool} {l : List α} {i j k : Nat} {x y : α} (b : Best lt l i j k) (hx : l[j]? = some x) (hy : l[k]? = some y) (h : lt x y = false) : Best lt l i (j + 1) k := by
  refine ⟨?_, ?_⟩
  · rcases b.at_ with h1 | ⟨h1, h2, h3⟩
    · exact .inl h1
    · exact .inr ⟨h1, by omega, h3⟩
  · intro q u z hq hu hz
    by_cases hqj : q = j
    · subst hqj; rw [hx] at hu; cases hu; rw [hy] at hz; cases hz; exact h
    · exact b.min q u z (by omega) hu hz
theorem best_done {α : Type} {lt : α → α → Bool} {l : List α} {i j : Nat} (b : Best lt l i j i) (hj : 2 * i + 2 < j ∨ l.length ≤ j) (h : HOdn lt l i) : HO lt l :=
  ho_dn_done h fun q x y hq hp hx hy => b.min q x y (by
    have : q < l.length := (List.getElem?_eq_some_iff.1 hx).1
    omega) hx hy
theorem best_next {α : Type} {lt : α → α → Bool} (o : OrdB lt) {l : List α} {i j k : Nat} {x y : α} (b : Best lt l i j k) (hj : 2 * i + 2 < j ∨ l.length ≤ j) (h : HOdn lt l i) (hk : k ≠ i) (hx : l[i]? = some x) (hy : l[k]? = some y) : HOdn lt (swp l i k) k := by
  rcases b.at_ with h1 | ⟨h1, h2, h3, h4, h5⟩
  · exact absurd h1 hk
  · exact ho_dn_next o h (by omega) (by omega) hx hy (h5 x y hy hx) fun q u hq hp hu => b.min q u y (by
      have : q < l.length := (List.getElem?_eq_some_iff.1 hu).1
      omega) hu hy
theorem pop_perm {α : Type} {l : List α} {n : Nat} {x z : α} (h0 : l[0]? = some x) (hn : l.length = n + 1) (hz : l[n]? = some z) : (x :: (l.set 0 z).take n).Perm l := by
  cases l with
  | nil => simp at h0
  | cons a r =>
    simp at h0; subst h0
    simp at hn
    cases n with
    | zero => obtain rfl := List.eq_nil_of_length_eq_zero hn; simp
    | succ n =>
      simp at hz
      have h1 : r = r.take n ++ [z] := by
        have h2 : r.take (n + 1) = r.take n ++ [z] := by rw [List.take_add_one, hz]; rfl
        rw [← h2, List.take_of_length_le (by omega)]
      simp only [List.set_cons_zero, List.take_succ_cons, List.perm_cons]
      conv => rhs; rw [h1]
      exact (List.perm_append_singleton z _).symm
theorem hinv_pop {τ : Type} {lt : τ → τ → Bool} {its l : List (τ × Nat)} {made : Nat} {x : τ × Nat} (h : HInv lt its made) (ho : HO (ltI lt) l) (p : (x :: l).Perm its) : HInv lt l made := by
  have hn := (p.map (·.2)).nodup_iff.2 h.nodup
  exact ⟨ho, fun y hy => h.below y (p.mem_iff.1 (List.mem_cons_of_mem _ hy)), (List.nodup_cons.1 hn).2⟩
/-- The first of a heap is ahead of all others. -/
theorem hinv_least {τ : Type} {lt : τ → τ → Bool} (o : OrdB lt) {its : List (τ × Nat)} {made : Nat} {x : τ × Nat} (h : HInv lt its made) (h0 : its.head? = some x) : ∀ y ∈ its, ltI lt y x = false := by
  intro y hy
  obtain ⟨i, hi⟩ := List.getElem?_of_mem hy
  exact ho_first o.item h.ho (by rw [← List.head?_eq_getElem?]; exact h0) i y hi
end Go.Ab
