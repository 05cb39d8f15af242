/- The engine, part A: a logical heap over the model's world, lists of resources, and how stores, allocations and draws turn them. -/
import Derived.RangeFuncLeaves
import Derived.RangeFuncRecord
import Derived.OrdersIn
import Derived.Below
import Derived.KernelRfl
set_option linter.unusedVariables false
set_option linter.unusedSimpArgs false
namespace Go.Ab
open Go

/-- A location: a cell (block, offset), or a whole object (block). -/
abbrev Loc := Nat × Option Nat
/-- What lies there: a cell's value and whether it is frozen; an object that is no row of cells; or a row's head (element's type, size, what is frozen). -/
abbrev LV := (Value × Bool) ⊕ (Obj ⊕ (Nat × Nat × Nat × Nat))
abbrev Hp := Loc → Option LV
abbrev HProp := Hp → Prop

def lhC (b o : Nat) : Option Obj → Option LV
  | some (.cells c _ (lo, hi)) => (c[o]?).map fun v => .inl (v, decide (lo ≤ o) && decide (o < hi))
  | _ => none
def lhO : Option Obj → Option LV
  | some (.cells c t (lo, hi)) => some (.inr (.inr (t, c.size, lo, hi)))
  | some o => some (.inr (.inl o))
  | none => none
/-- The world's heap as a function, defined where a cell is. -/
def lh (w : World) : Hp := fun l => match l with
  | (b, some o) => lhC b o (w.heap[b]?)
  | (b, none) => lhO (w.heap[b]?)

def Hle (h h' : Hp) : Prop := ∀ l v, h l = some v → h' l = some v
def Hmin (h h1 : Hp) : Hp := fun l => if (h1 l).isSome then none else h l
def Hset (h : Hp) (l : Loc) (v : LV) : Hp := fun k => if k = l then some v else h k
def Hun (h h' : Hp) : Hp := fun l => (h l).orElse fun _ => h' l

theorem Hle.refl (h : Hp) : Hle h h := fun _ _ x => x
theorem Hle.trans {a b c : Hp} (h : Hle a b) (k : Hle b c) : Hle a c := fun l v x => k l v (h l v x)
theorem Hmin_some {h h1 : Hp} {l : Loc} {v : LV} : Hmin h h1 l = some v ↔ h1 l = none ∧ h l = some v := by
  unfold Hmin
  cases h1 l <;> simp
theorem Hmin_le (h h1 : Hp) : Hle (Hmin h h1) h := fun l v x => (Hmin_some.1 x).2
theorem Hmin_mono {h h' : Hp} (k : Hle h h') (h1 : Hp) : Hle (Hmin h h1) (Hmin h' h1) := fun l v x =>
  Hmin_some.2 ⟨(Hmin_some.1 x).1, k l v (Hmin_some.1 x).2⟩
theorem Hmin_anti {h h1 h2 : Hp} (k : Hle h1 h2) : Hle (Hmin h h2) (Hmin h h1) := fun l v x => by
  refine Hmin_some.2 ⟨?_, (Hmin_some.1 x).2⟩
  cases e : h1 l with
  | none => rfl
  | some u => have := k l u e; rw [(Hmin_some.1 x).1] at this; cases this

/-- The resources of a list hold of disjoint parts of the heap; what is over is let go. -/
def Sat : List HProp → Hp → Prop
  | [], _ => True
  | A :: Γ, h => ∃ h1, Hle h1 h ∧ A h1 ∧ Sat Γ (Hmin h h1)

theorem Sat.mono {Γ : List HProp} : ∀ {h h' : Hp}, Sat Γ h → Hle h h' → Sat Γ h' := by
  induction Γ with
  | nil => intros; trivial
  | cons A Γ ih =>
    rintro h h' ⟨h1, l1, a1, s⟩ k
    exact ⟨h1, l1.trans k, a1, ih s (Hmin_mono k h1)⟩

theorem Sat.swap {A B : HProp} {Γ : List HProp} {h : Hp} (s : Sat (A :: B :: Γ) h) : Sat (B :: A :: Γ) h := by
  obtain ⟨h1, l1, a1, h2, l2, a2, s⟩ := s
  refine ⟨h2, l2.trans (Hmin_le _ _), a2, h1, fun l v x => Hmin_some.2 ⟨?_, l1 l v x⟩, a1, s.mono fun l v x => ?_⟩
  · cases e : h2 l with
    | none => rfl
    | some u => have := (Hmin_some.1 (l2 l u e)).1; rw [x] at this; cases this
  · obtain ⟨e2, x⟩ := Hmin_some.1 x
    obtain ⟨e1, x⟩ := Hmin_some.1 x
    exact Hmin_some.2 ⟨e1, Hmin_some.2 ⟨e2, x⟩⟩

/-- A resource taken out of a list. -/
def Take (Γ : List HProp) (A : HProp) (Γ' : List HProp) : Prop := ∀ h, Sat Γ h → Sat (A :: Γ') h
theorem Take.here {A : HProp} {Γ : List HProp} : Take (A :: Γ) A Γ := fun _ s => s
theorem Take.there {A B : HProp} {Γ Γ' : List HProp} (t : Take Γ A Γ') : Take (B :: Γ) A (B :: Γ') := fun h s => by
  obtain ⟨h1, l1, b1, s⟩ := s
  exact Sat.swap ⟨h1, l1, b1, t _ s⟩
/-- Several, one after the other. -/
def Takes (Γ Δ Γ' : List HProp) : Prop := ∀ h, Sat Γ h → Sat (Δ ++ Γ') h
theorem Takes.nil {Γ : List HProp} : Takes Γ [] Γ := fun _ s => s
theorem Takes.cons {Γ Γ1 Γ' Δ : List HProp} {A : HProp} (t : Take Γ A Γ1) (u : Takes Γ1 Δ Γ') : Takes Γ (A :: Δ) Γ' := fun h s => by
  obtain ⟨h1, l1, a1, s⟩ := t h s
  exact ⟨h1, l1, a1, u _ s⟩
theorem Z0 {A : HProp} {Γ : List HProp} : Take (A :: Γ) A Γ := Take.here
theorem Z1 {A B : HProp} {Γ Γ' : List HProp} (t : Take Γ A Γ') : Take (B :: Γ) A (B :: Γ') := t.there
theorem Z2 {Γ Γ1 Γ' Δ : List HProp} {A : HProp} (t : Take Γ A Γ1) (u : Takes Γ1 Δ Γ') : Takes Γ (A :: Δ) Γ' := Takes.cons t u
theorem Z3 {Γ : List HProp} : Takes Γ [] Γ := Takes.nil
theorem Takes.self {Γ : List HProp} : Takes Γ Γ [] := fun h s => by simpa using s
theorem Takes.all {Γ : List HProp} {Γ'} (h : Γ = Γ') : Takes Γ [] Γ' := h ▸ Takes.nil

theorem Sat.cons_mono {A : HProp} {Γ Γ' : List HProp} (k : ∀ h, Sat Γ h → Sat Γ' h) {h : Hp} (s : Sat (A :: Γ) h) : Sat (A :: Γ') h := by
  obtain ⟨h1, l1, a1, s⟩ := s
  exact ⟨h1, l1, a1, k _ s⟩
theorem Sat.head_mono {A B : HProp} {Γ : List HProp} (k : ∀ h, A h → B h) {h : Hp} (s : Sat (A :: Γ) h) : Sat (B :: Γ) h := by
  obtain ⟨h1, l1, a1, s⟩ := s
  exact ⟨h1, l1, k _ a1, s⟩
theorem Sat.tail {A : HProp} {Γ : List HProp} {h : Hp} (s : Sat (A :: Γ) h) : Sat Γ h := by
  obtain ⟨h1, l1, a1, s⟩ := s
  exact s.mono (Hmin_le _ _)
theorem Sat.head {A : HProp} {Γ : List HProp} {h : Hp} (s : Sat (A :: Γ) h) : ∃ h1, Hle h1 h ∧ A h1 := by
  obtain ⟨h1, l1, a1, s⟩ := s
  exact ⟨h1, l1, a1⟩
theorem Sat.drop_right {Γ Δ : List HProp} {h : Hp} (s : Sat (Γ ++ Δ) h) : Sat Γ h := by
  induction Γ generalizing h with
  | nil => trivial
  | cons A Γ ih => obtain ⟨h1, l1, a1, s⟩ := s; exact ⟨h1, l1, a1, ih s⟩
theorem Sat.drop_left {Γ Δ : List HProp} {h : Hp} (s : Sat (Γ ++ Δ) h) : Sat Δ h := by
  induction Γ generalizing h with
  | nil => exact s
  | cons A Γ ih => exact ih s.tail

/-- A bundle: several resources as one. -/
def Bun (Γ : List HProp) : HProp := fun h => Sat Γ h
theorem Bun.unfold {Γ Δ : List HProp} : ∀ {h : Hp}, Sat (Bun Γ :: Δ) h → Sat (Γ ++ Δ) h := by
  induction Γ with
  | nil => intro h s; exact s.tail
  | cons A Γ ih =>
    rintro h ⟨h1, l1, ⟨h2, l2, a2, s2⟩, s⟩
    refine ⟨h2, l2.trans l1, a2, ih ⟨Hmin h1 h2, Hmin_mono l1 h2, s2, s.mono fun l v x => ?_⟩⟩
    obtain ⟨e1, x⟩ := Hmin_some.1 x
    refine Hmin_some.2 ⟨?_, Hmin_some.2 ⟨?_, x⟩⟩
    · unfold Hmin; rw [e1]; split <;> rfl
    · cases e : h2 l with
      | none => rfl
      | some u => have := l2 l u e; rw [e1] at this; cases this
theorem Bun.fold {Γ Δ : List HProp} : ∀ {h : Hp}, Sat (Γ ++ Δ) h → Sat (Bun Γ :: Δ) h := by
  induction Γ with
  | nil => intro h s; exact ⟨fun _ => none, fun _ _ x => (by cases x), trivial, s.mono fun l v x => Hmin_some.2 ⟨rfl, x⟩⟩
  | cons A Γ ih =>
    rintro h ⟨h1, l1, a1, s⟩
    obtain ⟨h2, l2, a2, s⟩ := ih s
    have d : ∀ l v, h2 l = some v → h1 l = none := fun l v x => (Hmin_some.1 (l2 l v x)).1
    refine ⟨Hun h1 h2, fun l v x => ?_, ⟨h1, fun l v x => by simp [Hun, x], a1, Sat.mono a2 fun l v x => Hmin_some.2 ⟨d l v x, by simp [Hun, d l v x, x]⟩⟩, s.mono fun l v x => ?_⟩
    · unfold Hun at x
      cases e : h1 l with
      | none => simp [e] at x; exact (l2.trans (Hmin_le _ _)) l v x
      | some u => simp [e] at x; subst x; exact l1 l u e
    · obtain ⟨e2, x⟩ := Hmin_some.1 x
      obtain ⟨e1, x⟩ := Hmin_some.1 x
      exact Hmin_some.2 ⟨by simp [Hun, e1, e2], x⟩

/-- A resource that hangs on something unknown. -/
theorem Sat.ex {α : Type _} {A : α → HProp} {Γ : List HProp} {h : Hp} (s : Sat ((fun h => ∃ x, A x h) :: Γ) h) : ∃ x, Sat (A x :: Γ) h := by
  obtain ⟨h1, l1, ⟨x, a1⟩, s⟩ := s
  exact ⟨x, h1, l1, a1, s⟩
theorem Sat.pure_and {p : Prop} {A : HProp} {Γ : List HProp} {h : Hp} (s : Sat ((fun h => p ∧ A h) :: Γ) h) : p ∧ Sat (A :: Γ) h := by
  obtain ⟨h1, l1, ⟨hp, a1⟩, s⟩ := s
  exact ⟨hp, h1, l1, a1, s⟩

/-! ### The primitive resources -/
/-- Cells of a block, from an offset on, none of them frozen. -/
def cells (b off : Nat) (vs : List Value) : HProp := fun h => ∀ (i : Nat) v, vs[i]? = some v → h (b, some (off + i)) = some (.inl (v, false))
/-- An object that is no row of cells. -/
def objP (b : Nat) (o : Obj) : HProp := fun h => h (b, none) = some (.inr (.inl o))
/-- All that the heap of w0 held. -/
def base (w0 : World) : HProp := fun h => ∀ l v, lh w0 l = some v → h l = some v
/-- A resource tells what a cell reads as. -/
def Rd (A : HProp) (b o : Nat) (v : Value) : Prop := ∀ h, A h → ∃ fr, h (b, some o) = some (.inl (v, fr))

theorem rd_cells {b off : Nat} {vs : List Value} {i : Nat} {v : Value} (h : vs[i]? = some v) : Rd (cells b off vs) b (off + i) v := fun hp c => ⟨false, c i v h⟩
theorem rd_base {w0 : World} {b o : Nat} {v : Value} (h : w0.cell? ⟨b, o, none⟩ = some v) : Rd (base w0) b o v := fun hp c => by
  unfold World.cell? at h
  simp only [Option.isSome_none, Bool.false_eq_true, if_false] at h
  cases hb : w0.heap[b]? with
  | none => simp [hb] at h
  | some x =>
    cases x with
    | cells cs t fr =>
      obtain ⟨lo, hi⟩ := fr
      simp only [hb] at h
      exact ⟨decide (lo ≤ o) && decide (o < hi), c (b, some o) (.inl (v, decide (lo ≤ o) && decide (o < hi))) (by simp only [lh, lhC, hb, h, Option.map_some])⟩
    | _ => simp [hb] at h

theorem lh_cell {w : World} {b o : Nat} {v : Value} {fr : Bool} (h : lh w (b, some o) = some (.inl (v, fr))) : w.cell? ⟨b, o, none⟩ = some v ∧ w.frozen? ⟨b, o, none⟩ = fr := by
  simp only [lh] at h
  unfold World.cell? World.frozen?
  cases hb : w.heap[b]? with
  | none => simp [hb, lhC] at h
  | some x =>
    cases x with
    | cells cs t f =>
      obtain ⟨lo, hi⟩ := f
      simp only [hb, lhC] at h
      cases hc : cs[o]? with
      | none => simp [hc] at h
      | some u => simp [hc] at h; obtain ⟨rfl, rfl⟩ := h; simp [hc]
    | _ => simp [hb, lhC] at h
theorem lh_obj {w : World} {b : Nat} {o : Obj} (h : lh w (b, none) = some (.inr (.inl o))) : w.heap[b]? = some o ∧ (∀ c t f, o ≠ .cells c t f) := by
  simp only [lh] at h
  cases hb : w.heap[b]? with
  | none => simp [hb, lhO] at h
  | some x => cases x <;> simp [hb, lhO] at h <;> (subst h; exact ⟨rfl, fun _ _ _ e => by cases e⟩)
theorem Rd.world {A : HProp} {b o : Nat} {v : Value} {Γ : List HProp} {w : World} (r : Rd A b o v) (s : Sat (A :: Γ) (lh w)) : w.cell? ⟨b, o, none⟩ = some v := by
  obtain ⟨h1, l1, a1⟩ := s.head
  obtain ⟨fr, e⟩ := r _ a1
  exact (lh_cell (l1 _ _ e)).1

/-- The world's heap changes at one location alone, which a resource owns. -/
theorem Sat.update {A B : HProp} {Γ : List HProp} {h h' : Hp} {l : Loc} {u : LV} (s : Sat (A :: Γ) h)
    (ho : ∀ h1, A h1 → (∃ v, h1 l = some v) ∧ B (Hset h1 l u)) (he : h' = Hset h l u) : Sat (B :: Γ) h' := by
  obtain ⟨h1, l1, a1, s⟩ := s
  obtain ⟨⟨v, hv⟩, b1⟩ := ho h1 a1
  subst he
  refine ⟨Hset h1 l u, fun k x e => ?_, b1, s.mono fun k x e => ?_⟩
  · unfold Hset at e ⊢
    split at e
    · rename_i hk; rw [if_pos hk]; exact e
    · rename_i hk; rw [if_neg hk]; exact l1 k x e
  · obtain ⟨e1, e2⟩ := Hmin_some.1 e
    have hk : k ≠ l := fun hk => by subst hk; rw [hv] at e1; cases e1
    exact Hmin_some.2 ⟨by unfold Hset; rw [if_neg hk]; exact e1, by unfold Hset; rw [if_neg hk]; exact e2⟩
/-- The heap has grown. -/
theorem Sat.grown {B : HProp} {Γ : List HProp} {h h' h1 : Hp} (s : Sat Γ h) (hb : B h1) (l1 : Hle h1 h') (l2 : Hle h h') (hd : ∀ l v, h1 l = some v → h l = none) : Sat (B :: Γ) h' := by
  refine ⟨h1, l1, hb, s.mono fun l v e => Hmin_some.2 ⟨?_, l2 l v e⟩⟩
  cases e1 : h1 l with
  | none => rfl
  | some u => rw [hd l u e1] at e; cases e

theorem lh_setCell {w : World} {b o : Nat} {u : Value} {fr : Bool} (v : Value) (h : lh w (b, some o) = some (.inl (u, fr))) : lh (w.setCell ⟨b, o, none⟩ v) = Hset (lh w) (b, some o) (.inl (v, fr)) := by
  have hb : ∃ cs t lo hi, w.heap[b]? = some (.cells cs t (lo, hi)) ∧ cs[o]? = some u ∧ (decide (lo ≤ o) && decide (o < hi)) = fr := by
    simp only [lh] at h
    cases hb : w.heap[b]? with
    | none => simp [hb, lhC] at h
    | some x =>
      cases x with
      | cells cs t f =>
        obtain ⟨lo, hi⟩ := f
        simp only [hb, lhC] at h
        cases hc : cs[o]? with
        | none => simp [hc] at h
        | some u' => simp [hc] at h; obtain ⟨rfl, rfl⟩ := h; exact ⟨cs, t, lo, hi, rfl, hc, by simp⟩
      | _ => simp [hb, lhC] at h
  obtain ⟨cs, t, lo, hi, hb, hc, hf⟩ := hb
  have ho : o < cs.size := by
    rcases Nat.lt_or_ge o cs.size with h' | h'
    · exact h'
    · rw [Array.getElem?_eq_none h'] at hc; cases hc
  have key : ∀ k : Nat, (w.setCell ⟨b, o, none⟩ v).heap[k]? = if k = b then some (.cells (cs.setIfInBounds o v) t (lo, hi)) else w.heap[k]? := by
    intro k
    simp only [World.setCell, Array.getElem?_modify]
    by_cases hk : k = b
    · subst hk; simp [hb]
    · rw [if_neg (Ne.symm hk), if_neg hk]
  funext l
  obtain ⟨k, x⟩ := l
  cases x with
  | none =>
    have hx : ((k, none) : Loc) ≠ (b, some o) := by simp
    simp only [lh, Hset, if_neg hx]
    rw [key k]
    by_cases hk : k = b
    · subst hk; simp [hb, lhO]
    · rw [if_neg hk]
  | some i =>
    simp only [lh, Hset]
    rw [key k]
    by_cases hk : k = b
    · subst hk
      simp only [if_true, lhC, hb]
      by_cases hi' : i = o
      · subst hi'; simp [ho, hf]
      · rw [if_neg (by simpa using hi')]
        rw [Array.getElem?_setIfInBounds_ne (Ne.symm hi')]
    · rw [if_neg hk, if_neg (by simp [hk])]

theorem lh_none_of_ge {w : World} {b : Nat} (h : w.heap.size ≤ b) (x : Option Nat) : lh w (b, x) = none := by
  cases x <;> simp [lh, Array.getElem?_eq_none h, lhC, lhO]
theorem lh_alloc_le (w : World) (o : Obj) : Hle (lh w) (lh (w.alloc o)) := by
  rintro ⟨b, x⟩ v e
  have hb : b < w.heap.size := by
    rcases Nat.lt_or_ge b w.heap.size with h' | h'
    · exact h'
    · rw [lh_none_of_ge h'] at e; cases e
  have key : (w.alloc o).heap[b]? = w.heap[b]? := Go.RowKit.Below.heap_alloc w o b hb
  cases x <;> simpa only [lh, key] using e
theorem heap_alloc_same (w : World) (o : Obj) : (w.alloc o).heap[w.heap.size]? = some o := by
  show (w.heap.push o)[w.heap.size]? = some o
  simp
/-- A new row of cells. -/
theorem Sat.newCells {Γ : List HProp} {w : World} (s : Sat Γ (lh w)) (c : Array Value) (t : TypeId) : Sat (cells w.heap.size 0 c.toList :: Γ) (lh (w.alloc (.cells c t))) := by
  refine s.grown (h1 := fun l => match l with | (b, some o) => if b = w.heap.size then (c[o]?).map fun v => .inl (v, false) else none | _ => none) ?_ ?_ (lh_alloc_le w _) ?_
  · intro i v hv
    simp only [Nat.zero_add, if_true]
    rw [Array.getElem?_toList] at hv
    simp [hv]
  · rintro ⟨b, x⟩ v e
    cases x with
    | none => cases e
    | some o =>
      simp only at e
      split at e
      · rename_i hb; subst hb
        simp only [lh, heap_alloc_same, lhC]
        cases hc : c[o]? with
        | none => simp [hc] at e
        | some u => simp [hc] at e; subst e; simp
      · cases e
  · rintro ⟨b, x⟩ v e
    cases x with
    | none => cases e
    | some o =>
      simp only at e
      split at e
      · rename_i hb; subst hb; exact lh_none_of_ge (Nat.le_refl _) _
      · cases e
/-- A new object of another kind. -/
theorem Sat.newObj {Γ : List HProp} {w : World} (s : Sat Γ (lh w)) (o : Obj) (ho : ∀ c t f, o ≠ .cells c t f) : Sat (objP w.heap.size o :: Γ) (lh (w.alloc o)) := by
  have hn : lh (w.alloc o) (w.heap.size, none) = some (.inr (.inl o)) := by
    simp only [lh, heap_alloc_same]
    cases o <;> first | rfl | exact absurd rfl (ho _ _ _)
  refine s.grown (h1 := fun l => if l = (w.heap.size, none) then some (.inr (.inl o)) else none) ?_ ?_ (lh_alloc_le w _) ?_
  · simp [objP]
  · intro l v e
    dsimp only at e
    split at e
    · rename_i hl; subst hl; rw [hn]; exact e
    · cases e
  · intro l v e
    by_cases hl : l = (w.heap.size, none)
    · subst hl; exact lh_none_of_ge (Nat.le_refl _) _
    · simp [hl] at e
/-- A store into an owned cell. -/
theorem Sat.setCell {Γ : List HProp} {w : World} {b off i : Nat} {vs : List Value} {u : Value} (s : Sat (cells b off vs :: Γ) (lh w)) (hi : vs[i]? = some u) (v : Value) :
    Sat (cells b off (vs.set i v) :: Γ) (lh (w.setCell ⟨b, off + i, none⟩ v)) := by
  have hh : lh w (b, some (off + i)) = some (.inl (u, false)) := by
    obtain ⟨h1, l1, a1⟩ := s.head
    exact l1 _ _ (a1 i u hi)
  refine s.update (l := (b, some (off + i))) (u := .inl (v, false)) (fun h1 a1 => ⟨⟨_, a1 i u hi⟩, fun j x hx => ?_⟩) (lh_setCell v hh)
  unfold Hset
  have hlt : i < vs.length := by
    rcases Nat.lt_or_ge i vs.length with h' | h'
    · exact h'
    · rw [List.getElem?_eq_none h'] at hi; cases hi
  by_cases hj : j = i
  · subst hj
    rw [if_pos rfl]
    rw [List.getElem?_set_self hlt] at hx
    cases hx; rfl
  · rw [if_neg (by intro e; simp only [Prod.mk.injEq, Option.some.injEq] at e; omega)]
    rw [List.getElem?_set_ne (Ne.symm hj)] at hx
    exact a1 j x hx
theorem Sat.cell_frozen {Γ : List HProp} {w : World} {b off i : Nat} {vs : List Value} {u : Value} (s : Sat (cells b off vs :: Γ) (lh w)) (hi : vs[i]? = some u) :
    w.cell? ⟨b, off + i, none⟩ = some u ∧ w.frozen? ⟨b, off + i, none⟩ = false := by
  obtain ⟨h1, l1, a1⟩ := s.head
  exact lh_cell (l1 _ _ (a1 i u hi))
theorem lh_putObj {w : World} {b : Nat} {o : Obj} (o' : Obj) (h : lh w (b, none) = some (.inr (.inl o))) (ho : ∀ c t f, o' ≠ .cells c t f) : lh { w with heap := w.heap.setIfInBounds b o' } = Hset (lh w) (b, none) (.inr (.inl o')) := by
  obtain ⟨hb, hn⟩ := lh_obj h
  have hlt : b < w.heap.size := (Array.getElem?_eq_some_iff.1 hb).1
  have key : ∀ k : Nat, (w.heap.setIfInBounds b o')[k]? = if k = b then some o' else w.heap[k]? := by
    intro k
    rw [Array.getElem?_setIfInBounds]
    by_cases hk : k = b
    · subst hk; simp [hlt]
    · rw [if_neg (Ne.symm hk), if_neg hk]
  funext l
  obtain ⟨k, x⟩ := l
  cases x with
  | none =>
    simp only [lh, Hset]
    rw [key k]
    by_cases hk : k = b
    · subst hk
      simp only [if_true]
      cases o' <;> first | rfl | exact absurd rfl (ho _ _ _)
    · rw [if_neg hk, if_neg (by simp [hk])]
  | some i =>
    have hx : ((k, some i) : Loc) ≠ (b, none) := by simp
    simp only [lh, Hset, if_neg hx]
    rw [key k]
    by_cases hk : k = b
    · subst hk
      simp only [if_true]
      rw [hb]
      cases o' <;> cases o <;> first | rfl | exact absurd rfl (ho _ _ _) | exact absurd rfl (hn _ _ _)
    · rw [if_neg hk]
theorem Sat.setObj {Γ : List HProp} {w : World} {b : Nat} {o : Obj} (s : Sat (objP b o :: Γ) (lh w)) (o' : Obj) (ho : ∀ c t f, o' ≠ .cells c t f) :
    Sat (objP b o' :: Γ) (lh { w with heap := w.heap.setIfInBounds b o' }) := by
  have hh : lh w (b, none) = some (.inr (.inl o)) := by
    obtain ⟨h1, l1, a1⟩ := s.head
    exact l1 _ _ a1
  exact s.update (l := (b, none)) (u := .inr (.inl o')) (fun h1 a1 => ⟨⟨_, a1⟩, by simp [objP, Hset]⟩) (lh_putObj o' hh ho)
theorem Sat.obj {Γ : List HProp} {w : World} {b : Nat} {o : Obj} (s : Sat (objP b o :: Γ) (lh w)) : w.heap[b]? = some o ∧ (∀ c t f, o ≠ .cells c t f) := by
  obtain ⟨h1, l1, a1⟩ := s.head
  exact lh_obj (l1 _ _ a1)

/-! ### Rows cut in two and joined -/
theorem cells_split {Γ : List HProp} {b off : Nat} {xs ys : List Value} {h : Hp} (s : Sat (cells b off (xs ++ ys) :: Γ) h) : Sat (cells b off xs :: cells b (off + xs.length) ys :: Γ) h := by
  obtain ⟨h1, l1, a1, s⟩ := s
  refine ⟨fun l => match l with | (k, some o) => if k = b ∧ o < off + xs.length then h1 (k, some o) else none | _ => none, ?_, ?_,
    fun l => match l with | (k, some o) => if k = b ∧ off + xs.length ≤ o then h1 (k, some o) else none | _ => none, ?_, ?_, s.mono ?_⟩
  · rintro ⟨k, x⟩ v e
    cases x with
    | none => cases e
    | some o => simp only at e; split at e <;> first | exact l1 _ _ e | cases e
  · intro i v hv
    have hlt : i < xs.length := by
      rcases Nat.lt_or_ge i xs.length with h' | h'
      · exact h'
      · rw [List.getElem?_eq_none h'] at hv; cases hv
    show (if b = b ∧ off + i < off + xs.length then _ else _) = _
    rw [if_pos ⟨rfl, by omega⟩]
    exact a1 i v (by rw [List.getElem?_append_left hlt]; exact hv)
  · rintro ⟨k, x⟩ v e
    cases x with
    | none => cases e
    | some o =>
      simp only at e
      split at e
      · rename_i hc
        exact Hmin_some.2 ⟨by simp only; rw [if_neg (by omega)], l1 _ _ e⟩
      · cases e
  · intro i v hv
    show (if b = b ∧ off + xs.length ≤ off + xs.length + i then _ else _) = _
    rw [if_pos ⟨rfl, by omega⟩]
    have := a1 (xs.length + i) v (by rw [List.getElem?_append_right (by omega)]; simpa using hv)
    rw [← Nat.add_assoc] at this
    exact this
  · rintro ⟨k, x⟩ v e
    obtain ⟨e1, e2⟩ := Hmin_some.1 e
    refine Hmin_some.2 ⟨?_, Hmin_some.2 ⟨?_, e2⟩⟩
    · cases x with
      | none => rfl
      | some o => simp only; split <;> first | exact e1 | rfl
    · cases x with
      | none => rfl
      | some o => simp only; split <;> first | exact e1 | rfl
theorem cells_join {Γ : List HProp} {b off : Nat} {xs ys : List Value} {h : Hp} (s : Sat (cells b off xs :: cells b (off + xs.length) ys :: Γ) h) : Sat (cells b off (xs ++ ys) :: Γ) h := by
  obtain ⟨h1, l1, a1, h2, l2, a2, s⟩ := s
  refine ⟨Hun h1 h2, ?_, ?_, s.mono ?_⟩
  · intro l v e
    unfold Hun at e
    cases e1 : h1 l with
    | none => simp [e1] at e; exact (l2.trans (Hmin_le _ _)) l v e
    | some u => simp [e1] at e; subst e; exact l1 l u e1
  · intro i v hv
    unfold Hun
    rcases Nat.lt_or_ge i xs.length with h' | h'
    · rw [List.getElem?_append_left h'] at hv
      rw [a1 i v hv]; rfl
    · rw [List.getElem?_append_right h'] at hv
      have e2 := a2 _ v hv
      rw [show off + xs.length + (i - xs.length) = off + i from by omega] at e2
      have e1 := (Hmin_some.1 (l2 _ _ e2)).1
      rw [e1, e2]; rfl
  · intro l v e
    obtain ⟨e2, e⟩ := Hmin_some.1 e
    obtain ⟨e1, e⟩ := Hmin_some.1 e
    exact Hmin_some.2 ⟨by simp [Hun, e1, e2], e⟩
theorem cells_nil {Γ : List HProp} {b off : Nat} {h : Hp} (s : Sat Γ h) : Sat (cells b off [] :: Γ) h :=
  ⟨fun _ => none, fun _ _ x => (by cases x), fun i v hv => by simp at hv, s.mono fun l v x => Hmin_some.2 ⟨rfl, x⟩⟩

/-- What does not belong to memory: as it was; no block has gone. -/
structure Amb (w0 w : World) : Prop where
  os : w.os = w0.os
  tape : w.tape = w0.tape
  output : w.output = w0.output
  size : w0.heap.size ≤ w.heap.size
theorem Amb.refl (w : World) : Amb w w := ⟨rfl, rfl, rfl, Nat.le_refl _⟩
theorem Amb.trans {a b c : World} (h : Amb a b) (k : Amb b c) : Amb a c := ⟨k.os.trans h.os, k.tape.trans h.tape, k.output.trans h.output, Nat.le_trans h.size k.size⟩

theorem base_self (w : World) : Sat [base w] (lh w) := ⟨lh w, Hle.refl _, fun l v e => e, trivial⟩
/-- With all of the first heap in hand, nothing of it has turned. -/
theorem below_of_base {w0 w : World} {Γ : List HProp} (s : Sat (base w0 :: Γ) (lh w)) (a : Amb w0 w) : Go.RowKit.Below w0.heap.size w0 w := by
  obtain ⟨h1, l1, a1⟩ := s.head
  refine ⟨a.os, a.tape, a.output, a.size, fun k hk => ?_⟩
  have e0 : w0.heap[k]? = some w0.heap[k] := Array.getElem?_eq_getElem hk
  generalize w0.heap[k] = o at e0
  rw [e0]
  have e1 : lh w (k, none) = lh w0 (k, none) := by
    have : ∃ v, lh w0 (k, none) = some v := by
      cases o <;> simp [lh, e0, lhO]
    obtain ⟨v, hv⟩ := this
    rw [hv]; exact l1 _ _ (a1 _ _ hv)
  by_cases ho : ∃ c t f, o = .cells c t f
  · obtain ⟨c, t, ⟨lo, hi⟩, rfl⟩ := ho
    simp only [lh, e0, lhO] at e1
    cases hb : w.heap[k]? with
    | none => simp [hb] at e1
    | some x =>
      cases x with
      | cells c' t' f' =>
        obtain ⟨lo', hi'⟩ := f'
        simp [hb] at e1
        obtain ⟨rfl, es, rfl, rfl⟩ := e1
        have : c' = c := by
          apply Array.ext es
          intro i h1' h2'
          have hc : lh w0 (k, some i) = some (.inl (c[i], decide (lo' ≤ i) && decide (i < hi'))) := by
            simp [lh, lhC, e0, h2']
          have hc' := l1 _ _ (a1 _ _ hc)
          simp [lh, lhC, hb, h1'] at hc'
          exact hc'
        subst this; rfl
      | _ => simp [hb] at e1
  · have hn : ∀ c t f, o ≠ .cells c t f := fun c t f e => ho ⟨c, t, f, e⟩
    have e2 : lh w0 (k, none) = some (.inr (.inl o)) := by
      cases o <;> first | exact absurd rfl (hn _ _ _) | simp [lh, e0, lhO]
    exact (lh_obj (e1.trans e2)).1
end Go.Ab
