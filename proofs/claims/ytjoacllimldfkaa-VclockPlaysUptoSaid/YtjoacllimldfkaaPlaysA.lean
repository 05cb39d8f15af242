/- What the law Plays rests on, part 1 of 5. -/
import Derived.RangeFuncLeaves
import Derived.RangeFuncRecord
import Derived.OrdersIn
import Derived.Below
import Derived.KernelRfl
import Derived.Laws.Cells
import Derived.Laws.Entries
import Derived.Laws.Rows
import Derived.Laws.CopyRow
import Derived.Laws.AppendOwn
import Derived.Laws.StructEq
import Derived.Laws.Cover3
import Derived.LoopNIn
set_option linter.unusedVariables false
set_option linter.unusedSimpArgs false
namespace Go.Ab
open Go
/-- A location: a cell (block, offset), or a whole object (block). -/
abbrev Loc := Nat × Option Nat
/-- What lies there: a cell's value and whether it is frozen; an object that is no row of cells; or a row's head (element's type, size, what is frozen). -/
abbrev LV := (Value × Bool) ⊕ (Obj ⊕ (Nat × Nat × Nat × Nat))
abbrev Hp := Loc → Option LV
abbrev HProp := Hp → Prop
def lhC (b o : Nat) : Option Obj → Option LV
  | some (.cells c _ (lo, hi)) => (c[o]?).map fun v => .inl (v, decide (lo ≤ o) && decide (o < hi))
  | _ => none
def lhO : Option Obj → Option LV
  | some (.cells c t (lo, hi)) => some (.inr (.inr (t, c.size, lo, hi)))
  | some o => some (.inr (.inl o))
  | none => none
/-- The world's heap as a function, defined where a cell is. -/
def lh (w : World) : Hp := fun l => match l with
  | (b, some o) => lhC b o (w.heap[b]?)
  | (b, none) => lhO (w.heap[b]?)
def Hle (h h' : Hp) : Prop := ∀ l v, h l = some v → h' l = some v
def Hmin (h h1 : Hp) : Hp := fun l => if (h1 l).isSome then none else h l
def Hset (h : Hp) (l : Loc) (v : LV) : Hp := fun k => if k = l then some v else h k
def Hun (h h' : Hp) : Hp := fun l => (h l).orElse fun _ => h' l
theorem Hle.refl (h : Hp) : Hle h h := fun _ _ x => x
theorem Hle.trans {a b c : Hp} (h : Hle a b) (k : Hle b c) : Hle a c := fun l v x => k l v (h l v x)
theorem Hmin_some {h h1 : Hp} {l : Loc} {v : LV} : Hmin h h1 l = some v ↔ h1 l = none ∧ h l = some v := by
  unfold Hmin
  cases h1 l <;> simp
theorem Hmin_le (h h1 : Hp) : Hle (Hmin h h1) h := fun l v x => (Hmin_some.1 x).2
theorem Hmin_mono {h h' : Hp} (k : Hle h h') (h1 : Hp) : Hle (Hmin h h1) (Hmin h' h1) := fun l v x =>
  Hmin_some.2 ⟨(Hmin_some.1 x).1, k l v (Hmin_some.1 x).2⟩
/-- The resources of a list hold of disjoint parts of the heap; what is over is let go. -/
def Sat : List HProp → Hp → Prop
  | [], _ => True
  | A :: Γ, h => ∃ h1, Hle h1 h ∧ A h1 ∧ Sat Γ (Hmin h h1)
theorem Sat.mono {Γ : List HProp} : ∀ {h h' : Hp}, Sat Γ h → Hle h h' → Sat Γ h' := by
  induction Γ with
  | nil => intros; trivial
  | cons A Γ ih =>
    rintro h h' ⟨h1, l1, a1, s⟩ k
    exact ⟨h1, l1.trans k, a1, ih s (Hmin_mono k h1)⟩
theorem Sat.swap {A B : HProp} {Γ : List HProp} {h : Hp} (s : Sat (A :: B :: Γ) h) : Sat (B :: A :: Γ) h := by
  obtain ⟨h1, l1, a1, h2, l2, a2, s⟩ := s
  refine ⟨h2, l2.trans (Hmin_le _ _), a2, h1, fun l v x => Hmin_some.2 ⟨?_, l1 l v x⟩, a1, s.mono fun l v x => ?_⟩
  · cases e : h2 l with
    | none => rfl
    | some u => have := (Hmin_some.1 (l2 l u e)).1; rw [x] at this; cases this
  · obtain ⟨e2, x⟩ := Hmin_some.1 x
    obtain ⟨e1, x⟩ := Hmin_some.1 x
    exact Hmin_some.2 ⟨e1, Hmin_some.2 ⟨e2, x⟩⟩
/-- A resource taken out of a list. -/
def Take (Γ : List HProp) (A : HProp) (Γ' : List HProp) : Prop := ∀ h, Sat Γ h → Sat (A :: Γ') h
theorem Take.here {A : HProp} {Γ : List HProp} : Take (A :: Γ) A Γ := fun _ s => s
theorem Take.there {A B : HProp} {Γ Γ' : List HProp} (t : Take Γ A Γ') : Take (B :: Γ) A (B :: Γ') := fun h s => by
  obtain ⟨h1, l1, b1, s⟩ := s
  exact Sat.swap ⟨h1, l1, b1, t _ s⟩
/-- Several, one after the other. -/
def Takes (Γ Δ Γ' : List HProp) : Prop := ∀ h, Sat Γ h → Sat (Δ ++ Γ') h
theorem Takes.nil {Γ : List HProp} : Takes Γ [] Γ := fun _ s => s
theorem Takes.cons {Γ Γ1 Γ' Δ : List HProp} {A : HProp} (t : Take Γ A Γ1) (u : Takes Γ1 Δ Γ') : Takes Γ (A :: Δ) Γ' := fun h s => by
  obtain ⟨h1, l1, a1, s⟩ := t h s
  exact ⟨h1, l1, a1, u _ s⟩
theorem Z0 {A : HProp} {Γ : List HProp} : Take (A :: Γ) A Γ := Take.here
theorem Z1 {A B : HProp} {Γ Γ' : List HProp} (t : Take Γ A Γ') : Take (B :: Γ) A (B :: Γ') := t.there
theorem Z2 {Γ Γ1 Γ' Δ : List HProp} {A : HProp} (t : Take Γ A Γ1) (u : Takes Γ1 Δ Γ') : Takes Γ (A :: Δ) Γ' := Takes.cons t u
theorem Z3 {Γ : List HProp} : Takes Γ [] Γ := Takes.nil
theorem Takes.self {Γ : List HProp} : Takes Γ Γ [] := fun h s => by simpa using s
theorem Takes.all {Γ : List HProp} {Γ'} (h : Γ = Γ') : Takes Γ [] Γ' := h ▸ Takes.nil
theorem Sat.cons_mono {A : HProp} {Γ Γ' : List HProp} (k : ∀ h, Sat Γ h → Sat Γ' h) {h : Hp} (s : Sat (A :: Γ) h) : Sat (A :: Γ') h := by
  obtain ⟨h1, l1, a1, s⟩ := s
  exact ⟨h1, l1, a1, k _ s⟩
theorem Sat.head_mono {A B : HProp} {Γ : List HProp} (k : ∀ h, A h → B h) {h : Hp} (s : Sat (A :: Γ) h) : Sat (B :: Γ) h := by
  obtain ⟨h1, l1, a1, s⟩ := s
  exact ⟨h1, l1, k _ a1, s⟩
theorem Sat.tail {A : HProp} {Γ : List HProp} {h : Hp} (s : Sat (A :: Γ) h) : Sat Γ h := by
  obtain ⟨h1, l1, a1, s⟩ := s
  exact s.mono (Hmin_le _ _)
theorem Sat.head {A : HProp} {Γ : List HProp} {h : Hp} (s : Sat (A :: Γ) h) : ∃ h1, Hle h1 h ∧ A h1 := by
  obtain ⟨h1, l1, a1, s⟩ := s
  exact ⟨h1, l1, a1⟩
/-- A bundle: several resources as one. -/
def Bun (Γ : List HProp) : HProp := fun h => Sat Γ h
theorem Bun.unfold {Γ Δ : List HProp} : ∀ {h : Hp}, Sat (Bun Γ :: Δ) h → Sat (Γ ++ Δ) h := by
  induction Γ with
  | nil => intro h s; exact s.tail
  | cons A Γ ih =>
    rintro h ⟨h1, l1, ⟨h2, l2, a2, s2⟩, s⟩
    refine ⟨h2, l2.trans l1, a2, ih ⟨Hmin h1 h2, Hmin_mono l1 h2, s2, s.mono fun l v x => ?_⟩⟩
    obtain ⟨e1, x⟩ := Hmin_some.1 x
    refine Hmin_some.2 ⟨?_, Hmin_some.2 ⟨?_, x⟩⟩
    · unfold Hmin; rw [e1]; split <;> rfl
    · cases e : h2 l with
      | none => rfl
      | some u => have := l2 l u e; rw [e1] at this; cases this
theorem Bun.fold {Γ Δ : List HProp} : ∀ {h : Hp}, Sat (Γ ++ Δ) h → Sat (Bun Γ :: Δ) h := by
  induction Γ with
  | nil => intro h s; exact ⟨fun _ => none, fun _ _ x => (by cases x), trivial, s.mono fun l v x => Hmin_some.2 ⟨rfl, x⟩⟩
  | cons A Γ ih =>
    rintro h ⟨h1, l1, a1, s⟩
    obtain ⟨h2, l2, a2, s⟩ := ih s
    have d : ∀ l v, h2 l = some v → h1 l = none := fun l v x => (Hmin_some.1 (l2 l v x)).1
    refine ⟨Hun h1 h2, fun l v x => ?_, ⟨h1, fun l v x => by simp [Hun, x], a1, Sat.mono a2 fun l v x => Hmin_some.2 ⟨d l v x, by simp [Hun, d l v x, x]⟩⟩, s.mono fun l v x => ?_⟩
    · unfold Hun at x
      cases e : h1 l with
      | none => simp [e] at x; exact (l2.trans (Hmin_le _ _)) l v x
      | some u => simp [e] at x; subst x; exact l1 l u e
    · obtain ⟨e2, x⟩ := Hmin_some.1 x
      obtain ⟨e1, x⟩ := Hmin_some.1 x
      exact Hmin_some.2 ⟨by simp [Hun, e1, e2], x⟩
/-- A resource that hangs on something unknown. -/
theorem Sat.ex {α : Type _} {A : α → HProp} {Γ : List HProp} {h : Hp} (s : Sat ((fun h => ∃ x, A x h) :: Γ) h) : ∃ x, Sat (A x :: Γ) h := by
  obtain ⟨h1, l1, ⟨x, a1⟩, s⟩ := s
  exact ⟨x, h1, l1, a1, s⟩
theorem Sat.pure_and {p : Prop} {A : HProp} {Γ : List HProp} {h : Hp} (s : Sat ((fun h => p ∧ A h) :: Γ) h) : p ∧ Sat (A :: Γ) h := by
  obtain ⟨h1, l1, ⟨hp, a1⟩, s⟩ := s
  exact ⟨hp, h1, l1, a1, s⟩
/-! ### The primitive resources -/
/-- Cells of a block, from an offset on, none of them frozen. -/
def cells (b off : Nat) (vs : List Value) : HProp := fun h => ∀ (i : Nat) v, vs[i]? = some v → h (b, some (off + i)) = some (.inl (v, false))
/-- An object that is no row of cells. -/
def objP (b : Nat) (o : Obj) : HProp := fun h => h (b, none) = some (.inr (.inl o))
/-- All that the heap of w0 held. -/
def base (w0 : World) : HProp := fun h => ∀ l v, lh w0 l = some v → h l = some v
/-- A resource tells what a cell reads as. -/
def Rd (A : HProp) (b o : Nat) (v : Value) : Prop := ∀ h, A h → ∃ fr, h (b, some o) = some (.inl (v, fr))
theorem rd_cells {b off : Nat} {vs : List Value} {i : Nat} {v : Value} (h : vs[i]? = some v) : Rd (cells b off vs) b (off + i) v := fun hp c => ⟨false, c i v h⟩
theorem rd_base {w0 : World} {b o : Nat} {v : Value} (h : w0.cell? ⟨b, o, none⟩ = some v) : Rd (base w0) b o v := fun hp c => by
  unfold World.cell? at h
  simp only [Option.isSome_none, Bool.false_eq_true, if_false] at h
  cases hb : w0.heap[b]? with
  | none => simp [hb] at h
  | some x =>
    cases x with
    | cells cs t fr =>
      obtain ⟨lo, hi⟩ := fr
      simp only [hb] at h
      exact ⟨decide (lo ≤ o) && decide (o < hi), c (b, some o) (.inl (v, decide (lo ≤ o) && decide (o < hi))) (by simp only [lh, lhC, hb, h, Option.map_some])⟩
    | _ => simp [hb] at h
theorem lh_cell {w : World} {b o : Nat} {v : Value} {fr : Bool} (h : lh w (b, some o) = some (.inl (v, fr))) : w.cell? ⟨b, o, none⟩ = some v ∧ w.frozen? ⟨b, o, none⟩ = fr := by
  simp only [lh] at h
  unfold World.cell? World.frozen?
  cases hb : w.heap[b]? with
  | none => simp [hb, lhC] at h
  | some x =>
    cases x with
    | cells cs t f =>
      obtain ⟨lo, hi⟩ := f
      simp only [hb, lhC] at h
      cases hc : cs[o]? with
      | none => simp [hc] at h
      | some u => simp [hc] at h; obtain ⟨rfl, rfl⟩ := h; simp [hc]
    | _ => simp [hb, lhC] at h
theorem lh_obj {w : World} {b : Nat} {o : Obj} (h : lh w (b, none) = some (.inr (.inl o))) : w.heap[b]? = some o ∧ (∀ c t f, o ≠ .cells c t f) := by
  simp only [lh] at h
  cases hb : w.heap[b]? with
  | none => simp [hb, lhO] at h
  | some x => cases x <;> simp [hb, lhO] at h <;> (subst h; exact ⟨rfl, fun _ _ _ e => by cases e⟩)
theorem Rd.world {A : HProp} {b o : Nat} {v : Value} {Γ : List HProp} {w : World} (r : Rd A b o v) (s : Sat (A :: Γ) (lh w)) : w.cell? ⟨b, o, none⟩ = some v := by
  obtain ⟨h1, l1, a1⟩ := s.head
  obtain ⟨fr, e⟩ := r _ a1
  exact (lh_cell (l1 _ _ e)).1
/-- The world's heap changes at one location alone, which a resource owns. -/
theorem Sat.update {A B : HProp} {Γ : List HProp} {h h' : Hp} {l : Loc} {u : LV} (s : Sat (A :: Γ) h)
    (ho : ∀ h1, A h1 → (∃ v, h1 l = some v) ∧ B (Hset h1 l u)) (he : h' = Hset h l u) : Sat (B :: Γ) h' := by
  obtain ⟨h1, l1, a1, s⟩ := s
  obtain ⟨⟨v, hv⟩, b1⟩ := ho h1 a1
  subst he
  refine ⟨Hset h1 l u, fun k x e => ?_, b1, s.mono fun k x e => ?_⟩
  · unfold Hset at e ⊢
    split at e
    · rename_i hk; rw [if_pos hk]; exact e
    · rename_i hk; rw [if_neg hk]; exact l1 k x e
  · obtain ⟨e1, e2⟩ := Hmin_some.1 e
    have hk : k ≠ l := fun hk => by subst hk; rw [hv] at e1; cases e1
    exact Hmin_some.2 ⟨by unfold Hset; rw [if_neg hk]; exact e1, by unfold Hset; rw [if_neg hk]; exact e2⟩
/-- The heap has grown. -/
theorem Sat.grown {B : HProp} {Γ : List HProp} {h h' h1 : Hp} (s : Sat Γ h) (hb : B h1) (l1 : Hle h1 h') (l2 : Hle h h') (hd : ∀ l v, h1 l = some v → h l = none) : Sat (B :: Γ) h' := by
  refine ⟨h1, l1, hb, s.mono fun l v e => Hmin_some.2 ⟨?_, l2 l v e⟩⟩
  cases e1 : h1 l with
  | none => rfl
  | some u => rw [hd l u e1] at e; cases e
theorem lh_setCell {w : World} {b o : Nat} {u : Value} {fr : Bool} (v : Value) (h : lh w (b, some o) = some (.inl (u, fr))) : lh (w.setCell ⟨b, o, none⟩ v) = Hset (lh w) (b, some o) (.inl (v, fr)) := by
  have hb : ∃ cs t lo hi, w.heap[b]? = some (.cells cs t (lo, hi)) ∧ cs[o]? = some u ∧ (decide (lo ≤ o) && decide (o < hi)) = fr := by
    simp only [lh] at h
    cases hb : w.heap[b]? with
    | none => simp [hb, lhC] at h
    | some x =>
      cases x with
      | cells cs t f =>
        obtain ⟨lo, hi⟩ := f
        simp only [hb, lhC] at h
        cases hc : cs[o]? with
        | none => simp [hc] at h
        | some u' => simp [hc] at h; obtain ⟨rfl, rfl⟩ := h; exact ⟨cs, t, lo, hi, rfl, hc, by simp⟩
      | _ => simp [hb, lhC] at h
  obtain ⟨cs, t, lo, hi, hb, hc, hf⟩ := hb
  have ho : o < cs.size := by
    rcases Nat.lt_or_ge o cs.size with h' | h'
    · exact h'
    · rw [Array.getElem?_eq_none h'] at hc; cases hc
  have key : ∀ k : Nat, (w.setCell ⟨b, o, none⟩ v).heap[k]? = if k = b then some (.cells (cs.setIfInBounds o v) t (lo, hi)) else w.heap[k]? := by
    intro k
    simp only [World.setCell, Array.getElem?_modify]
    by_cases hk : k = b
    · subst hk; simp [hb]
    · rw [if_neg (Ne.symm hk), if_neg hk]
  funext l
  obtain ⟨k, x⟩ := l
  cases x with
  | none =>
    have hx : ((k, none) : Loc) ≠ (b, some o) := by simp
    simp only [lh, Hset, if_neg hx]
    rw [key k]
    by_cases hk : k = b
    · subst hk; simp [hb, lhO]
    · rw [if_neg hk]
  | some i =>
    simp only [lh, Hset]
    rw [key k]
    by_cases hk : k = b
    · subst hk
      simp only [if_true, lhC, hb]
      by_cases hi' : i = o
      · subst hi'; simp [ho, hf]
      · rw [if_neg (by simpa using hi')]
        rw [Array.getElem?_setIfInBounds_ne (Ne.symm hi')]
    · rw [if_neg hk, if_neg (by simp [hk])]
theorem lh_none_of_ge {w : World} {b : Nat} (h : w.heap.size ≤ b) (x : Option Nat) : lh w (b, x) = none := by
  cases x <;> simp [lh, Array.getElem?_eq_none h, lhC, lhO]
theorem lh_alloc_le (w : World) (o : Obj) : Hle (lh w) (lh (w.alloc o)) := by
  rintro ⟨b, x⟩ v e
  have hb : b < w.heap.size := by
    rcases Nat.lt_or_ge b w.heap.size with h' | h'
    · exact h'
    · rw [lh_none_of_ge h'] at e; cases e
  have key : (w.alloc o).heap[b]? = w.heap[b]? := Go.RowKit.Below.heap_alloc w o b hb
  cases x <;> simpa only [lh, key] using e
theorem heap_alloc_same (w : World) (o : Obj) : (w.alloc o).heap[w.heap.size]? = some o := by
  show (w.heap.push o)[w.heap.size]? = some o
  simp
/-- A new row of cells. -/
theorem Sat.newCells {Γ : List HProp} {w : World} (s : Sat Γ (lh w)) (c : Array Value) (t : TypeId) : Sat (cells w.heap.size 0 c.toList :: Γ) (lh (w.alloc (.cells c t))) := by
  refine s.grown (h1 := fun l => match l with | (b, some o) => if b = w.heap.size then (c[o]?).map fun v => .inl (v, false) else none | _ => none) ?_ ?_ (lh_alloc_le w _) ?_
  · intro i v hv
    simp only [Nat.zero_add, if_true]
    rw [Array.getElem?_toList] at hv
    simp [hv]
  · rintro ⟨b, x⟩ v e
    cases x with
    | none => cases e
    | some o =>
      simp only at e
      split at e
      · rename_i hb; subst hb
        simp only [lh, heap_alloc_same, lhC]
        cases hc : c[o]? with
        | none => simp [hc] at e
        | some u => simp [hc] at e; subst e; simp
      · cases e
  · rintro ⟨b, x⟩ v e
    cases x with
    | none => cases e
    | some o =>
      simp only at e
      split at e
      · rename_i hb; subst hb; exact lh_none_of_ge (Nat.le_refl _) _
      · cases e
/-- A new object of another kind. -/
theorem Sat.newObj {Γ : List HProp} {w : World} (s : Sat Γ (lh w)) (o : Obj) (ho : ∀ c t f, o ≠ .cells c t f) : Sat (objP w.heap.size o :: Γ) (lh (w.alloc o)) := by
  have hn : lh (w.alloc o) (w.heap.size, none) = some (.inr (.inl o)) := by
    simp only [lh, heap_alloc_same]
    cases o <;> first | rfl | exact absurd rfl (ho _ _ _)
  refine s.grown (h1 := fun l => if l = (w.heap.size, none) then some (.inr (.inl o)) else none) ?_ ?_ (lh_alloc_le w _) ?_
  · simp [objP]
  · intro l v e
    dsimp only at e
    split at e
    · rename_i hl; subst hl; rw [hn]; exact e
    · cases e
  · intro l v e
    by_cases hl : l = (w.heap.size, none)
    · subst hl; exact lh_none_of_ge (Nat.le_refl _) _
    · simp [hl] at e
/-- A store into an owned cell. -/
theorem Sat.setCell {Γ : List HProp} {w : World} {b off i : Nat} {vs : List Value} {u : Value} (s : Sat (cells b off vs :: Γ) (lh w)) (hi : vs[i]? = some u) (v : Value) :
    Sat (cells b off (vs.set i v) :: Γ) (lh (w.setCell ⟨b, off + i, none⟩ v)) := by
  have hh : lh w (b, some (off + i)) = some (.inl (u, false)) := by
    obtain ⟨h1, l1, a1⟩ := s.head
    exact l1 _ _ (a1 i u hi)
  refine s.update (l := (b, some (off + i))) (u := .inl (v, false)) (fun h1 a1 => ⟨⟨_, a1 i u hi⟩, fun j x hx => ?_⟩) (lh_setCell v hh)
  unfold Hset
  have hlt : i < vs.length := by
    rcases Nat.lt_or_ge i vs.length with h' | h'
    · exact h'
    · rw [List.getElem?_eq_none h'] at hi; cases hi
  by_cases hj : j = i
  · subst hj
    rw [if_pos rfl]
    rw [List.getElem?_set_self hlt] at hx
    cases hx; rfl
  · rw [if_neg (by intro e; simp only [Prod.mk.injEq, Option.some.injEq] at e; omega)]
    rw [List.getElem?_set_ne (Ne.symm hj)] at hx
    exact a1 j x hx
theorem Sat.cell_frozen {Γ : List HProp} {w : World} {b off i : Nat} {vs : List Value} {u : Value} (s : Sat (cells b off vs :: Γ) (lh w)) (hi : vs[i]? = some u) :
    w.cell? ⟨b, off + i, none⟩ = some u ∧ w.frozen? ⟨b, off + i, none⟩ = false := by
  obtain ⟨h1, l1, a1⟩ := s.head
  exact lh_cell (l1 _ _ (a1 i u hi))
theorem lh_putObj {w : World} {b : Nat} {o : Obj} (o' : Obj) (h : lh w (b, none) = some (.inr (.inl o))) (ho : ∀ c t f, o' ≠ .cells c t f) : lh { w with heap := w.heap.setIfInBounds b o' } = Hset (lh w) (b, none) (.inr (.inl o')) := by
  obtain ⟨hb, hn⟩ := lh_obj h
  have hlt : b < w.heap.size := (Array.getElem?_eq_some_iff.1 hb).1
  have key : ∀ k : Nat, (w.heap.setIfInBounds b o')[k]? = if k = b then some o' else w.heap[k]? := by
    intro k
    rw [Array.getElem?_setIfInBounds]
    by_cases hk : k = b
    · subst hk; simp [hlt]
    · rw [if_neg (Ne.symm hk), if_neg hk]
  funext l
  obtain ⟨k, x⟩ := l
  cases x with
  | none =>
    simp only [lh, Hset]
    rw [key k]
    by_cases hk : k = b
    · subst hk
      simp only [if_true]
      cases o' <;> first | rfl | exact absurd rfl (ho _ _ _)
    · rw [if_neg hk, if_neg (by simp [hk])]
  | some i =>
    have hx : ((k, some i) : Loc) ≠ (b, none) := by simp
    simp only [lh, Hset, if_neg hx]
    rw [key k]
    by_cases hk : k = b
    · subst hk
      simp only [if_true]
      rw [hb]
      cases o' <;> cases o <;> first | rfl | exact absurd rfl (ho _ _ _) | exact absurd rfl (hn _ _ _)
    · rw [if_neg hk]
theorem Sat.setObj {Γ : List HProp} {w : World} {b : Nat} {o : Obj} (s : Sat (objP b o :: Γ) (lh w)) (o' : Obj) (ho : ∀ c t f, o' ≠ .cells c t f) :
    Sat (objP b o' :: Γ) (lh { w with heap := w.heap.setIfInBounds b o' }) := by
  have hh : lh w (b, none) = some (.inr (.inl o)) := by
    obtain ⟨h1, l1, a1⟩ := s.head
    exact l1 _ _ a1
  exact s.update (l := (b, none)) (u := .inr (.inl o')) (fun h1 a1 => ⟨⟨_, a1⟩, by simp [objP, Hset]⟩) (lh_putObj o' hh ho)
theorem Sat.obj {Γ : List HProp} {w : World} {b : Nat} {o : Obj} (s : Sat (objP b o :: Γ) (lh w)) : w.heap[b]? = some o ∧ (∀ c t f, o ≠ .cells c t f) := by
  obtain ⟨h1, l1, a1⟩ := s.head
  exact lh_obj (l1 _ _ a1)
/-! ### Rows cut in two and joined -/
/-- What does not belong to memory: as it was; no block has gone. -/
structure Amb (w0 w : World) : Prop where
  os : w.os = w0.os
  tape : w.tape = w0.tape
  output : w.output = w0.output
  size : w0.heap.size ≤ w.heap.size
theorem Amb.refl (w : World) : Amb w w := ⟨rfl, rfl, rfl, Nat.le_refl _⟩
theorem Amb.trans {a b c : World} (h : Amb a b) (k : Amb b c) : Amb a c := ⟨k.os.trans h.os, k.tape.trans h.tape, k.output.trans h.output, Nat.le_trans h.size k.size⟩
theorem base_self (w : World) : Sat [base w] (lh w) := ⟨lh w, Hle.refl _, fun l v e => e, trivial⟩
/-- With all of the first heap in hand, nothing of it has turned. -/
theorem below_of_base {w0 w : World} {Γ : List HProp} (s : Sat (base w0 :: Γ) (lh w)) (a : Amb w0 w) : Go.RowKit.Below w0.heap.size w0 w := by
  obtain ⟨h1, l1, a1⟩ := s.head
  refine ⟨a.os, a.tape, a.output, a.size, fun k hk => ?_⟩
  have e0 : w0.heap[k]? = some w0.heap[k] := Array.getElem?_eq_getElem hk
  generalize w0.heap[k] = o at e0
  rw [e0]
  have e1 : lh w (k, none) = lh w0 (k, none) := by
    have : ∃ v, lh w0 (k, none) = some v := by
      cases o <;> simp [lh, e0, lhO]
    obtain ⟨v, hv⟩ := this
    rw [hv]; exact l1 _ _ (a1 _ _ hv)
  by_cases ho : ∃ c t f, o = .cells c t f
  · obtain ⟨c, t, ⟨lo, hi⟩, rfl⟩ := ho
    simp only [lh, e0, lhO] at e1
    cases hb : w.heap[k]? with
    | none => simp [hb] at e1
    | some x =>
      cases x with
      | cells c' t' f' =>
        obtain ⟨lo', hi'⟩ := f'
        simp [hb] at e1
        obtain ⟨rfl, es, rfl, rfl⟩ := e1
        have : c' = c := by
          apply Array.ext es
          intro i h1' h2'
          have hc : lh w0 (k, some i) = some (.inl (c[i], decide (lo' ≤ i) && decide (i < hi'))) := by
            simp [lh, lhC, e0, h2']
          have hc' := l1 _ _ (a1 _ _ hc)
          simp [lh, lhC, hb, h1'] at hc'
          exact hc'
        subst this; rfl
      | _ => simp [hb] at e1
  · have hn : ∀ c t f, o ≠ .cells c t f := fun c t f e => ho ⟨c, t, f, e⟩
    have e2 : lh w0 (k, none) = some (.inr (.inl o)) := by
      cases o <;> first | exact absurd rfl (hn _ _ _) | simp [lh, e0, lhO]
    exact (lh_obj (e1.trans e2)).1
end Go.Ab
set_option linter.unusedVariables false
set_option linter.unusedSimpArgs false
namespace Go.Ab
open Go
/-- The wide fence, in a frame of a round or of none. -/
def fz (r : Option Nat) : Fence := { Fence.wide with round := r }
theorem fz_calls {r : Option Nat} {n : Nat} {P : Program} {f : FuncId} {args : Array Value} {w : World} {R : Ending → World → Prop} (h : Calls P f args w R) : CallsIn (fz r) n P f args w R :=
  (callsIn_wide (n := n)).2 h
/-- One operation that ends in the ordinary way. -/
def opUp (P : Program) (r : Option Nat) (o : Oper) (a : Act) (K : Act → World → Prop) : Result Next → Prop
  | .ok (.value v) w' => K (a.put o.dst v) w'
  | .ok .skip w' => K (a.put o.dst undef) w'
  | .ok (.enter f args) w' => Calls P f args w' fun e w'' => ∃ v, e = .returned v ∧ K (a.put o.dst v) w''
  | .ok (.round l f tmps assign body) w' => RoundIn (fz r) 0 P l f tmps assign body w' fun e w'' => ∃ v, e = .returned v ∧ K (a.put o.dst v) w''
  | _ => False
def opW (P : Program) (r : Option Nat) (o : Oper) (a : Act) (w : World) (K : Act → World → Prop) : Prop := opUp P r o a K ((o.semAt r a.eval).run P w)
theorem opUp_mono {P : Program} {r : Option Nat} {o : Oper} {a b : Act} {K K' : Act → World → Prop} (h : ∀ v w, K (a.put o.dst v) w → K' (b.put o.dst v) w) {x : Result Next} (hx : opUp P r o a K x) : opUp P r o b K' x := by
  cases x with
  | ok n w' =>
    cases n <;> simp only [opUp] at hx ⊢ <;> first
      | exact h _ _ hx
      | exact hx.mono (fun e w'' ⟨v, e1, k⟩ => ⟨v, e1, h _ _ k⟩)
  | halt y w' => simp only [opUp] at hx
theorem opUp_wpIn {P : Program} {r : Option Nat} {o : Oper} {a : Act} {K : Act → World → Prop} {Q : Exit → Act → World → Prop} {x : Result Next} (hx : opUp P r o a K x) : o.uponIn (fz r) 0 P a K Q x := by
  cases x with
  | ok n w' =>
    cases n <;> simp only [opUp] at hx <;> simp only [Oper.uponIn]
    case value => exact hx
    case skip => exact hx
    case enter f args =>
      refine ⟨fun h => by simp [fz, Fence.wide] at h, fz_calls (hx.mono ?_)⟩
      rintro e w'' ⟨v, rfl, k⟩; exact k
    case round l f tmps assign body =>
      refine ⟨fun h => by simp [fz, Fence.wide] at h, hx.mono ?_⟩
      rintro e w'' ⟨v, rfl, k⟩; exact k
  | halt y w' => simp only [opUp] at hx
theorem opW_wpIn {P : Program} {r : Option Nat} {o : Oper} {a : Act} {w : World} {K : Act → World → Prop} {Q : Exit → Act → World → Prop} (h : opW P r o a w K) : o.wpIn (fz r) 0 P a w K Q :=
  ⟨fun f _ => trivial, opUp_wpIn h⟩
/-- Does the operation look into memory? -/
def reads (o : Oper) : Bool :=
  match o.op with
  | .move _ | .assign _ | .pick .. | .build .. | .nilCheck _ | .binOp .. | .unOp .. | .convert .. | .makeInterface .. | .makeFunc .. | .slice .. | .fieldAddr .. | .field .. | .indexAddr .. | .index .. | .extract .. => false
  | _ => true
/-- The operation yields v and leaves the world; if it is none that looks into memory: in every world. -/
def yq (P : Program) (r : Option Nat) (o : Oper) (a : Act) (w : World) (v : Value) : Prop :=
  if reads o then (o.semAt r a.eval).run P w = .ok (.value v) w else ∀ w', (o.semAt r a.eval).run P w' = .ok (.value v) w'
theorem yq.now {P : Program} {r : Option Nat} {o : Oper} {a : Act} {w : World} {v : Value} (h : yq P r o a w v) : (o.semAt r a.eval).run P w = .ok (.value v) w := by
  unfold yq at h
  split at h
  · exact h
  · exact h w
/-- The certificate. q: a quiet operation · l: a loud one, behind which those of the list still yield what they yielded · alt: several may come next. -/
inductive RT where
  | done
  | q (i : Nat) (k : RT)
  | l (i : Nat) (fl : List Nat) (k : RT)
  | alt (x y : RT)
/-- The operation, carried out again, yields what its slot holds. -/
def again (P : Program) (r : Option Nat) (ops : Array Oper) (a : Act) (w : World) (i : Nat) : Prop :=
  ∀ o, ops[i]? = some o → Region.wanted o (yielded ops a.tmps) = true → ∃ d, o.dst = some d ∧ (o.semAt r a.eval).run P w = .ok (.value (a.tmps.getD d undef)) w
def wpRT (P : Program) (r : Option Nat) (ops : Array Oper) (K : Act → World → Prop) : RT → Act → World → Prop
  | .done, a, w => K a w
  | .q i k, a, w => ∃ o d, ops[i]? = some o ∧ o.dst = some d ∧ d < a.tmps.size ∧
      ((Region.wanted o (yielded ops a.tmps) = true ∧ ∃ v, yq P r o a w v ∧ wpRT P r ops K k (a.put (some d) v) w) ∨
       (Region.wanted o (yielded ops a.tmps) = false ∧ wpRT P r ops K k (a.put (some d) undef) w))
  | .l i fl k, a, w => ∃ o, ops[i]? = some o ∧
      ((Region.wanted o (yielded ops a.tmps) = true ∧ opW P r o a w (fun a' w' => (∀ j ∈ fl, again P r ops a' w' j) ∧ wpRT P r ops K k a' w')) ∨
       (Region.wanted o (yielded ops a.tmps) = false ∧ wpRT P r ops K k (a.put o.dst undef) w))
  | .alt x y, a, w => wpRT P r ops K x a w ∧ wpRT P r ops K y a w
/-! ### A region that does not draw: the certificate is the text's order -/
def chkLex : Nat → Nat → RT → Bool
  | i, n, .done => i == n
  | i, n, .q j k => i == j && chkLex (i + 1) n k
  | i, n, .l j fl k => i == j && chkLex (i + 1) n k
  | _, _, .alt _ _ => false
theorem wpOpsIn_of_lex {P : Program} {r : Option Nat} {ops : Array Oper} {Q : Exit → Act → World → Prop} : ∀ (t : RT) (i : Nat) (a : Act) (w : World), chkLex i ops.size t = true → i ≤ ops.size →
    wpRT P r ops (Q .normal) t a w → wpOpsIn (fz r) 0 P ops Q (List.range' i (ops.size - i)) a w
  | .done, i, a, w, h, hi, hw => by
    simp only [chkLex, beq_iff_eq] at h
    subst h
    simpa [wpOpsIn, wpRT] using hw
  | .q j k, i, a, w, h, hi, hw => by
    simp only [chkLex, Bool.and_eq_true, beq_iff_eq] at h
    obtain ⟨rfl, h⟩ := h
    obtain ⟨o, d, ho, hd, hlt, hw⟩ := hw
    have hn : i < ops.size := (Array.getElem?_eq_some_iff.1 ho).1
    rw [show ops.size - i = (ops.size - (i + 1)) + 1 from by omega, List.range'_succ]
    rw [wpOpsIn_cons]
    unfold wpOpIn
    simp only [ho]
    rcases hw with ⟨h1, v, hv, hk⟩ | ⟨h1, hk⟩
    · rw [if_pos h1]
      refine opW_wpIn ?_
      unfold opW
      rw [hv.now]
      simp only [opUp, hd]
      exact wpOpsIn_of_lex k (i + 1) _ _ h (by omega) hk
    · rw [if_neg (by rw [h1]; simp)]
      refine ⟨fun f _ => trivial, ?_⟩
      rw [hd]
      exact wpOpsIn_of_lex k (i + 1) _ _ h (by omega) hk
  | .l j fl k, i, a, w, h, hi, hw => by
    simp only [chkLex, Bool.and_eq_true, beq_iff_eq] at h
    obtain ⟨rfl, h⟩ := h
    obtain ⟨o, ho, hw⟩ := hw
    have hn : i < ops.size := (Array.getElem?_eq_some_iff.1 ho).1
    rw [show ops.size - i = (ops.size - (i + 1)) + 1 from by omega, List.range'_succ]
    rw [wpOpsIn_cons]
    unfold wpOpIn
    simp only [ho]
    rcases hw with ⟨h1, hk⟩ | ⟨h1, hk⟩
    · rw [if_pos h1]
      exact opW_wpIn (opUp_mono (fun v w' hh => wpOpsIn_of_lex k (i + 1) _ _ h (by omega) hh.2) hk)
    · rw [if_neg (by rw [h1]; simp)]
      exact ⟨fun f _ => trivial, wpOpsIn_of_lex k (i + 1) _ _ h (by omega) hk⟩
  | .alt _ _, i, a, w, h, hi, hw => by simp [chkLex] at h
theorem wp_plain {P : Program} {r : Option Nat} {id : Nat} {ops : Array Oper} {Q : Exit → Act → World → Prop} {a : Act} {w : World} (t : RT) (hc : chkLex 0 ops.size t = true)
    (h : wpRT P r ops (Q .normal) t a w) : (Code.region id ops false).wpIn (fz r) 0 P Q a w :=
  wpIn_region (by rw [List.range_eq_range']; exact wpOpsIn_of_lex t 0 a w hc (Nat.zero_le _) h)
/-! ### A region that draws -/
def bAny (e : Edge) : Bool := Region.binds .any e
/-- What an operation stands behind, by whatever chain of edges. -/
def Anc (ops : Array Oper) (o : Oper) (k : Nat) : Prop :=
  ∀ S : Nat → Prop, (∀ i oi, ops[i]? = some oi → S i → ∀ e ∈ oi.after, bAny e = true → S e.on) → (∀ e ∈ o.after, bAny e = true → S e.on) → S k
theorem before_anc (ops : Array Oper) : (Region.before ops).size = ops.size ∧ ∀ j o, ops[j]? = some o → ∀ k, ((Region.before ops).getD j 0).testBit k = true → Anc ops o k := by
  have key : ∀ i ≤ ops.size, ∀ acc : Array Nat, acc.size = i → (∀ j, j < i → ∀ o, ops[j]? = some o → ∀ k, (acc.getD j 0).testBit k = true → Anc ops o k) →
      ∀ o, ops[i]? = some o → ∀ k, (o.after.foldl (fun s e => if Region.binds .any e then s ||| 2 ^ e.on ||| acc.getD e.on 0 else s) 0).testBit k = true → Anc ops o k := by
    intro i hi acc hs hacc o ho k hk S hS hpre
    rw [← Array.foldl_toList] at hk
    have : ∀ (l : List Edge) (s : Nat), (∀ e ∈ l, e ∈ o.after) → (∀ k, s.testBit k = true → S k) →
        ∀ k, (l.foldl (fun s e => if Region.binds .any e then s ||| 2 ^ e.on ||| acc.getD e.on 0 else s) s).testBit k = true → S k := by
      intro l
      induction l with
      | nil => intro s _ hs k hk; exact hs k hk
      | cons e l ih =>
        intro s hl hs k hk
        simp only [List.foldl_cons] at hk
        refine ih _ (fun e' he' => hl e' (List.mem_cons_of_mem _ he')) ?_ k hk
        intro k hk
        split at hk
        · rename_i hb
          have hSe : S e.on := hpre e (hl e List.mem_cons_self) hb
          rw [Nat.testBit_or, Nat.testBit_or, Nat.testBit_two_pow] at hk
          simp only [Bool.or_eq_true, decide_eq_true_eq] at hk
          rcases hk with (hk | hk) | hk
          · exact hs k hk
          · subst hk; exact hSe
          · have hlt : e.on < i := by
              rcases Nat.lt_or_ge e.on i with h' | h'
              · exact h'
              · simp [Array.getElem?_eq_none (by omega : acc.size ≤ e.on)] at hk
            have ⟨oe, hoe⟩ : ∃ oe, ops[e.on]? = some oe := ⟨_, Array.getElem?_eq_getElem (by omega)⟩
            exact hacc e.on hlt oe hoe k hk S hS (hS e.on oe hoe hSe)
        · exact hs k hk
    exact this o.after.toList 0 (fun e he => Array.mem_toList_iff.1 he) (by simp) k hk
  have main := Array.foldl_induction (as := ops) (motive := fun i (acc : Array Nat) => acc.size = i ∧ (∀ j, j < i → ∀ o, ops[j]? = some o → ∀ k, (acc.getD j 0).testBit k = true → Anc ops o k))
    (init := #[]) ⟨rfl, by omega⟩ (f := fun acc o => acc.push (o.after.foldl (fun s e => if Region.binds .any e then s ||| 2 ^ e.on ||| acc.getD e.on 0 else s) 0)) (by
      rintro i acc ⟨hs, hacc⟩
      refine ⟨by simp [hs], fun j hj o ho k hk => ?_⟩
      by_cases hji : j < i.val
      · refine hacc j hji o ho k ?_
        simpa [Array.getElem?_push, hs, Nat.ne_of_lt hji] using hk
      · have : j = i.val := by omega
        subst this
        have hk' : (ops[i.val].after.foldl (fun s e => if Region.binds .any e then s ||| 2 ^ e.on ||| acc.getD e.on 0 else s) 0).testBit k = true := by
          have hx : ∀ X : Nat, (acc.push X).getD i.val 0 = X := fun X => by rw [← hs]; simp
          rw [hx] at hk
          exact hk
        have ho' : ops[i.val] = o := by
          have := Array.getElem?_eq_getElem i.isLt
          simp only [Fin.getElem_fin] at *
          rw [ho] at this; exact (Option.some.inj this).symm
        rw [ho'] at hk'
        exact key i.val (Nat.le_of_lt i.isLt) acc hs hacc o ho k hk')
  refine ⟨main.1, fun j o ho k hk => main.2 j (Array.getElem?_eq_some_iff.1 ho).1 o ho k hk⟩
def noDefer (ops : Array Oper) : Bool := ops.all fun o => match o.op with | .defer .. => false | .select .. => false | _ => true
def predsIn (o : Oper) (L : Nat) : Bool := o.after.all fun e => !bAny e || L.testBit e.on
/-- What is asked of the region alone. -/
def stat (ops : Array Oper) (bf : Array Nat) : Bool :=
  noDefer ops && ((List.range ops.size).all fun i => match ops[i]? with
    | none => false
    | some o => (o.after.all fun e => !bAny e || decide (e.on < i)) && (match o.dst with
      | none => true
      | some d => (List.range ops.size).all fun k => k == i || (match ops[k]? with
        | none => false
        | some ok => (ok.dst != some d) && (!(ok.looksAt ops).contains d || (bf.getD k 0).testBit i || (bf.getD i 0).testBit k))))
/-- May this one be carried out early? -/
def qok (ops : Array Oper) (bf : Array Nat) (i : Nat) : Bool :=
  match ops[i]? with
  | none => false
  | some o => match o.dst with
    | none => false
    | some d => !(o.looksAt ops).contains d && (List.range ops.size).all fun k => k == i || (match ops[k]? with
        | none => false
        | some ok => !(ok.looksAt ops).contains d || (bf.getD k 0).testBit i)
def heads : RT → List Nat
  | .l i _ _ => [i]
  | .alt x y => heads x ++ heads y
  | _ => []
def cov (ops : Array Oper) (t : RT) (L : Nat) : Bool := (List.range ops.size).all fun j => L.testBit j || (match ops[j]? with | none => false | some o => !predsIn o L) || (heads t).contains j
def chkD (ops : Array Oper) (bf : Array Nat) : Bool → RT → Nat → Nat → Bool
  | fresh, .done, L, A => fresh && (List.range ops.size).all fun j => L.testBit j
  | fresh, .q i k, L, A => fresh && qok ops bf i && !L.testBit i && (match ops[i]? with | none => false | some o => predsIn o L) && chkD ops bf true k (L ||| 2 ^ i) A
  | fresh, .l i fl k, L, A => (!fresh || cov ops (.l i fl k) L) && !L.testBit i && (match ops[i]? with | none => false | some o => predsIn o L) &&
      ((List.range ops.size).all fun j => !L.testBit j || (A ||| (bf.getD i 0) ||| 2 ^ i).testBit j || (match ops[j]? with | none => true | some o => !reads o) || fl.contains j) &&
      chkD ops bf true k (L ||| 2 ^ i) (A ||| (bf.getD i 0) ||| 2 ^ i)
  | fresh, .alt x y, L, A => (!fresh || cov ops (.alt x y) L) && chkD ops bf false x L A && chkD ops bf false y L A
def chk (ops : Array Oper) (t : RT) : Bool := stat ops (Region.before ops) && chkD ops (Region.before ops) true t 0 0
/-- How the true state (what is listed, a) stands to the eager one (what is in L, ae). -/
structure Sim (P : Program) (r : Option Nat) (ops : Array Oper) (listed : Array Bool) (a ae : Act) (w : World) (L A : Nat) : Prop where
  size : listed.size = ops.size
  defers : ae.defers = a.defers
  tsize : ae.tmps.size = a.tmps.size
  inL : ∀ i, listed.getD i false = true → L.testBit i = true
  ltn : ∀ i, L.testBit i = true → i < ops.size
  down : ∀ i o, ops[i]? = some o → listed.getD i false = true → ∀ e ∈ o.after, bAny e = true → listed.getD e.on false = true
  downL : ∀ i o, ops[i]? = some o → L.testBit i = true → ∀ e ∈ o.after, bAny e = true → L.testBit e.on = true
  inA : ∀ i, A.testBit i = true → listed.getD i false = true
  agree : ∀ t, (∀ i o, ops[i]? = some o → L.testBit i = true → listed.getD i false = false → o.dst ≠ some t) → ae.tmps[t]? = a.tmps[t]?
  pend : ∀ i o, ops[i]? = some o → L.testBit i = true → listed.getD i false = false → qok ops (Region.before ops) i = true ∧ ∃ d, o.dst = some d ∧ d < ae.tmps.size ∧
    ((Region.wanted o (yielded ops ae.tmps) = true ∧ yq P r o ae w (ae.tmps.getD d undef)) ∨ (Region.wanted o (yielded ops ae.tmps) = false ∧ ae.tmps.getD d undef = undef))
theorem noDefer_spec {ops : Array Oper} (h : noDefer ops = true) {i : Nat} {o : Oper} (ho : ops[i]? = some o) : (∀ c, o.op ≠ .defer c) ∧ ∀ cs b, o.op ≠ .select cs b := by
  have := Array.all_eq_true_iff_forall_mem.1 h o (Array.mem_of_getElem? ho)
  constructor
  · intro c e; simp [e] at this
  · intro cs b e; simp [e] at this
theorem semAt_congr {r : Option Nat} {o : Oper} {a b : Act} (hd : ∀ c, o.op ≠ .defer c) (hs : ∀ cs b, o.op ≠ .select cs b) (h : ∀ x ∈ o.op.operands, a.eval x = b.eval x) : o.semAt r a.eval = o.semAt r b.eval := by
  rw [Oper.semAt_eq _ _ _ hd, Oper.semAt_eq _ _ _ hd]
  exact execOp_congr o hs h
theorem looks_operand {ops : Array Oper} {o : Oper} {t : Nat} (h : Operand.tmp t ∈ o.op.operands) : t ∈ o.looksAt ops :=
  List.mem_append_left _ (List.mem_filterMap.2 ⟨.tmp t, by simpa using h, rfl⟩)
theorem eval_congr {ops : Array Oper} {o : Oper} {a b : Act} (h : ∀ t ∈ o.looksAt ops, a.tmps[t]? = b.tmps[t]?) : ∀ x ∈ o.op.operands, a.eval x = b.eval x := by
  intro x hx
  cases x with
  | tmp t =>
    have := h t (looks_operand hx)
    simp only [Act.eval, Array.getD_eq_getD_getElem?, this]
  | _ => rfl
theorem wanted_congr {ops : Array Oper} {o : Oper} {a b : Act} (h : ∀ t ∈ o.looksAt ops, a.tmps[t]? = b.tmps[t]?) : Region.wanted o (yielded ops a.tmps) = Region.wanted o (yielded ops b.tmps) := by
  unfold Region.wanted
  cases hg : o.guard with
  | none => rfl
  | some gw =>
    obtain ⟨g, want⟩ := gw
    have hy : yielded ops a.tmps g = yielded ops b.tmps g := by
      unfold yielded
      cases ht : (ops[g]?).bind (·.dst) with
      | none => rfl
      | some t =>
        have := h t (List.mem_append_right _ (by simp [hg, ht]))
        simp [this]
    simp only [hy]
theorem put_get {a : Act} {d t : Nat} {v : Value} : (a.put (some d) v).tmps[t]? = if d = t then (if d < a.tmps.size then some v else none) else a.tmps[t]? := by
  show (a.tmps.setIfInBounds d v)[t]? = _
  rw [Array.getElem?_setIfInBounds]
theorem put_get_ne {a : Act} {x : Option Nat} {t : Nat} {v : Value} (h : x ≠ some t) : (a.put x v).tmps[t]? = a.tmps[t]? := by
  cases x with
  | none => rfl
  | some d => rw [put_get, if_neg (fun e => h (by rw [e]))]
theorem put_size {a : Act} {x : Option Nat} {v : Value} : (a.put x v).tmps.size = a.tmps.size := by cases x <;> simp [Act.put]
theorem put_defers {a : Act} {x : Option Nat} {v : Value} : (a.put x v).defers = a.defers := by cases x <;> rfl
theorem yq_congr {P : Program} {r : Option Nat} {o : Oper} {a b : Act} {w : World} {v : Value} (h : o.semAt r a.eval = o.semAt r b.eval) (hy : yq P r o a w v) : yq P r o b w v := by
  unfold yq at *
  rw [← h]; exact hy
section
variable {P : Program} {r : Option Nat} {ops : Array Oper}
/-- The facts that 'stat' holds ready. -/
theorem stat_spec (h : stat ops (Region.before ops) = true) : noDefer ops = true ∧
    (∀ i o, ops[i]? = some o → ∀ e ∈ o.after, bAny e = true → e.on < i) ∧
    (∀ i k o ok d, ops[i]? = some o → ops[k]? = some ok → k ≠ i → o.dst = some d → ok.dst ≠ some d ∧ (d ∈ ok.looksAt ops → Anc ops ok i ∨ Anc ops o k)) := by
  simp only [stat, Bool.and_eq_true, List.all_eq_true, List.mem_range] at h
  obtain ⟨h0, h1⟩ := h
  refine ⟨h0, fun i o ho e he hb => ?_, fun i k o ok d ho hk hne hd => ?_⟩
  · have := h1 i (Array.getElem?_eq_some_iff.1 ho).1
    simp only [ho, Bool.and_eq_true] at this
    have := Array.all_eq_true_iff_forall_mem.1 this.1 e he
    simpa [hb] using this
  · have := h1 i (Array.getElem?_eq_some_iff.1 ho).1
    simp only [ho, Bool.and_eq_true, hd, List.all_eq_true, List.mem_range] at this
    have := this.2 k (Array.getElem?_eq_some_iff.1 hk).1
    simp only [hk, Bool.or_eq_true, beq_iff_eq, hne, false_or, Bool.and_eq_true, bne_iff_ne, Bool.not_eq_true'] at this
    refine ⟨this.1, fun hm => ?_⟩
    rcases this.2 with (h2 | h2) | h2
    · simp [hm] at h2
    · exact .inl ((before_anc ops).2 k ok hk i h2)
    · exact .inr ((before_anc ops).2 i o ho k h2)
theorem qok_spec {i : Nat} {o : Oper} (ho : ops[i]? = some o) (h : qok ops (Region.before ops) i = true) : ∃ d, o.dst = some d ∧ d ∉ o.looksAt ops ∧
    ∀ k ok, ops[k]? = some ok → k ≠ i → d ∈ ok.looksAt ops → Anc ops ok i := by
  simp only [qok, ho] at h
  cases hd : o.dst with
  | none => simp [hd] at h
  | some d =>
    simp only [hd, Bool.and_eq_true, List.all_eq_true, List.mem_range] at h
    refine ⟨d, rfl, by simpa using h.1, fun k ok hk hne hm => ?_⟩
    have := h.2 k (Array.getElem?_eq_some_iff.1 hk).1
    simp only [hk, Bool.or_eq_true, beq_iff_eq, hne, false_or, Bool.not_eq_true'] at this
    rcases this with h2 | h2
    · simp [hm] at h2
    · exact (before_anc ops).2 k ok hk i h2
theorem predsIn_spec {o : Oper} {L : Nat} (h : predsIn o L = true) : ∀ e ∈ o.after, bAny e = true → L.testBit e.on = true := fun e he hb => by
  have := Array.all_eq_true_iff_forall_mem.1 h e he
  simpa [hb] using this
theorem predsIn_mk {o : Oper} {L : Nat} (h : ∀ e ∈ o.after, bAny e = true → L.testBit e.on = true) : predsIn o L = true := by
  refine Array.all_eq_true_iff_forall_mem.2 fun e he => ?_
  cases hb : bAny e
  · rfl
  · simp [h e he hb]
theorem bit_or {L i k : Nat} : (L ||| 2 ^ i).testBit k = true ↔ L.testBit k = true ∨ i = k := by
  rw [Nat.testBit_or, Nat.testBit_two_pow]
  simp
/-- What the true frame looks at is the same in the eager one, where the operation may come up. -/
theorem Sim.same {listed : Array Bool} {a ae : Act} {w : World} {L A : Nat} (hs : stat ops (Region.before ops) = true) (S : Sim P r ops listed a ae w L A) {i : Nat} {o : Oper} (ho : ops[i]? = some o)
    (hun : listed.getD i false = false) (hpre : ∀ e ∈ o.after, bAny e = true → listed.getD e.on false = true) : ∀ t ∈ o.looksAt ops, a.tmps[t]? = ae.tmps[t]? := by
  intro t ht
  refine (S.agree t fun k ok hk hkL hkun hd => ?_).symm
  obtain ⟨hq, -⟩ := S.pend k ok hk hkL hkun
  obtain ⟨d, hd', hself, hall⟩ := qok_spec hk hq
  rw [hd] at hd'; cases hd'
  by_cases hki : i = k
  · subst hki; rw [ho] at hk; cases hk; exact hself ht
  · have := hall i o ho hki ht (fun j => listed.getD j false = true) (fun j oj hj hl e he hb => S.down j oj hj hl e he hb) hpre
    rw [hkun] at this; cases this
/-- One more quiet operation is carried out early. -/
theorem Sim.quiet {listed : Array Bool} {a ae : Act} {w : World} {L A : Nat} (hs : stat ops (Region.before ops) = true) (S : Sim P r ops listed a ae w L A) {i : Nat} {o : Oper} (ho : ops[i]? = some o)
    (hq : qok ops (Region.before ops) i = true) (hL : L.testBit i = false) (hp : predsIn o L = true) {d : Nat} (hd : o.dst = some d) (hlt : d < ae.tmps.size) {v : Value}
    (hv : (Region.wanted o (yielded ops ae.tmps) = true ∧ yq P r o ae w v) ∨ (Region.wanted o (yielded ops ae.tmps) = false ∧ v = undef)) :
    Sim P r ops listed a (ae.put (some d) v) w (L ||| 2 ^ i) A := by
  obtain ⟨h0, h1, h2⟩ := stat_spec hs
  obtain ⟨d', hd', hself, hall⟩ := qok_spec ho hq
  rw [hd] at hd'; cases hd'
  have hp' := predsIn_spec hp
  have hil : listed.getD i false = false := by
    cases e : listed.getD i false with
    | false => rfl
    | true => rw [S.inL i e] at hL; cases hL
  -- those that stand early do not look at d
  have nolook : ∀ k ok, ops[k]? = some ok → L.testBit k = true → d ∉ ok.looksAt ops := by
    intro k ok hk hkL hm
    have hki : k ≠ i := fun e => by subst e; rw [hkL] at hL; cases hL
    have := hall k ok hk hki hm (fun j => L.testBit j = true) (fun j oj hj hl => S.downL j oj hj hl) (S.downL k ok hk hkL)
    rw [hL] at this; cases this
  have keep : ∀ k ok, ops[k]? = some ok → L.testBit k = true → ∀ t ∈ ok.looksAt ops, ae.tmps[t]? = (ae.put (some d) v).tmps[t]? := by
    intro k ok hk hkL t ht
    rw [put_get_ne]
    intro e; cases e; exact nolook k ok hk hkL ht
  refine ⟨S.size, by rw [put_defers]; exact S.defers, by rw [put_size]; exact S.tsize, fun k hk => bit_or.2 (.inl (S.inL k hk)), fun k hk => ?_, S.down, fun k ok hk hkL e he hb => ?_, S.inA, fun t ht => ?_, fun k ok hk hkL hkun => ?_⟩
  · rcases bit_or.1 hk with h | h
    · exact S.ltn k h
    · subst h; exact (Array.getElem?_eq_some_iff.1 ho).1
  · rcases bit_or.1 hkL with h | h
    · exact bit_or.2 (.inl (S.downL k ok hk h e he hb))
    · subst h; rw [ho] at hk; cases hk; exact bit_or.2 (.inl (hp' e he hb))
  · have hdt : d ≠ t := fun e => ht i o ho (bit_or.2 (.inr rfl)) hil (by rw [hd, e])
    rw [put_get_ne (by simpa using hdt)]
    exact S.agree t fun k ok hk hkL hkun => ht k ok hk (bit_or.2 (.inl hkL)) hkun
  · rcases bit_or.1 hkL with h | h
    · obtain ⟨hqk, dk, hdk, hltk, hvk⟩ := S.pend k ok hk h hkun
      have hki : k ≠ i := fun e => by subst e; rw [h] at hL; cases hL
      have hne : d ≠ dk := fun e => by subst e; exact (h2 i k o ok d ho hk hki hd).1 hdk
      refine ⟨hqk, dk, hdk, by rw [put_size]; exact hltk, ?_⟩
      have hget : (ae.put (some d) v).tmps.getD dk undef = ae.tmps.getD dk undef := by
        simp only [Array.getD_eq_getD_getElem?]
        rw [put_get_ne (by simpa using hne)]
      rw [hget, ← wanted_congr (keep k ok hk h)]
      rcases hvk with ⟨x1, x2⟩ | ⟨x1, x2⟩
      · exact .inl ⟨x1, yq_congr (semAt_congr (noDefer_spec h0 hk).1 (noDefer_spec h0 hk).2 (eval_congr (keep k ok hk h))) x2⟩
      · exact .inr ⟨x1, x2⟩
    · subst h
      rw [ho] at hk; cases hk
      have hself' : ∀ t ∈ o.looksAt ops, ae.tmps[t]? = (ae.put (some d) v).tmps[t]? := by
        intro t ht
        rw [put_get_ne]
        intro e; cases e; exact hself ht
      have hget : (ae.put (some d) v).tmps.getD d undef = v := by
        simp only [Array.getD_eq_getD_getElem?]
        rw [put_get, if_pos rfl, if_pos hlt]; rfl
      refine ⟨hq, d, hd, by rw [put_size]; exact hlt, ?_⟩
      rw [hget, ← wanted_congr hself']
      rcases hv with ⟨x1, x2⟩ | ⟨x1, x2⟩
      · exact .inl ⟨x1, yq_congr (semAt_congr (noDefer_spec h0 ho).1 (noDefer_spec h0 ho).2 (eval_congr hself')) x2⟩
      · exact .inr ⟨x1, x2⟩
/-- One that stood early comes up in truth. -/
theorem Sim.take {listed : Array Bool} {a ae : Act} {w : World} {L A : Nat} (hs : stat ops (Region.before ops) = true) (S : Sim P r ops listed a ae w L A) {i : Nat} {o : Oper} (ho : ops[i]? = some o)
    (hun : listed.getD i false = false) (hpre : ∀ e ∈ o.after, bAny e = true → listed.getD e.on false = true) (hL : L.testBit i = true) {Q : Exit → Act → World → Prop} {K : Act → World → Prop}
    (hKK : ∀ a', Sim P r ops (listed.setIfInBounds i true) a' ae w L A → K a' w) : wpOpIn (fz r) 0 P ops Q i K a w := by
  obtain ⟨h0, h1, h2⟩ := stat_spec hs
  have hlook := S.same hs ho hun hpre
  obtain ⟨hq, d, hd, hlt, hv⟩ := S.pend i o ho hL hun
  have hin : i < listed.size := by rw [S.size]; exact (Array.getElem?_eq_some_iff.1 ho).1
  have hset : ∀ k, (listed.setIfInBounds i true).getD k false = if k = i then true else listed.getD k false := by
    intro k
    simp only [Array.getD_eq_getD_getElem?, Array.getElem?_setIfInBounds]
    by_cases hki : k = i
    · subst hki; simp [hin]
    · rw [if_neg (Ne.symm hki), if_neg hki]
  have hfin : Sim P r ops (listed.setIfInBounds i true) (a.put (some d) (ae.tmps.getD d undef)) ae w L A := by
    refine ⟨by rw [Array.size_setIfInBounds]; exact S.size, by rw [put_defers]; exact S.defers, by rw [put_size]; exact S.tsize, fun k hk => ?_, S.ltn, fun k ok hk hl e he hb => ?_, S.downL, fun k hk => ?_, fun t ht => ?_, fun k ok hk hkL hkun => ?_⟩
    · rw [hset] at hk
      split at hk
      · rename_i e; rw [e]; exact hL
      · exact S.inL k hk
    · rw [hset] at hl ⊢
      split
      · rfl
      · split at hl
        · rename_i _ e2; subst e2; rw [ho] at hk; cases hk; exact hpre e he hb
        · exact S.down k ok hk hl e he hb
    · rw [hset]; split
      · rfl
      · exact S.inA k hk
    · by_cases hdt : d = t
      · subst hdt
        rw [put_get, if_pos rfl, if_pos (by rw [← S.tsize]; exact hlt)]
        simp [hlt]
      · rw [put_get_ne (by simpa using hdt)]
        refine S.agree t fun k ok hk hkL hkun => ?_
        by_cases hki : k = i
        · subst hki; rw [ho] at hk; cases hk; rw [hd]; simpa using hdt
        · exact ht k ok hk hkL (by rw [hset, if_neg hki]; exact hkun)
    · rw [hset] at hkun
      split at hkun
      · cases hkun
      · exact S.pend k ok hk hkL hkun
  unfold wpOpIn
  simp only [ho]
  rcases hv with ⟨x1, x2⟩ | ⟨x1, x2⟩
  · rw [if_pos (by rw [wanted_congr hlook]; exact x1)]
    refine opW_wpIn ?_
    unfold opW
    rw [semAt_congr (noDefer_spec h0 ho).1 (noDefer_spec h0 ho).2 (eval_congr hlook), x2.now]
    simp only [opUp, hd]
    exact hKK _ hfin
  · rw [if_neg (by rw [wanted_congr hlook, x1]; simp)]
    refine ⟨fun f _ => trivial, ?_⟩
    rw [hd]
    have := hKK _ hfin
    rw [x2] at this
    exact this
/-- A loud one comes up. -/
theorem Sim.loud {listed : Array Bool} {a ae : Act} {w w' : World} {L A : Nat} (hs : stat ops (Region.before ops) = true) (S : Sim P r ops listed a ae w L A) {i : Nat} {o : Oper} (ho : ops[i]? = some o)
    (hun : listed.getD i false = false) (hpre : ∀ e ∈ o.after, bAny e = true → listed.getD e.on false = true) (hL : L.testBit i = false) {fl : List Nat}
    (hfl : ∀ j < ops.size, L.testBit j = true → (A ||| ((Region.before ops).getD i 0) ||| 2 ^ i).testBit j = false → (∀ oj, ops[j]? = some oj → reads oj = true) → j ∈ fl) (v : Value)
    (hag : w' = w ∨ ∀ j ∈ fl, again P r ops (ae.put o.dst v) w' j) :
    Sim P r ops (listed.setIfInBounds i true) (a.put o.dst v) (ae.put o.dst v) w' (L ||| 2 ^ i) (A ||| ((Region.before ops).getD i 0) ||| 2 ^ i) := by
  obtain ⟨h0, h1, h2⟩ := stat_spec hs
  have hin : i < listed.size := by rw [S.size]; exact (Array.getElem?_eq_some_iff.1 ho).1
  have hset : ∀ k, (listed.setIfInBounds i true).getD k false = if k = i then true else listed.getD k false := by
    intro k
    simp only [Array.getD_eq_getD_getElem?, Array.getElem?_setIfInBounds]
    by_cases hki : k = i
    · subst hki; simp [hin]
    · rw [if_neg (Ne.symm hki), if_neg hki]
  have hinA : ∀ k, (A ||| ((Region.before ops).getD i 0) ||| 2 ^ i).testBit k = true → (listed.setIfInBounds i true).getD k false = true := by
    intro k hk
    rw [hset]
    split
    · rfl
    · rename_i hki
      rcases bit_or.1 hk with h | h
      · rw [Nat.testBit_or, Bool.or_eq_true] at h
        rcases h with h | h
        · exact S.inA k h
        · exact (before_anc ops).2 i o ho k h (fun j => listed.getD j false = true) (fun j oj hj hl e he hb => S.down j oj hj hl e he hb) hpre
      · exact absurd h.symm hki
  refine ⟨by rw [Array.size_setIfInBounds]; exact S.size, by rw [put_defers, put_defers]; exact S.defers, by rw [put_size, put_size]; exact S.tsize, fun k hk => ?_, fun k hk => ?_, fun k ok hk hl e he hb => ?_, fun k ok hk hkL e he hb => ?_, hinA, fun t ht => ?_, fun k ok hk hkL hkun => ?_⟩
  · rw [hset] at hk
    split at hk
    · rename_i e; exact bit_or.2 (.inr e.symm)
    · exact bit_or.2 (.inl (S.inL k hk))
  · rcases bit_or.1 hk with h | h
    · exact S.ltn k h
    · subst h; exact (Array.getElem?_eq_some_iff.1 ho).1
  · rw [hset] at hl ⊢
    split
    · rfl
    · split at hl
      · rename_i _ e2; subst e2; rw [ho] at hk; cases hk; exact hpre e he hb
      · exact S.down k ok hk hl e he hb
  · rcases bit_or.1 hkL with h | h
    · exact bit_or.2 (.inl (S.downL k ok hk h e he hb))
    · subst h; rw [ho] at hk; cases hk; exact bit_or.2 (.inl (S.inL _ (hpre e he hb)))
  · have hag : ae.tmps[t]? = a.tmps[t]? ∨ o.dst = some t := by
      by_cases hdt : o.dst = some t
      · exact .inr hdt
      · refine .inl (S.agree t fun k ok hk hkL hkun => ?_)
        by_cases hki : k = i
        · subst hki; rw [hL] at hkL; cases hkL
        · exact ht k ok hk (bit_or.2 (.inl hkL)) (by rw [hset, if_neg hki]; exact hkun)
    rcases hag with e | e
    · by_cases hdt : o.dst = some t
      · rw [hdt, put_get, put_get, S.tsize, e]
      · rw [put_get_ne hdt, put_get_ne hdt]; exact e
    · rw [e, put_get, put_get, S.tsize, if_pos rfl, if_pos rfl]
  · have hki : k ≠ i := fun e => by subst e; rw [hset, if_pos rfl] at hkun; cases hkun
    have hkun' : listed.getD k false = false := by rw [hset, if_neg hki] at hkun; exact hkun
    have hkL' : L.testBit k = true := (bit_or.1 hkL).resolve_right (fun e => hki e.symm)
    obtain ⟨hqk, dk, hdk, hltk, hvk⟩ := S.pend k ok hk hkL' hkun'
    have keep : ∀ t ∈ ok.looksAt ops, ae.tmps[t]? = (ae.put o.dst v).tmps[t]? := by
      intro t ht
      rw [put_get_ne]
      intro e
      rcases (h2 i k o ok t ho hk hki e).2 ht with hx | hx
      · have := hx (fun j => L.testBit j = true) (fun j oj hj hl => S.downL j oj hj hl) (S.downL k ok hk hkL')
        rw [hL] at this; cases this
      · have := hx (fun j => listed.getD j false = true) (fun j oj hj hl e he hb => S.down j oj hj hl e he hb) hpre
        rw [hkun'] at this; cases this
    have hget : (ae.put o.dst v).tmps.getD dk undef = ae.tmps.getD dk undef := by
      simp only [Array.getD_eq_getD_getElem?]
      rw [put_get_ne]
      intro e
      exact (h2 i k o ok dk ho hk hki e).1 hdk
    refine ⟨hqk, dk, hdk, by rw [put_size]; exact hltk, ?_⟩
    have hsem := semAt_congr (r := r) (noDefer_spec h0 hk).1 (noDefer_spec h0 hk).2 (eval_congr keep)
    have hwan := wanted_congr keep
    rcases hvk with ⟨x1, x2⟩ | ⟨x1, x2⟩
    · refine .inl ⟨by rw [← hwan]; exact x1, ?_⟩
      rw [hget]
      rcases hag with e | hag
      · subst e; exact yq_congr hsem x2
      · unfold yq at x2 ⊢
        rw [← hsem]
        by_cases hr : reads ok = true
        · rw [if_pos hr]
          have hkfl : k ∈ fl := by
            refine hfl k (Array.getElem?_eq_some_iff.1 hk).1 hkL' ?_ (fun oj hj => by rw [hk] at hj; cases hj; exact hr)
            cases e : (A ||| ((Region.before ops).getD i 0) ||| 2 ^ i).testBit k with
            | false => rfl
            | true => rw [hinA k e] at hkun; cases hkun
          obtain ⟨d', hd', hrun⟩ := hag k hkfl ok hk (by rw [← hwan]; exact x1)
          rw [hdk] at hd'; cases hd'
          rw [hget, ← hsem] at hrun
          exact hrun
        · rw [if_neg hr] at x2 ⊢
          exact x2
    · exact .inr ⟨by rw [← hwan]; exact x1, by rw [hget]; exact x2⟩
/-- No quiet one stands next. -/
def notq : RT → Bool
  | .q _ _ => false
  | _ => true
theorem Sim.norm {listed : Array Bool} {a : Act} {w : World} {A : Nat} {K : Act → World → Prop} (hs : stat ops (Region.before ops) = true) : ∀ (t : RT) (ae : Act) (L : Nat), Sim P r ops listed a ae w L A → wpRT P r ops K t ae w →
    chkD ops (Region.before ops) true t L A = true → ∃ t' ae' L', Sim P r ops listed a ae' w L' A ∧ wpRT P r ops K t' ae' w ∧ chkD ops (Region.before ops) true t' L' A = true ∧ notq t' = true
  | .q i k, ae, L, S, hw, hc => by
    simp only [chkD, Bool.and_eq_true, Bool.not_eq_true'] at hc
    obtain ⟨⟨⟨⟨-, hq⟩, hL⟩, hp⟩, hc⟩ := hc
    obtain ⟨o, d, ho, hd, hlt, hw⟩ := hw
    simp only [ho] at hp
    rcases hw with ⟨x1, v, hv, hk⟩ | ⟨x1, hk⟩
    · exact Sim.norm hs k _ _ (S.quiet hs ho hq hL hp hd hlt (.inl ⟨x1, hv⟩)) hk hc
    · exact Sim.norm hs k _ _ (S.quiet hs ho hq hL hp hd hlt (.inr ⟨x1, rfl⟩)) hk hc
  | .done, ae, L, S, hw, hc => ⟨_, _, _, S, hw, hc, rfl⟩
  | .l i fl k, ae, L, S, hw, hc => ⟨_, _, _, S, hw, hc, rfl⟩
  | .alt x y, ae, L, S, hw, hc => ⟨_, _, _, S, hw, hc, rfl⟩
theorem find_head {ae : Act} {w : World} {L A j : Nat} {K : Act → World → Prop} : ∀ (t : RT) (fresh : Bool), chkD ops (Region.before ops) fresh t L A = true → j ∈ heads t → wpRT P r ops K t ae w →
    ∃ fl k, wpRT P r ops K (.l j fl k) ae w ∧ (∀ i < ops.size, L.testBit i = true → (A ||| ((Region.before ops).getD j 0) ||| 2 ^ j).testBit i = false → (∀ oj, ops[i]? = some oj → reads oj = true) → i ∈ fl) ∧
      chkD ops (Region.before ops) true k (L ||| 2 ^ j) (A ||| ((Region.before ops).getD j 0) ||| 2 ^ j) = true
  | .done, fresh, hc, hj, hw => by simp [heads] at hj
  | .q i k, fresh, hc, hj, hw => by simp [heads] at hj
  | .l i fl k, fresh, hc, hj, hw => by
    simp only [heads, List.mem_singleton] at hj
    subst hj
    simp only [chkD, Bool.and_eq_true] at hc
    obtain ⟨⟨⟨⟨-, hL⟩, hp⟩, hf⟩, hc⟩ := hc
    refine ⟨fl, k, hw, fun i hi hLi hA hr => ?_, hc⟩
    have := (List.all_eq_true.1 hf) i (List.mem_range.2 hi)
    obtain ⟨oi, hoi⟩ : ∃ oi, ops[i]? = some oi := ⟨_, Array.getElem?_eq_getElem hi⟩
    simp only [hLi, hA, hoi, hr oi hoi, Bool.not_true, Bool.false_or, List.contains_iff_mem] at this
    exact this
  | .alt x y, fresh, hc, hj, hw => by
    simp only [chkD, Bool.and_eq_true] at hc
    simp only [heads, List.mem_append] at hj
    rcases hj with hj | hj
    · exact find_head x false hc.1.2 hj hw.1
    · exact find_head y false hc.2 hj hw.2
theorem cov_of_chk {L A : Nat} : ∀ (t : RT), chkD ops (Region.before ops) true t L A = true → notq t = true → t = .done ∨ cov ops t L = true
  | .done, hc, hn => .inl rfl
  | .q i k, hc, hn => by simp [notq] at hn
  | .l i fl k, hc, hn => by
    simp only [chkD, Bool.and_eq_true, Bool.not_true, Bool.false_or] at hc
    exact .inr hc.1.1.1.1
  | .alt x y, hc, hn => by
    simp only [chkD, Bool.and_eq_true, Bool.not_true, Bool.false_or] at hc
    exact .inr hc.1.1
theorem heads_ready {L A : Nat} : ∀ (t : RT) (fresh : Bool), chkD ops (Region.before ops) fresh t L A = true → t ≠ .done → notq t = true → ∃ j o, ops[j]? = some o ∧ L.testBit j = false ∧ predsIn o L = true
  | .done, fresh, hc, hd, hn => absurd rfl hd
  | .q i k, fresh, hc, hd, hn => by simp [notq] at hn
  | .l i fl k, fresh, hc, hd, hn => by
    simp only [chkD, Bool.and_eq_true, Bool.not_eq_true'] at hc
    obtain ⟨⟨⟨⟨-, hL⟩, hp⟩, hf⟩, hc⟩ := hc
    cases ho : ops[i]? with
    | none => simp [ho] at hp
    | some o => simp only [ho] at hp; exact ⟨i, o, ho, hL, hp⟩
  | .alt x y, fresh, hc, hd, hn => by
    simp only [chkD, Bool.and_eq_true] at hc
    cases x with
    | done => simp [chkD] at hc
    | q i k => simp [chkD] at hc
    | l i fl k => exact heads_ready (.l i fl k) false hc.1.2 (by simp) rfl
    | alt x1 x2 => exact heads_ready (.alt x1 x2) false hc.1.2 (by simp) rfl
theorem wpAny_of_RT {Q : Exit → Act → World → Prop} (hs : stat ops (Region.before ops) = true) : ∀ (fuel : Nat) (listed : Array Bool) (a ae : Act) (w : World) (L A : Nat) (t : RT), Sim P r ops listed a ae w L A →
    wpRT P r ops (Q .normal) t ae w → chkD ops (Region.before ops) true t L A = true → listed.toList.count false ≤ fuel → wpAnyIn (fz r) 0 P .any ops Q fuel listed a w := by
  intro fuel
  induction fuel with
  | zero =>
    intro listed a ae w L A t S hw hc hcount
    have hall : ∀ i, i < listed.size → listed.getD i false = true := by
      intro i hi
      have h0 : false ∉ listed.toList := List.count_eq_zero.1 (Nat.le_zero.1 hcount)
      have : listed[i] ∈ listed.toList := by simp
      cases e : listed[i] with
      | false => rw [e] at this; exact absurd this h0
      | true => simp [hi, e]
    have hr : Region.ready .any ops listed = [] := by
      rw [List.eq_nil_iff_forall_not_mem]
      intro j hj
      obtain ⟨h1, o, ho, -⟩ := mem_ready.1 hj
      have := hall j (by rw [S.size]; exact (Array.getElem?_eq_some_iff.1 ho).1)
      have hlt : j < listed.size := by rw [S.size]; exact (Array.getElem?_eq_some_iff.1 ho).1
      simp only [Array.getD_eq_getD_getElem?, Array.getElem?_eq_getElem hlt, Option.getD_some] at this h1
      rw [this] at h1; cases h1
    obtain ⟨t', ae', L', S', hw', hc', hn'⟩ := S.norm hs t ae L hw hc
    have hLl : ∀ i, L'.testBit i = true → listed.getD i false = true := fun i hi => hall i (by rw [S.size]; exact S'.ltn i hi)
    have hdone : t' = .done := by
      apply Classical.byContradiction
      intro hd
      obtain ⟨j, o, ho, hL, hp⟩ := heads_ready t' true hc' hd hn'
      have := S'.inL j (hall j (by rw [S.size]; exact (Array.getElem?_eq_some_iff.1 ho).1))
      rw [hL] at this; cases this
    subst hdone
    have hae : ae' = a := by
      have h1 : ae'.tmps = a.tmps := Array.ext_getElem? fun t => S'.agree t fun i o ho hi hun => by rw [hLl i hi] at hun; cases hun
      have h2 := S'.defers
      cases ae'; cases a; simp_all
    subst hae
    exact ⟨hr, hw'⟩
  | succ fuel ih =>
    intro listed a ae w L A t S hw hc hcount
    obtain ⟨h0, h1, h2⟩ := stat_spec hs
    obtain ⟨t', ae', L', S', hw', hc', hn'⟩ := S.norm hs t ae L hw hc
    have hgd : ∀ j o, ops[j]? = some o → listed.getD j true = listed.getD j false := fun j o ho => by
      have hlt : j < listed.size := by rw [S.size]; exact (Array.getElem?_eq_some_iff.1 ho).1
      simp [hlt]
    refine ⟨fun hr => ?_, fun i hi => ?_⟩
    · have hnr : ∀ j o, ops[j]? = some o → listed.getD j false = false → ¬ ∀ e ∈ o.after, bAny e = true → listed.getD e.on false = true := fun j o ho hl hp => by
        have : j ∈ Region.ready .any ops listed := mem_ready.2 ⟨by rw [hgd j o ho]; exact hl, o, ho, hp⟩
        rw [hr] at this; cases this
      have hLl : ∀ n i, i < n → L'.testBit i = true → listed.getD i false = true := by
        intro n
        induction n with
        | zero => intro i hi; omega
        | succ n ihn =>
          intro i hi hLi
          obtain ⟨o, ho⟩ : ∃ o, ops[i]? = some o := ⟨_, Array.getElem?_eq_getElem (S'.ltn i hLi)⟩
          cases hl : listed.getD i false with
          | true => rfl
          | false =>
            exact absurd (fun e he hb => ihn e.on (by have := h1 i o ho e he hb; omega) (S'.downL i o ho hLi e he hb)) (hnr i o ho hl)
      have hdone : t' = .done := by
        apply Classical.byContradiction
        intro hd
        obtain ⟨j, o, ho, hL, hp⟩ := heads_ready t' true hc' hd hn'
        have hl : listed.getD j false = false := by
          cases e : listed.getD j false with
          | false => rfl
          | true => rw [S'.inL j e] at hL; cases hL
        exact hnr j o ho hl fun e he hb => hLl (e.on + 1) e.on (Nat.lt_succ_self _) (predsIn_spec hp e he hb)
      subst hdone
      have hae : ae' = a := by
        have h1 : ae'.tmps = a.tmps := Array.ext_getElem? fun t => S'.agree t fun i o ho hi hun => by rw [hLl (i + 1) i (Nat.lt_succ_self _) hi] at hun; cases hun
        have h2 := S'.defers
        cases ae'; cases a; simp_all
      subst hae
      exact hw'
    · obtain ⟨hl, o, ho, hpre⟩ := mem_ready.1 hi
      rw [hgd i o ho] at hl
      have hcnt : (listed.setIfInBounds i true).toList.count false ≤ fuel := by
        have hlt : i < listed.toList.length := by rw [Array.length_toList, S.size]; exact (Array.getElem?_eq_some_iff.1 ho).1
        rw [Array.toList_setIfInBounds]
        have hf : listed.toList[i] = false := by
          have hlt' : i < listed.size := by simpa using hlt
          simpa [hlt'] using hl
        have hpos : 0 < listed.toList.count false := List.count_pos_iff.2 (hf ▸ List.getElem_mem hlt)
        rw [List.count_set hlt, hf]
        have e1 : (false == false) = true := rfl
        have e2 : (true == false) = false := rfl
        simp only [e1, e2, if_true, Bool.false_eq_true, if_false]
        omega
      by_cases hLi : L'.testBit i = true
      · exact S'.take hs ho hl hpre hLi fun a' Sa => ih _ _ _ _ _ _ _ Sa hw' hc' hcnt
      · have hLi : L'.testBit i = false := by simpa using hLi
        have hj : i ∈ heads t' := by
          have hp : predsIn o L' = true := predsIn_mk fun e he hb => S'.inL _ (hpre e he hb)
          rcases cov_of_chk t' hc' hn' with hd | hcov
          · subst hd
            simp only [chkD, Bool.true_and] at hc'
            have := (List.all_eq_true.1 hc') i (List.mem_range.2 (Array.getElem?_eq_some_iff.1 ho).1)
            rw [hLi] at this; cases this
          · have := (List.all_eq_true.1 hcov) i (List.mem_range.2 (Array.getElem?_eq_some_iff.1 ho).1)
            simpa [hLi, ho, hp] using this
        obtain ⟨fl, k, hwl, hfl, hck⟩ := find_head t' true hc' hj hw'
        obtain ⟨o', ho', hwl⟩ := hwl
        rw [ho] at ho'; cases ho'
        have hlook := S'.same hs ho hl hpre
        unfold wpOpIn
        simp only [ho]
        rcases hwl with ⟨x1, x2⟩ | ⟨x1, x2⟩
        · rw [if_pos (by rw [wanted_congr hlook]; exact x1)]
          refine opW_wpIn ?_
          unfold opW at x2 ⊢
          rw [semAt_congr (noDefer_spec h0 ho).1 (noDefer_spec h0 ho).2 (eval_congr hlook)]
          exact opUp_mono (fun v w' hh => ih _ _ _ _ _ _ _ (S'.loud hs ho hl hpre hLi hfl v (.inr hh.1)) hh.2 hck hcnt) x2
        · rw [if_neg (by rw [wanted_congr hlook, x1]; simp)]
          exact ⟨fun f _ => trivial, ih _ _ _ _ _ _ _ (S'.loud hs ho hl hpre hLi hfl undef (.inl rfl)) x2 hck hcnt⟩
end
theorem wp_draw {P : Program} {r : Option Nat} {id : Nat} {ops : Array Oper} {Q : Exit → Act → World → Prop} {a : Act} {w : World} (hm : P.follows .mixedOrders = true) (t : RT) (hc : chk ops t = true)
    (h : wpRT P r ops (Q .normal) t a { w with drawn := w.drawn + 1 }) : (Code.region id ops true).wpIn (fz r) 0 P Q a w := by
  simp only [chk, Bool.and_eq_true] at hc
  refine wpIn_region_any hm (wpAny_of_RT hc.1 _ _ _ a _ 0 0 t ?_ h hc.2 ?_)
  · have hz : ∀ i, (Array.replicate ops.size false).getD i false = false := by
      intro i
      simp only [Array.getD_eq_getD_getElem?, Array.getElem?_replicate]
      split <;> rfl
    exact ⟨by simp, rfl, rfl, fun i hi => (by rw [hz] at hi; cases hi), fun i hi => (by simp at hi), fun i o ho hi => (by rw [hz] at hi; cases hi), fun i o ho hi => (by simp at hi), fun i hi => (by simp at hi), fun t _ => rfl, fun i o ho hi => (by simp at hi)⟩
  · simp [List.count_replicate]
end Go.Ab
set_option linter.unusedVariables false
set_option linter.unusedSimpArgs false
namespace Go.Ab
open Go
abbrev Env := List (Nat × Value)
def look : Env → Nat → Option Value
  | [], _ => none
  | (k, v) :: e, t => bif Nat.beq k t then some v else look e t
def ev (e : Env) : Operand → Option Value
  | .tmp t => look e t
  | .const v => some v
  | .global g => some (.pointer (some ⟨g, 0, none⟩))
  | .func f => some (.func (.func f) #[] #[])
def evs (e : Env) : List Operand → Option (List Value)
  | [] => some []
  | x :: xs => match ev e x, evs e xs with
    | some v, some vs => some (v :: vs)
    | _, _ => none
def nthO : List Oper → Nat → Option Oper
  | [], _ => none
  | o :: _, 0 => some o
  | _ :: l, n + 1 => nthO l n
theorem nthO_eq (l : List Oper) : ∀ i, nthO l i = l[i]? := by
  induction l with
  | nil => intro i; cases i <;> rfl
  | cons o l ih => intro i; cases i with
    | zero => rfl
    | succ n => simpa [nthO] using ih n
/-- Is the operation wanted, by what is known of the slots? -/
def gd (l : List Oper) (e : Env) : Option (Nat × Bool) → Option Bool
  | none => some true
  | some (j, want) => match (nthO l j).bind (·.dst) with
    | some t => match look e t with
      | some (.bool b) => some (b == want)
      | some (.tuple _) => some false
      | _ => none
    | none => none
structure St (w0 : World) (ds : List Deferred) (n : Nat) (e : Env) (Γ : List HProp) (a : Act) (w : World) : Prop where
  defers : a.defers = ds
  size : a.tmps.size = n
  env : ∀ t v, look e t = some v → a.tmps.getD t undef = v
  heap : Sat Γ (lh w)
  amb : Amb w0 w
def Le (S X : Act → World → Prop) : Prop := ∀ a w, S a w → X a w
section
variable {w0 : World} {ds : List Deferred} {n : Nat} {e : Env} {Γ : List HProp} {a : Act} {w : World}
theorem St.ev (S : St w0 ds n e Γ a w) {x : Operand} {v : Value} (h : ev e x = some v) : a.eval x = v := by
  cases x with
  | tmp t => exact S.env t v h
  | const u => simp only [Ab.ev, Option.some.injEq] at h; exact h
  | global g => simp only [Ab.ev, Option.some.injEq] at h; exact h
  | func f => simp only [Ab.ev, Option.some.injEq] at h; exact h
theorem St.evs (S : St w0 ds n e Γ a w) : ∀ {xs : List Operand} {vs : List Value}, evs e xs = some vs → xs.map a.eval = vs
  | [], vs, h => by simp only [Ab.evs, Option.some.injEq] at h; subst h; rfl
  | x :: xs, vs, h => by
    simp only [Ab.evs] at h
    cases h1 : Ab.ev e x with
    | none => simp [h1] at h
    | some v =>
      cases h2 : Ab.evs e xs with
      | none => simp [h1, h2] at h
      | some us =>
        simp only [h1, h2, Option.some.injEq] at h
        subst h
        simp only [List.map_cons, S.ev h1, S.evs h2]
theorem St.put (S : St w0 ds n e Γ a w) {d : Nat} {v : Value} (hd : Nat.blt d n = true) : St w0 ds n ((d, v) :: e) Γ (a.put (some d) v) w := by
  have hd : d < n := by
    have : d + 1 ≤ n := by simpa [Nat.blt] using hd
    omega
  refine ⟨by rw [put_defers]; exact S.defers, by rw [put_size]; exact S.size, fun t u h => ?_, S.heap, S.amb⟩
  simp only [look] at h
  rw [Array.getD_eq_getD_getElem?, put_get]
  cases hb : Nat.beq d t with
  | true =>
    rw [hb] at h
    simp only [cond_true, Option.some.injEq] at h
    have : d = t := Nat.eq_of_beq_eq_true hb
    subst this; subst h
    rw [if_pos rfl, if_pos (by rw [S.size]; exact hd)]; rfl
  | false =>
    rw [hb] at h
    have hne : d ≠ t := Nat.ne_of_beq_eq_false hb
    rw [if_neg hne, ← Array.getD_eq_getD_getElem?]
    exact S.env t u h
theorem St.world {w' : World} {Γ' : List HProp} (S : St w0 ds n e Γ a w) (h : Sat Γ' (lh w')) (am : Amb w w') : St w0 ds n e Γ' a w' :=
  ⟨S.defers, S.size, S.env, h, S.amb.trans am⟩
theorem St.wanted {l : List Oper} {o : Oper} {b : Bool} (S : St w0 ds n e Γ a w) (h : gd l e o.guard = some b) : Region.wanted o (yielded l.toArray a.tmps) = b := by
  unfold Region.wanted
  cases hg : o.guard with
  | none => rw [hg] at h; simp only [gd, Option.some.injEq] at h; exact h
  | some g =>
    obtain ⟨j, want⟩ := g
    rw [hg] at h
    simp only [gd, nthO_eq] at h
    cases ht : (l[j]?).bind (·.dst) with
    | none => simp [ht] at h
    | some t =>
      simp only [ht] at h
      cases hl : look e t with
      | none => simp [hl] at h
      | some v =>
        have hv := S.env t v hl
        cases v <;> simp only [hl, Option.some.injEq] at h <;> try (cases h; done)
        case bool c =>
          have ht' : a.tmps[t]? = some (.bool c) := by
            rw [Array.getD_eq_getD_getElem?] at hv
            cases hh : a.tmps[t]? with
            | none => rw [hh] at hv; simp [undef] at hv
            | some x => rw [hh] at hv; simp at hv; rw [hv]
          simp only [yielded, List.getElem?_toArray, ht, Option.bind_some, ht']
          subst h
          cases c <;> cases want <;> rfl
        case tuple c =>
          have ht' : a.tmps[t]? = some (.tuple c) ∨ a.tmps[t]? = none := by
            rw [Array.getD_eq_getD_getElem?] at hv
            cases hh : a.tmps[t]? with
            | none => exact .inr rfl
            | some x => rw [hh] at hv; simp at hv; rw [hv]; exact .inl rfl
          simp only [yielded, List.getElem?_toArray, ht, Option.bind_some]
          rcases ht' with e | e <;> (rw [e]; subst h; rfl)
end
/-! ### The rules of code -/
section
variable {P : Program} {r : Option Nat} {Q : Exit → Act → World → Prop} {S : Act → World → Prop}
theorem Le.trans {S T X : Act → World → Prop} (h : Le S T) (k : Le T X) : Le S X := fun a w s => k a w (h a w s)
theorem c_seq {x y : Code} (h : Le S (x.wpIn (fz r) 0 P (Exit.then (y.wpIn (fz r) 0 P Q) Q))) : Le S ((Code.seq x y).wpIn (fz r) 0 P Q) := fun a w s => wpIn_seq (h a w s)
theorem c_block {id : Nat} {x : Code} (h : Le S (x.wpIn (fz r) 0 P (Exit.inBlock id Q))) : Le S ((Code.block id x).wpIn (fz r) 0 P Q) := fun a w s => wpIn_block (h a w s)
theorem c_skip (h : Le S (Q .normal)) : Le S (Code.skip.wpIn (fz r) 0 P Q) := fun a w s => wpIn_skip (h a w s)
theorem c_exit {id : Nat} (h : Le S (Q (.exit id))) : Le S ((Code.exit id).wpIn (fz r) 0 P Q) := fun a w s => wpIn_exit (h a w s)
theorem c_ret (h : Le S (Q .ret)) : Le S (Code.ret.wpIn (fz r) 0 P Q) := fun a w s => wpIn_ret (h a w s)
theorem k_then_n {K : Act → World → Prop} (h : Le S K) : Le S (Exit.then K Q .normal) := h
theorem k_then_ret {K : Act → World → Prop} (h : Le S (Q .ret)) : Le S (Exit.then K Q .ret) := h
theorem k_then_exit {K : Act → World → Prop} {id : Nat} (h : Le S (Q (.exit id))) : Le S (Exit.then K Q (.exit id)) := h
theorem k_blk_n {id : Nat} (h : Le S (Q .normal)) : Le S (Exit.inBlock id Q .normal) := h
theorem k_blk_ret {id : Nat} (h : Le S (Q .ret)) : Le S (Exit.inBlock id Q .ret) := h
theorem k_blk_here {id : Nat} (h : Le S (Q .normal)) : Le S (Exit.inBlock id Q (.exit id)) := fun a w s => by
  simp only [Exit.inBlock, if_true]; exact h a w s
theorem k_blk_out {id j : Nat} (hne : Nat.beq j id = false) (h : Le S (Q (.exit j))) : Le S (Exit.inBlock id Q (.exit j)) := fun a w s => by
  have : j ≠ id := Nat.ne_of_beq_eq_false hne
  simp only [Exit.inBlock, this, if_false]; exact h a w s
variable {w0 : World} {ds : List Deferred} {n : Nat} {e : Env} {Γ : List HProp}
theorem c_cond {c : Operand} {x y : Code} {b : Bool} (hc : ev e c = some (.bool b)) (ht : b = true → Le (St w0 ds n e Γ) (x.wpIn (fz r) 0 P Q)) (hf : b = false → Le (St w0 ds n e Γ) (y.wpIn (fz r) 0 P Q)) :
    Le (St w0 ds n e Γ) ((Code.cond c x y).wpIn (fz r) 0 P Q) := fun a w s => wpIn_cond_split (s.ev hc) (fun h => ht h a w s) (fun h => hf h a w s)
theorem c_cond_p {c : Operand} {x y : Code} {p : Prop} [Decidable p] (hc : ev e c = some (.bool (decide p))) (ht : p → Le (St w0 ds n e Γ) (x.wpIn (fz r) 0 P Q)) (hf : ¬ p → Le (St w0 ds n e Γ) (y.wpIn (fz r) 0 P Q)) :
    Le (St w0 ds n e Γ) ((Code.cond c x y).wpIn (fz r) 0 P Q) := c_cond hc (fun h => ht (of_decide_eq_true h)) (fun h => hf (of_decide_eq_false h))
theorem c_cond_t {c : Operand} {x y : Code} (hc : ev e c = some (.bool true)) (ht : Le (St w0 ds n e Γ) (x.wpIn (fz r) 0 P Q)) :
    Le (St w0 ds n e Γ) ((Code.cond c x y).wpIn (fz r) 0 P Q) := fun a w s => wpIn_cond_true (s.ev hc) (ht a w s)
theorem c_cond_f {c : Operand} {x y : Code} (hc : ev e c = some (.bool false)) (hf : Le (St w0 ds n e Γ) (y.wpIn (fz r) 0 P Q)) :
    Le (St w0 ds n e Γ) ((Code.cond c x y).wpIn (fz r) 0 P Q) := fun a w s => wpIn_cond_false (s.ev hc) (hf a w s)
theorem c_plain {id : Nat} {l : List Oper} (t : RT) (hc : chkLex 0 l.length t = true) (h : Le S (wpRT P r l.toArray (Q .normal) t)) : Le S ((Code.region id l.toArray false).wpIn (fz r) 0 P Q) :=
  fun a w s => wp_plain t (by simpa using hc) (h a w s)
theorem c_draw {id : Nat} {l : List Oper} (hm : P.follows .mixedOrders = true) (t : RT) (hc : chk l.toArray t = true) (h : Le (St w0 ds n e Γ) (wpRT P r l.toArray (Q .normal) t)) :
    Le (St w0 ds n e Γ) ((Code.region id l.toArray true).wpIn (fz r) 0 P Q) :=
  fun a w s => wp_draw hm t hc (h a _ ⟨s.defers, s.size, s.env, s.heap, ⟨s.amb.os, s.amb.tape, s.amb.output, s.amb.size⟩⟩)
/-- Fewer slots are kept in mind. -/
def EnvLe (e' e : Env) : Prop := ∀ t v, look e' t = some v → look e t = some v
theorem s_env {e' : Env} {X : Act → World → Prop} (h : EnvLe e' e) (k : Le (St w0 ds n e' Γ) X) : Le (St w0 ds n e Γ) X :=
  fun a w s => k a w ⟨s.defers, s.size, fun t v ht => s.env t v (h t v ht), s.heap, s.amb⟩
/-- A list of slots with what they hold. -/
def keepE (e : Env) : List Nat → Env
  | [] => []
  | t :: ts => match look e t with
    | some v => (t, v) :: keepE e ts
    | none => keepE e ts
theorem keepE_le (e : Env) : ∀ ts, EnvLe (keepE e ts) e
  | [], t, v, h => by cases h
  | k :: ts, t, v, h => by
    simp only [keepE] at h
    cases hk : look e k with
    | none => rw [hk] at h; exact keepE_le e ts t v h
    | some u =>
      simp only [hk, look] at h
      cases hb : Nat.beq k t with
      | true =>
        rw [hb] at h
        simp only [cond_true, Option.some.injEq] at h
        have := Nat.eq_of_beq_eq_true hb
        subst this; subst h; exact hk
      | false => rw [hb] at h; exact keepE_le e ts t v h
theorem s_keep {X : Act → World → Prop} (ts : List Nat) {e' : Env} (he : keepE e ts = e') (k : Le (St w0 ds n e' Γ) X) : Le (St w0 ds n e Γ) X :=
  s_env (he ▸ keepE_le e ts) k
theorem s_heap {Γ' : List HProp} {X : Act → World → Prop} (h : ∀ hp, Sat Γ hp → Sat Γ' hp) (k : Le (St w0 ds n e Γ') X) : Le (St w0 ds n e Γ) X :=
  fun a w s => k a w ⟨s.defers, s.size, s.env, h _ s.heap, s.amb⟩
theorem s_bun {Δ : List HProp} {X : Act → World → Prop} (k : Le (St w0 ds n e (Δ ++ Γ)) X) : Le (St w0 ds n e (Bun Δ :: Γ)) X := s_heap (fun _ h => Bun.unfold h) k
theorem s_take {Γ' : List HProp} {A : HProp} {X : Act → World → Prop} (t : Take Γ A Γ') (k : Le (St w0 ds n e (A :: Γ')) X) : Le (St w0 ds n e Γ) X := s_heap t k
/-- What the resources tell. -/
theorem s_know {p : Prop} {X : Act → World → Prop} (h : ∀ hp, Sat Γ hp → p) (k : p → Le (St w0 ds n e Γ) X) : Le (St w0 ds n e Γ) X := fun a w s => k (h _ s.heap) a w s
/-- A loop. -/
theorem c_loop {α : Type} {c : Code} (φ : α → Prop) (E : α → Env) (G : α → List HProp) (μ : α → Nat) (h0 : Le S (fun a w => ∃ x, φ x ∧ St w0 ds n (E x) (G x) a w))
    (round : ∀ x, φ x → Le (St w0 ds n (E x) (G x)) (c.wpIn (fz r) 0 P (Exit.then (fun a w => ∃ y, (φ y ∧ μ y < μ x) ∧ St w0 ds n (E y) (G y) a w) Q))) : Le S ((Code.loop c).wpIn (fz r) 0 P Q) := by
  intro a w s b k cs hro hb hr
  obtain ⟨x0, hx0, s0⟩ := h0 a w s
  have key : ∀ m x a w, μ x = m → φ x → St w0 ds n (E x) (G x) a w →
      ∃ e a' w', Q e a' w' ∧ ArrivesIn (Machine.fenced P (fz r)) P (lone (b.atR a (.code c :: .inLoop c :: k)) cs w) b k cs e a' w' := by
    intro m
    induction m using Nat.strongRecOn with
    | _ m ih =>
      intro x a w hm hx sx
      obtain ⟨ex, a₁, w₁, hq, harr⟩ := round x hx a w sx b (.inLoop c :: k) cs hro hb hr
      cases ex with
      | normal =>
        obtain ⟨y, ⟨hy, hlt⟩, sy⟩ := hq
        obtain ⟨e₂, a₂, w₂, hq₂, harr₂⟩ := ih (μ y) (hm ▸ hlt) y a₁ w₁ rfl hy sy
        exact ⟨e₂, a₂, w₂, hq₂, .of_steps (StepsIn.trans harr (.one (fenced_calm hb hr rfl) stepR_inLoop)) harr₂⟩
      | exit id => exact ⟨_, a₁, w₁, hq, .pass (x := .inLoop c) rfl (fun _ _ => .inl (by simp)) harr⟩
      | goto l => exact ⟨_, a₁, w₁, hq, .pass (x := .inLoop c) rfl (fun _ _ => .inl (by simp)) harr⟩
      | ret => exact ⟨_, a₁, w₁, hq, .pass (x := .inLoop c) rfl (fun _ _ => .inl (by simp)) harr⟩
      | panic ch => exact ⟨_, a₁, w₁, hq, .pass (x := .inLoop c) rfl (fun _ _ => .inl (by simp)) harr⟩
      | outgrown => exact ⟨_, a₁, w₁, hq, .pass (x := .inLoop c) rfl (fun _ _ => .inl (by simp)) harr⟩
  obtain ⟨e', a', w', hq, harr⟩ := key _ x0 a w rfl hx0 s0
  exact ⟨e', a', w', hq, .of_steps (.one (fenced_calm hb hr rfl) stepR_loop) harr⟩
end
end Go.Ab
set_option linter.unusedVariables false
set_option linter.unusedSimpArgs false
namespace Go.Ab
open Go
section
variable {P : Program} {r : Option Nat} {w0 : World} {ds : List Deferred} {n : Nat} {e : Env} {Γ : List HProp} {K : Act → World → Prop} {l : List Oper} {i : Nat} {t : RT}
/-- A quiet operation that does not look into memory. -/
theorem q_pure {o : Oper} {d : Nat} {v : Value} (ho : nthO l i = some o) (hg : gd l e o.guard = some true) (hd : o.dst = some d) (hn : Nat.blt d n = true) (hr : reads o = false)
    (hnd : ∀ c, o.op ≠ .defer c) (hv : ∀ a w, St w0 ds n e Γ a w → ∀ w', (execOp a.eval o).run P w' = .ok (.value v) w')
    (k : Le (St w0 ds n ((d, v) :: e) Γ) (wpRT P r l.toArray K t)) : Le (St w0 ds n e Γ) (wpRT P r l.toArray K (.q i t)) := by
  intro a w s
  refine ⟨o, d, by simpa [nthO_eq] using ho, hd, ?_, .inl ⟨s.wanted hg, v, ?_, k _ _ (s.put hn)⟩⟩
  · have : d + 1 ≤ n := by simpa [Nat.blt] using hn
    rw [s.size]; exact this
  · unfold yq
    rw [if_neg (by simp [hr])]
    intro w'
    rw [Oper.semAt_eq _ _ _ hnd]
    exact hv a w s w'
/-- A quiet operation that looks into memory. -/
theorem q_read {o : Oper} {d : Nat} {v : Value} (ho : nthO l i = some o) (hg : gd l e o.guard = some true) (hd : o.dst = some d) (hn : Nat.blt d n = true) (hr : reads o = true)
    (hnd : ∀ c, o.op ≠ .defer c) (hv : ∀ a w, St w0 ds n e Γ a w → (execOp a.eval o).run P w = .ok (.value v) w)
    (k : Le (St w0 ds n ((d, v) :: e) Γ) (wpRT P r l.toArray K t)) : Le (St w0 ds n e Γ) (wpRT P r l.toArray K (.q i t)) := by
  intro a w s
  refine ⟨o, d, by simpa [nthO_eq] using ho, hd, ?_, .inl ⟨s.wanted hg, v, ?_, k _ _ (s.put hn)⟩⟩
  · have : d + 1 ≤ n := by simpa [Nat.blt] using hn
    rw [s.size]; exact this
  · unfold yq
    rw [if_pos hr, Oper.semAt_eq _ _ _ hnd]
    exact hv a w s
/-- An operation that is not wanted. -/
theorem q_skip {o : Oper} {d : Nat} (ho : nthO l i = some o) (hg : gd l e o.guard = some false) (hd : o.dst = some d) (hn : Nat.blt d n = true)
    (k : Le (St w0 ds n ((d, undef) :: e) Γ) (wpRT P r l.toArray K t)) : Le (St w0 ds n e Γ) (wpRT P r l.toArray K (.q i t)) := by
  intro a w s
  refine ⟨o, d, by simpa [nthO_eq] using ho, hd, ?_, .inr ⟨s.wanted hg, k _ _ (s.put hn)⟩⟩
  have : d + 1 ≤ n := by simpa [Nat.blt] using hn
  rw [s.size]; exact this
theorem l_skip {o : Oper} {d : Nat} {fl : List Nat} (ho : nthO l i = some o) (hg : gd l e o.guard = some false) (hd : o.dst = some d) (hn : Nat.blt d n = true)
    (k : Le (St w0 ds n ((d, undef) :: e) Γ) (wpRT P r l.toArray K t)) : Le (St w0 ds n e Γ) (wpRT P r l.toArray K (.l i fl t)) := by
  intro a w s
  refine ⟨o, by simpa [nthO_eq] using ho, .inr ⟨s.wanted hg, ?_⟩⟩
  rw [hd]; exact k _ _ (s.put hn)
theorem r_done (k : Le (St w0 ds n e Γ) K) : Le (St w0 ds n e Γ) (wpRT P r l.toArray K .done) := k
theorem r_alt {x y : RT} {S : Act → World → Prop} (h1 : Le S (wpRT P r l.toArray K x)) (h2 : Le S (wpRT P r l.toArray K y)) : Le S (wpRT P r l.toArray K (.alt x y)) := fun a w s => ⟨h1 a w s, h2 a w s⟩
/-- A slot holds a Bool that is not known: both ways. -/
theorem s_bool {X : Act → World → Prop} (d : Nat) {b : Bool} (h : look e d = some (.bool b)) (ht : b = true → Le (St w0 ds n ((d, .bool true) :: e) Γ) X) (hf : b = false → Le (St w0 ds n ((d, .bool false) :: e) Γ) X) : Le (St w0 ds n e Γ) X := by
  have key : ∀ c, b = c → EnvLe ((d, .bool c) :: e) e := by
    intro c hc t v hv
    simp only [look] at hv
    cases hb : Nat.beq d t with
    | true =>
      rw [hb] at hv
      have := Nat.eq_of_beq_eq_true hb
      subst this
      simp only [cond_true, Option.some.injEq] at hv
      rw [h, hc, hv]
    | false => rw [hb] at hv; exact hv
  cases b with
  | true => exact s_env (key true rfl) (ht rfl)
  | false => exact s_env (key false rfl) (hf rfl)
theorem s_bool_p {X : Act → World → Prop} (d : Nat) {p : Prop} [Decidable p] (h : look e d = some (.bool (decide p))) (ht : p → Le (St w0 ds n ((d, .bool true) :: e) Γ) X) (hf : ¬ p → Le (St w0 ds n ((d, .bool false) :: e) Γ) X) : Le (St w0 ds n e Γ) X :=
  s_bool d h (fun h => ht (of_decide_eq_true h)) (fun h => hf (of_decide_eq_false h))
variable {d : Nat} {ty : TypeId} {pos : String} {af : Array Edge} {g : Option (Nat × Bool)}
theorem q_move {x : Operand} {v : Value} (ho : nthO l i = some ⟨some d, .move x, ty, pos, af, g⟩) (hg : gd l e g = some true) (hn : Nat.blt d n = true) (hx : ev e x = some v)
    (k : Le (St w0 ds n ((d, v) :: e) Γ) (wpRT P r l.toArray K t)) : Le (St w0 ds n e Γ) (wpRT P r l.toArray K (.q i t)) :=
  q_pure ho hg rfl hn rfl (fun _ h => by cases h) (fun a w s w' => by simp only [execOp, s.ev hx]; rfl) k
theorem q_assign {x : Operand} {v : Value} (ho : nthO l i = some ⟨some d, .assign x, ty, pos, af, g⟩) (hg : gd l e g = some true) (hn : Nat.blt d n = true) (hx : ev e x = some v)
    (k : Le (St w0 ds n ((d, v) :: e) Γ) (wpRT P r l.toArray K t)) : Le (St w0 ds n e Γ) (wpRT P r l.toArray K (.q i t)) :=
  q_pure ho hg rfl hn rfl (fun _ h => by cases h) (fun a w s w' => by simp only [execOp, s.ev hx]; rfl) k
theorem q_pick_t {c x y : Operand} {v : Value} (ho : nthO l i = some ⟨some d, .pick c x y, ty, pos, af, g⟩) (hg : gd l e g = some true) (hn : Nat.blt d n = true) (hc : ev e c = some (.bool true)) (hx : ev e x = some v)
    (k : Le (St w0 ds n ((d, v) :: e) Γ) (wpRT P r l.toArray K t)) : Le (St w0 ds n e Γ) (wpRT P r l.toArray K (.q i t)) :=
  q_pure ho hg rfl hn rfl (fun _ h => by cases h) (fun a w s w' => by simp [execOp, s.ev hc, s.ev hx, asBool]) k
theorem q_pick_f {c x y : Operand} {v : Value} (ho : nthO l i = some ⟨some d, .pick c x y, ty, pos, af, g⟩) (hg : gd l e g = some true) (hn : Nat.blt d n = true) (hc : ev e c = some (.bool false)) (hx : ev e y = some v)
    (k : Le (St w0 ds n ((d, v) :: e) Γ) (wpRT P r l.toArray K t)) : Le (St w0 ds n e Γ) (wpRT P r l.toArray K (.q i t)) :=
  q_pure ho hg rfl hn rfl (fun _ h => by cases h) (fun a w s w' => by simp [execOp, s.ev hc, s.ev hx, asBool]) k
theorem q_nil_p {x : Operand} {p : Addr} (ho : nthO l i = some ⟨some d, .nilCheck x, ty, pos, af, g⟩) (hg : gd l e g = some true) (hn : Nat.blt d n = true) (hx : ev e x = some (.pointer (some p)))
    (k : Le (St w0 ds n ((d, .pointer (some p)) :: e) Γ) (wpRT P r l.toArray K t)) : Le (St w0 ds n e Γ) (wpRT P r l.toArray K (.q i t)) :=
  q_pure ho hg rfl hn rfl (fun _ h => by cases h) (fun a w s w' => by simp only [execOp, s.ev hx]; rfl) k
theorem q_not {x : Operand} {ty' : TypeId} {b : Bool} (ho : nthO l i = some ⟨some d, .unOp .not ty' x, ty, pos, af, g⟩) (hg : gd l e g = some true) (hn : Nat.blt d n = true) (hx : ev e x = some (.bool b))
    (k : Le (St w0 ds n ((d, .bool (!b)) :: e) Γ) (wpRT P r l.toArray K t)) : Le (St w0 ds n e Γ) (wpRT P r l.toArray K (.q i t)) :=
  q_pure ho hg rfl hn rfl (fun _ h => by cases h) (fun a w s w' => by simp [execOp, s.ev hx, Op.unary]) k
/-- Operations on two integers of one kind. -/
theorem q_int {op : BinOp} {x y : Operand} {tx tz : TypeId} {k' : IntKind} {p q : Int} {v : Value} (ho : nthO l i = some ⟨some d, .binOp op tx x y tz, ty, pos, af, g⟩) (hg : gd l e g = some true) (hn : Nat.blt d n = true)
    (hx : ev e x = some (.int k' p)) (hy : ev e y = some (.int k' q)) (hb : ∀ w, (binOp op tx (.int k' p) (.int k' q)).run P w = .ok v w)
    (k : Le (St w0 ds n ((d, v) :: e) Γ) (wpRT P r l.toArray K t)) : Le (St w0 ds n e Γ) (wpRT P r l.toArray K (.q i t)) :=
  q_pure ho hg rfl hn rfl (fun _ h => by cases h) (fun a w s w' => by
    simp only [execOp, s.ev hx, s.ev hy]
    have he : ∀ w, (eqGuard op tx x y (.int k' p) (.int k' q)).run P w = .ok () w := by
      intro w; unfold eqGuard; cases op <;> simp
    simp [he, hb]) k
theorem b_add (tx : TypeId) (k' : IntKind) (p q : Int) (w : World) : (binOp .add tx (.int k' p) (.int k' q)).run P w = .ok (.int k' (k'.wrap (p + q))) w := by simp [binOp, Op.intArith]
theorem b_sub (tx : TypeId) (k' : IntKind) (p q : Int) (w : World) : (binOp .sub tx (.int k' p) (.int k' q)).run P w = .ok (.int k' (k'.wrap (p - q))) w := by simp [binOp, Op.intArith]
theorem b_mul (tx : TypeId) (k' : IntKind) (p q : Int) (w : World) : (binOp .mul tx (.int k' p) (.int k' q)).run P w = .ok (.int k' (k'.wrap (p * q))) w := by simp [binOp, Op.intArith]
theorem b_eql (tx : TypeId) (k' : IntKind) (p q : Int) (w : World) : (binOp .eql tx (.int k' p) (.int k' q)).run P w = .ok (.bool (decide (p = q))) w := by
  have : (p == q) = decide (p = q) := by rw [Bool.eq_iff_iff]; simp
  simp [binOp, Op.intCmp, this]
theorem b_neq (tx : TypeId) (k' : IntKind) (p q : Int) (w : World) : (binOp .neq tx (.int k' p) (.int k' q)).run P w = .ok (.bool (decide (p ≠ q))) w := by
  have : (p != q) = decide (p ≠ q) := by rw [Bool.eq_iff_iff]; simp
  simp [binOp, Op.intCmp, this]
theorem b_lss (tx : TypeId) (k' : IntKind) (p q : Int) (w : World) : (binOp .lss tx (.int k' p) (.int k' q)).run P w = .ok (.bool (decide (p < q))) w := by simp [binOp, Op.intCmp]
theorem b_leq (tx : TypeId) (k' : IntKind) (p q : Int) (w : World) : (binOp .leq tx (.int k' p) (.int k' q)).run P w = .ok (.bool (decide (p ≤ q))) w := by simp [binOp, Op.intCmp]
theorem b_gtr (tx : TypeId) (k' : IntKind) (p q : Int) (w : World) : (binOp .gtr tx (.int k' p) (.int k' q)).run P w = .ok (.bool (decide (q < p))) w := by simp [binOp, Op.intCmp]
theorem b_geq (tx : TypeId) (k' : IntKind) (p q : Int) (w : World) : (binOp .geq tx (.int k' p) (.int k' q)).run P w = .ok (.bool (decide (q ≤ p))) w := by simp [binOp, Op.intCmp]
/-! Numbers that fit: no wrap. -/
def fits (k : IntKind) (z : Int) : Prop := k.min ≤ z ∧ z ≤ k.max
theorem wrap_fits {k : IntKind} {z : Int} (h : fits k z) : k.wrap z = z := by
  unfold fits at h
  unfold IntKind.wrap
  cases k <;> simp [IntKind.min, IntKind.max, IntKind.signed, IntKind.bits] at h ⊢ <;> omega
theorem fits_i64 {z : Int} (h1 : -9223372036854775808 ≤ z) (h2 : z ≤ 9223372036854775807) : fits .i64 z := by
  simp [fits, IntKind.min, IntKind.max, IntKind.signed, IntKind.bits]; omega
theorem fits_u64 {z : Int} (h1 : 0 ≤ z) (h2 : z ≤ 18446744073709551615) : fits .u64 z := by
  simp [fits, IntKind.min, IntKind.max, IntKind.signed, IntKind.bits]; omega
theorem b_add' (tx : TypeId) {k' : IntKind} {p q : Int} (h : fits k' (p + q)) (w : World) : (binOp .add tx (.int k' p) (.int k' q)).run P w = .ok (.int k' (p + q)) w := by rw [b_add, wrap_fits h]
theorem b_sub' (tx : TypeId) {k' : IntKind} {p q : Int} (h : fits k' (p - q)) (w : World) : (binOp .sub tx (.int k' p) (.int k' q)).run P w = .ok (.int k' (p - q)) w := by rw [b_sub, wrap_fits h]
theorem b_mul' (tx : TypeId) {k' : IntKind} {p q : Int} (h : fits k' (p * q)) (w : World) : (binOp .mul tx (.int k' p) (.int k' q)).run P w = .ok (.int k' (p * q)) w := by rw [b_mul, wrap_fits h]
end
end Go.Ab
set_option linter.unusedVariables false
set_option linter.unusedSimpArgs false
namespace Go.Ab
open Go
def RdN (A : HProp) (b o : Nat) (vs : List Value) : Prop := ∀ (i : Nat) v, vs[i]? = some v → Rd A b (o + i) v
theorem rdn_cells {b off : Nat} {vs : List Value} : RdN (cells b off vs) b off vs := fun i v h => rd_cells h
theorem rd_c {b off : Nat} {vs : List Value} (i : Nat) {v : Value} (h : vs[i]? = some v) : Rd (cells b off vs) b (off + i) v := rd_cells h
/-- Values of some kind laid one behind the other. -/
def arr {α : Type} (b off : Nat) (enc : α → List Value) (xs : List α) : HProp := cells b off (xs.flatMap enc)
theorem flat_get {α : Type} {enc : α → List Value} {sz : Nat} (hsz : ∀ x, (enc x).length = sz) : ∀ (xs : List α) (k j : Nat) (x : α) (v : Value), xs[k]? = some x → (enc x)[j]? = some v → (xs.flatMap enc)[k * sz + j]? = some v
  | [], k, j, x, v, h, _ => by simp at h
  | y :: ys, 0, j, x, v, h, hv => by
    simp only [List.getElem?_cons_zero, Option.some.injEq] at h
    subst h
    have hj : j < (enc y).length := by
      rcases Nat.lt_or_ge j (enc y).length with h' | h'
      · exact h'
      · rw [List.getElem?_eq_none h'] at hv; cases hv
    rw [List.flatMap_cons, Nat.zero_mul, Nat.zero_add, List.getElem?_append_left hj]
    exact hv
  | y :: ys, k + 1, j, x, v, h, hv => by
    have h' : ys[k]? = some x := by simpa using h
    have ih := flat_get hsz ys k j x v h' hv
    rw [List.flatMap_cons, List.getElem?_append_right (by rw [hsz, Nat.succ_mul]; omega), hsz]
    rw [show (k + 1) * sz + j - sz = k * sz + j from by rw [Nat.succ_mul]; omega]
    exact ih
theorem flat_len {α : Type} {enc : α → List Value} {sz : Nat} (hsz : ∀ x, (enc x).length = sz) : ∀ (xs : List α), (xs.flatMap enc).length = xs.length * sz
  | [] => by simp
  | x :: xs => by rw [List.flatMap_cons, List.length_append, hsz, flat_len hsz xs, List.length_cons, Nat.succ_mul]; omega
/-- Those of the list still yield what they yielded. -/
def AG (P : Program) (r : Option Nat) (ops : Array Oper) (fl : List Nat) (X : Act → World → Prop) : Act → World → Prop := fun a w => (∀ j ∈ fl, again P r ops a w j) ∧ X a w
theorem ag_nil {P : Program} {r : Option Nat} {ops : Array Oper} {S X : Act → World → Prop} (h : Le S X) : Le S (AG P r ops [] X) := fun a w s => ⟨fun _ hj => (by cases hj), h a w s⟩
section
variable {P : Program} {r : Option Nat} {w0 : World} {ds : List Deferred} {n : Nat} {e : Env} {Γ : List HProp} {K : Act → World → Prop} {l : List Oper} {i : Nat} {t : RT} {fl : List Nat}
theorem ag_cons {j : Nat} {X : Act → World → Prop} {o : Oper} {d : Nat} {v : Value} (ho : nthO l j = some o) (hd : o.dst = some d) (hl : look e d = some v) (hnd : ∀ c, o.op ≠ .defer c)
    (hv : ∀ a w, St w0 ds n e Γ a w → (execOp a.eval o).run P w = .ok (.value v) w) (k : Le (St w0 ds n e Γ) (AG P r l.toArray fl X)) : Le (St w0 ds n e Γ) (AG P r l.toArray (j :: fl) X) := by
  intro a w s
  refine ⟨fun i hi => ?_, (k a w s).2⟩
  rcases List.mem_cons.1 hi with rfl | hi
  · intro o' ho' hw
    rw [nthO_eq] at ho
    rw [List.getElem?_toArray, ho] at ho'
    cases ho'
    refine ⟨d, hd, ?_⟩
    rw [Oper.semAt_eq _ _ _ hnd, hv a w s, s.env d v hl]
  · exact (k a w s).1 i hi
/-- A loud operation with a slot of its own. -/
theorem l_gen {o : Oper} (ho : nthO l i = some o) (hg : gd l e o.guard = some true) (hnd : ∀ c, o.op ≠ .defer c)
    (h : ∀ a w, St w0 ds n e Γ a w → opUp P r o a (AG P r l.toArray fl (wpRT P r l.toArray K t)) ((execOp a.eval o).run P w)) : Le (St w0 ds n e Γ) (wpRT P r l.toArray K (.l i fl t)) := by
  intro a w s
  refine ⟨o, by simpa [nthO_eq] using ho, .inl ⟨s.wanted hg, ?_⟩⟩
  unfold opW
  rw [Oper.semAt_eq _ _ _ hnd]
  exact h a w s
variable {d : Nat} {ty : TypeId} {pos : String} {af : Array Edge} {g : Option (Nat × Bool)}
/-! ### Loads -/
theorem run_load1 {T : TypeId} {b o : Nat} {v : Value} (hA : ∀ w, (isAgg T).run P w = .ok false w) {w : World} (h : w.cell? ⟨b, o, none⟩ = some v) : (Instr.loadAt T (.pointer (some ⟨b, o, none⟩))).run P w = .ok v w := by
  simp [Instr.loadAt, Instr.sureAddr, loadVar, hA, h]
theorem run_loadN {T : TypeId} {b o : Nat} {vs : List Value} (hA : ∀ w, (isAgg T).run P w = .ok true w) (hs : ∀ w, (sizeOf T).run P w = .ok vs.length w) {w : World} (h : ∀ j v, vs[j]? = some v → w.cell? ⟨b, o + j, none⟩ = some v) :
    (Instr.loadAt T (.pointer (some ⟨b, o, none⟩))).run P w = .ok (.agg vs.toArray) w := by
  have hl := run_loadCells_list (P := P) w ⟨b, o, none⟩ vs (fun j v hv => by
    have := h j v hv
    unfold Addr.add
    split
    · rename_i h0; subst h0; simpa using this
    · exact this)
  simp [Instr.loadAt, Instr.sureAddr, loadVar, hA, hs, hl]
theorem St.rd {A : HProp} {Γ' : List HProp} {a : Act} {w : World} {b o : Nat} {v : Value} (s : St w0 ds n e Γ a w) (tk : Take Γ A Γ') (hr : Rd A b o v) : w.cell? ⟨b, o, none⟩ = some v := hr.world (tk _ s.heap)
theorem q_load {T : TypeId} {x : Operand} {b o : Nat} {v : Value} {A : HProp} {Γ' : List HProp} (ho : nthO l i = some ⟨some d, .load T x, ty, pos, af, g⟩) (hg : gd l e g = some true) (hn : Nat.blt d n = true)
    (hx : ev e x = some (.pointer (some ⟨b, o, none⟩))) (hA : ∀ w, (isAgg T).run P w = .ok false w) (tk : Take Γ A Γ') (hr : Rd A b o v)
    (k : Le (St w0 ds n ((d, v) :: e) Γ) (wpRT P r l.toArray K t)) : Le (St w0 ds n e Γ) (wpRT P r l.toArray K (.q i t)) :=
  q_read ho hg rfl hn rfl (fun _ h => by cases h) (fun a w s => by simp [execOp, s.ev hx, run_load1 hA (s.rd tk hr)]) k
theorem q_loadN {T : TypeId} {x : Operand} {b o : Nat} {vs : List Value} {A : HProp} {Γ' : List HProp} (ho : nthO l i = some ⟨some d, .load T x, ty, pos, af, g⟩) (hg : gd l e g = some true) (hn : Nat.blt d n = true)
    (hx : ev e x = some (.pointer (some ⟨b, o, none⟩))) (hA : ∀ w, (isAgg T).run P w = .ok true w) {sz : Nat} (hs : ∀ w, (sizeOf T).run P w = .ok sz w) (tk : Take Γ A Γ') (hr : RdN A b o vs) (hsz : vs.length = sz)
    (k : Le (St w0 ds n ((d, .agg vs.toArray) :: e) Γ) (wpRT P r l.toArray K t)) : Le (St w0 ds n e Γ) (wpRT P r l.toArray K (.q i t)) :=
  q_read ho hg rfl hn rfl (fun _ h => by cases h) (fun a w s => by simp [execOp, s.ev hx, run_loadN hA (by rw [hsz]; exact hs) (fun j v hv => s.rd tk (hr j v hv))]) k
theorem ag_load {j : Nat} {T : TypeId} {x : Operand} {b o : Nat} {v : Value} {A : HProp} {Γ' : List HProp} {X : Act → World → Prop} (ho : nthO l j = some ⟨some d, .load T x, ty, pos, af, g⟩)
    (hx : ev e x = some (.pointer (some ⟨b, o, none⟩))) (hl : look e d = some v) (hA : ∀ w, (isAgg T).run P w = .ok false w) (tk : Take Γ A Γ') (hr : Rd A b o v)
    (k : Le (St w0 ds n e Γ) (AG P r l.toArray fl X)) : Le (St w0 ds n e Γ) (AG P r l.toArray (j :: fl) X) :=
  ag_cons ho rfl hl (fun _ h => by cases h) (fun a w s => by simp [execOp, s.ev hx, run_load1 hA (s.rd tk hr)]) k
/-! ### Addresses -/
theorem add_none (b o k : Nat) : Addr.add ⟨b, o, none⟩ k = ⟨b, o + k, none⟩ := by
  unfold Addr.add; split
  · rename_i h; subst h; rfl
  · rfl
theorem run_fieldAt {T : TypeId} {fs : Array Field} {f : Nat} {fd : Field} {b o sz : Nat} (hu : P.underlying T = some (.struct fs)) (hf : fs[f]? = some fd) (hs : ∀ w, (sizeOf fd.type).run P w = .ok (sz + 1) w) (w : World) :
    (Instr.fieldAt T (.pointer (some ⟨b, o, none⟩)) f).run P w = .ok (.pointer (some ⟨b, o + fd.offset, none⟩)) w := by
  simp [Instr.fieldAt, run_underlying hu, hf, Instr.sureAddr, fieldPlace, hs, add_none]
theorem q_field {T : TypeId} {x : Operand} {f : Nat} {fs : Array Field} {fd : Field} {b o sz k : Nat} (ho : nthO l i = some ⟨some d, .fieldAddr T x f, ty, pos, af, g⟩) (hg : gd l e g = some true) (hn : Nat.blt d n = true)
    (hx : ev e x = some (.pointer (some ⟨b, o, none⟩))) (hu : P.underlying T = some (.struct fs)) (hf : fs[f]? = some fd) (hs : ∀ w, (sizeOf fd.type).run P w = .ok (sz + 1) w) (hk : fd.offset = k)
    (kk : Le (St w0 ds n ((d, .pointer (some ⟨b, o + k, none⟩)) :: e) Γ) (wpRT P r l.toArray K t)) : Le (St w0 ds n e Γ) (wpRT P r l.toArray K (.q i t)) := by
  subst hk
  exact q_pure ho hg rfl hn rfl (fun _ h => by cases h) (fun a w s w' => by simp [execOp, s.ev hx, run_fieldAt hu hf hs]) kk
theorem run_indexAt {T E : TypeId} {b o len cap sz : Nat} {k' : IntKind} {ix : Int} (hu : P.underlying T = some (.slice E)) (hs : ∀ w, (sizeOf E).run P w = .ok sz w) (h0 : 0 ≤ ix) (h1 : ix < len) (w : World) :
    (Instr.indexAt T (.slice (some ⟨b, o, none⟩) len cap) (.int k' ix)).run P w = .ok (.pointer (some ⟨b, o + ix.toNat * sz, none⟩)) w := by
  have h2 : 0 ≤ ix ∧ ix < len := ⟨h0, h1⟩
  simp [Instr.indexAt, asIntOf, run_underlying hu, hs, h2, add_none]
/-- The address of an element: of a slice that is not nil. -/
theorem q_idx {T E : TypeId} {x y : Operand} {ao : Option Addr} {len cap sz k : Nat} {k' : IntKind} {ix : Int} (ho : nthO l i = some ⟨some d, .indexAddr T x y, ty, pos, af, g⟩) (hg : gd l e g = some true) (hn : Nat.blt d n = true)
    (hx : ev e x = some (.slice ao len cap)) (hy : ev e y = some (.int k' ix)) (hu : P.underlying T = some (.slice E)) (hs : ∀ w, (sizeOf E).run P w = .ok sz w) (hi : ix = (k : Int)) (h1 : k < len) (hne : ∃ b o, ao = some ⟨b, o, none⟩)
    (kk : ∀ b o, ao = some ⟨b, o, none⟩ → Le (St w0 ds n ((d, .pointer (some ⟨b, o + k * sz, none⟩)) :: e) Γ) (wpRT P r l.toArray K t)) : Le (St w0 ds n e Γ) (wpRT P r l.toArray K (.q i t)) := by
  obtain ⟨b, o, rfl⟩ := hne
  subst hi
  exact q_pure ho hg rfl hn rfl (fun _ h => by cases h) (fun a w s w' => by simp [execOp, s.ev hx, s.ev hy, run_indexAt hu hs (by omega) (by omega : (k : Int) < len)]) (kk b o rfl)
/-! ### Struct values -/
theorem q_extract {x : Operand} {ix : Nat} {vs : List Value} {v : Value} (ho : nthO l i = some ⟨some d, .extract x ix, ty, pos, af, g⟩) (hg : gd l e g = some true) (hn : Nat.blt d n = true)
    (hx : ev e x = some (.tuple vs.toArray)) (hv : vs[ix]? = some v)
    (k : Le (St w0 ds n ((d, v) :: e) Γ) (wpRT P r l.toArray K t)) : Le (St w0 ds n e Γ) (wpRT P r l.toArray K (.q i t)) :=
  q_pure ho hg rfl hn rfl (fun _ h => by cases h) (fun a w s w' => by simp [execOp, s.ev hx, Instr.extract, hv]) k
theorem q_func {fn : Fn} {fi ca : List Operand} {us vs : List Value} (ho : nthO l i = some ⟨some d, .makeFunc fn fi.toArray ca.toArray, ty, pos, af, g⟩) (hg : gd l e g = some true) (hn : Nat.blt d n = true)
    (h1 : evs e fi = some us) (h2 : evs e ca = some vs)
    (k : Le (St w0 ds n ((d, .func fn us.toArray vs.toArray) :: e) Γ) (wpRT P r l.toArray K t)) : Le (St w0 ds n e Γ) (wpRT P r l.toArray K (.q i t)) :=
  q_pure ho hg rfl hn rfl (fun _ h => by cases h) (fun a w s w' => by simp [execOp, Instr.makeFunc, s.evs h1, s.evs h2]) k
/-- A struct put together out of parts. -/
theorem q_build {T : TypeId} {ps : List (Nat × Operand)} {us vs : List Value} (ho : nthO l i = some ⟨some d, .build T ps.toArray, ty, pos, af, g⟩) (hg : gd l e g = some true) (hn : Nat.blt d n = true)
    (h1 : evs e (ps.map (·.2)) = some us) (hb : ∀ w, (Instr.build T ((ps.map (·.1)).zip us).toArray).run P w = .ok (.agg vs.toArray) w)
    (k : Le (St w0 ds n ((d, .agg vs.toArray) :: e) Γ) (wpRT P r l.toArray K t)) : Le (St w0 ds n e Γ) (wpRT P r l.toArray K (.q i t)) :=
  q_pure ho hg rfl hn rfl (fun _ h => by cases h) (fun a w s w' => by
    have h2 := s.evs h1
    have : (List.map (fun x : Nat × Operand => match x with | (i, x) => (i, a.eval x)) ps) = (ps.map (·.1)).zip us := by
      rw [← h2]
      clear ho hb h1 h2
      induction ps with
      | nil => rfl
      | cons p ps ih => simp [ih]
    simp [execOp, this, hb]) k
/-! ### Lengths and cuts of slices -/
theorem q_len {T : TypeId} {x : Operand} {E : TypeId} {ao : Option Addr} {len cap : Nat} (ho : nthO l i = some ⟨some d, .call ⟨.builtin .len, #[x], #[T]⟩, ty, pos, af, g⟩) (hg : gd l e g = some true) (hn : Nat.blt d n = true)
    (hx : ev e x = some (.slice ao len cap)) (hu : P.underlying T = some (.slice E))
    (k : Le (St w0 ds n ((d, .int .i64 (len : Int)) :: e) Γ) (wpRT P r l.toArray K t)) : Le (St w0 ds n e Γ) (wpRT P r l.toArray K (.q i t)) :=
  q_read ho hg rfl hn rfl (fun _ h => by cases h) (fun a w s => by simp [execOp, resolve, invoke, builtin, s.ev hx, Builtin.len_, run_underlying hu, goInt]) k
theorem q_min {x y : Operand} {ts : Array TypeId} {k' : IntKind} {p q : Int} (ho : nthO l i = some ⟨some d, .call ⟨.builtin .min, #[x, y], ts⟩, ty, pos, af, g⟩) (hg : gd l e g = some true) (hn : Nat.blt d n = true)
    (hx : ev e x = some (.int k' p)) (hy : ev e y = some (.int k' q))
    (k : Le (St w0 ds n ((d, .int k' (min p q)) :: e) Γ) (wpRT P r l.toArray K t)) : Le (St w0 ds n e Γ) (wpRT P r l.toArray K (.q i t)) :=
  q_read ho hg rfl hn rfl (fun _ h => by cases h) (fun a w s => by
    have : (if q < p then q else p) = min p q := by rw [Int.min_def]; split <;> split <;> omega
    simp [execOp, resolve, invoke, builtin, s.ev hx, s.ev hy, Builtin.min_, Builtin.min2, this]) k
theorem q_max {x y : Operand} {ts : Array TypeId} {k' : IntKind} {p q : Int} (ho : nthO l i = some ⟨some d, .call ⟨.builtin .max, #[x, y], ts⟩, ty, pos, af, g⟩) (hg : gd l e g = some true) (hn : Nat.blt d n = true)
    (hx : ev e x = some (.int k' p)) (hy : ev e y = some (.int k' q))
    (k : Le (St w0 ds n ((d, .int k' (max p q)) :: e) Γ) (wpRT P r l.toArray K t)) : Le (St w0 ds n e Γ) (wpRT P r l.toArray K (.q i t)) :=
  q_read ho hg rfl hn rfl (fun _ h => by cases h) (fun a w s => by
    have : (if p < q then q else p) = max p q := by rw [Int.max_def]; split <;> split <;> omega
    simp [execOp, resolve, invoke, builtin, s.ev hx, s.ev hy, Builtin.max_, Builtin.max2, this]) k
/-- x[lo:hi] of a slice. -/
theorem run_sliceAt {T E : TypeId} {ao : Option Addr} {len cap sz : Nat} {lo hi : Option (IntKind × Int)} (hu : P.underlying T = some (.slice E)) (hs : ∀ w, (sizeOf E).run P w = .ok sz w) (h h' : Nat)
    (hlo : ∀ k z, lo = some (k, z) → z = (h : Int)) (hlo' : lo = none → h = 0) (hhi : ∀ k z, hi = some (k, z) → z = (h' : Int)) (hhi' : hi = none → h' = len) (hle : h ≤ h') (hcap : h' ≤ cap) (w : World) :
    (Instr.sliceAt T (.slice ao len cap) (lo.map fun p => .int p.1 p.2) (hi.map fun p => .int p.1 p.2) none).run P w = .ok (.slice (if cap = h then ao else ao.map (·.add (h * sz))) (h' - h) (cap - h)) w := by
  cases lo with
  | none =>
    obtain rfl := hlo' rfl
    cases hi with
    | none => obtain rfl := hhi' rfl; simp [Instr.sliceAt, Instr.slice, Instr.sliceBounds, run_underlying hu, hs]
    | some p =>
      obtain ⟨k, z⟩ := p
      obtain rfl := hhi k z rfl
      have h2 : (0 : Int) ≤ (h' : Int) ∧ (h' : Int) ≤ (cap : Int) := by omega
      have h3 : h' ≤ cap := hcap
      simp [Instr.sliceAt, Instr.slice, Instr.sliceBounds, Instr.sliceBound, asIntOf, run_underlying hu, hs, h3]
  | some q =>
    obtain ⟨k1, z1⟩ := q
    obtain rfl := hlo k1 z1 rfl
    cases hi with
    | none =>
      obtain rfl := hhi' rfl
      simp [Instr.sliceAt, Instr.slice, Instr.sliceBounds, Instr.sliceBound, asIntOf, run_underlying hu, hs, hle]
    | some p =>
      obtain ⟨k, z⟩ := p
      obtain rfl := hhi k z rfl
      simp [Instr.sliceAt, Instr.slice, Instr.sliceBounds, Instr.sliceBound, asIntOf, run_underlying hu, hs, hle, hcap]
end
end Go.Ab
set_option linter.unusedVariables false
set_option linter.unusedSimpArgs false
namespace Go.Ab
open Go
/-- A list with a stretch written over. -/
def setL : List Value → Nat → List Value → List Value
  | vs, _, [] => vs
  | vs, i, u :: us => setL (vs.set i u) (i + 1) us
theorem setL_eq : ∀ (us pre mid post : List Value), mid.length = us.length → setL (pre ++ mid ++ post) pre.length us = pre ++ us ++ post
  | [], pre, mid, post, h => by
    obtain rfl := List.eq_nil_of_length_eq_zero (by simpa using h)
    simp [setL]
  | u :: us, pre, [], post, h => by simp at h
  | u :: us, pre, m :: mid, post, h => by
    have : (pre ++ m :: mid ++ post).set pre.length u = (pre ++ [u]) ++ mid ++ post := by simp
    rw [setL, this]
    have e : pre.length + 1 = (pre ++ [u]).length := by simp
    rw [e, setL_eq us (pre ++ [u]) mid post (by simpa using h)]
    simp
/-- The element k of a row of elements written over in part. -/
theorem setL_flat {α : Type} {enc : α → List Value} {sz : Nat} (hsz : ∀ x, (enc x).length = sz) (xs : List α) (tl us : List Value) (k j : Nat) (x y : α) (hx : xs[k]? = some x) (hj : j + us.length ≤ sz) (hy : enc y = setL (enc x) j us) :
    setL (xs.flatMap enc ++ tl) (k * sz + j) us = (xs.set k y).flatMap enc ++ tl := by
  have hk : k < xs.length := by
    rcases Nat.lt_or_ge k xs.length with h' | h'
    · exact h'
    · rw [List.getElem?_eq_none h'] at hx; cases hx
  have hxs : xs = xs.take k ++ x :: xs.drop (k + 1) := by
    rw [List.getElem?_eq_getElem hk] at hx; cases hx
    exact (List.take_append_drop k xs).symm.trans (by rw [List.drop_eq_getElem_cons hk])
  have hset : xs.set k y = xs.take k ++ y :: xs.drop (k + 1) := by
    rw [List.set_eq_take_append_cons_drop, if_pos hk]
  have hlen : (xs.take k).length = k := by rw [List.length_take]; omega
  have hex : enc x = (enc x).take j ++ ((enc x).drop j).take us.length ++ ((enc x).drop j).drop us.length := by
    rw [List.append_assoc, List.take_append_drop, List.take_append_drop]
  have hl1 : ((enc x).take j).length = j := by rw [List.length_take, hsz]; omega
  have hl2 : (((enc x).drop j).take us.length).length = us.length := by rw [List.length_take, List.length_drop, hsz]; omega
  have hpre : ((xs.take k).flatMap enc ++ (enc x).take j).length = k * sz + j := by rw [List.length_append, flat_len hsz, hlen, hl1]
  have h1 := setL_eq us ((xs.take k).flatMap enc ++ (enc x).take j) (((enc x).drop j).take us.length) (((enc x).drop j).drop us.length ++ ((xs.drop (k + 1)).flatMap enc ++ tl)) hl2
  have h2 := setL_eq us ((enc x).take j) (((enc x).drop j).take us.length) (((enc x).drop j).drop us.length) hl2
  rw [hl1, ← hex] at h2
  rw [hpre] at h1
  have e1 : xs.flatMap enc ++ tl = (xs.take k).flatMap enc ++ (enc x).take j ++ ((enc x).drop j).take us.length ++ (((enc x).drop j).drop us.length ++ ((xs.drop (k + 1)).flatMap enc ++ tl)) := by
    conv => lhs; rw [hxs, List.flatMap_append, List.flatMap_cons]
    conv => lhs; rw [hex]
    simp only [List.append_assoc]
  rw [e1, h1, hset, List.flatMap_append, List.flatMap_cons, hy, h2]
  simp only [List.append_assoc]
/-- Cells are written one behind the other. -/
theorem run_storeSat {P : Program} {b off : Nat} : ∀ (us : List Value) (i j : Nat) (vs : List Value) (Γ : List HProp) (w : World), Sat (cells b off vs :: Γ) (lh w) → i + j + us.length ≤ vs.length → us.all Value.oneCell' = true →
    ∃ w', (storeCells ⟨b, off + i, none⟩ us j).run P w = .ok () w' ∧ Sat (cells b off (setL vs (i + j) us) :: Γ) (lh w') ∧ Amb w w'
  | [], i, j, vs, Γ, w, s, h, h1 => ⟨w, rfl, s, Amb.refl w⟩
  | u :: us, i, j, vs, Γ, w, s, h, h1 => by
    simp only [List.all_cons, Bool.and_eq_true] at h1
    have hlt : i + j < vs.length := by simp at h; omega
    have hv : vs[i + j]? = some vs[i + j] := List.getElem?_eq_getElem hlt
    obtain ⟨c1, c2⟩ := s.cell_frozen hv
    have s' := s.setCell hv u
    have hadd : (⟨b, off + i, none⟩ : Addr).add j = ⟨b, off + (i + j), none⟩ := by rw [add_none, Nat.add_assoc]
    have hst : (store ((⟨b, off + i, none⟩ : Addr).add j) u).run P w = .ok () (w.setCell ⟨b, off + (i + j), none⟩ u) := by
      rw [hadd, run_store P w _ u _ h1.1, c1]
      simp [c2]
    obtain ⟨w', e1, e2, e3⟩ := run_storeSat (P := P) us i (j + 1) (vs.set (i + j) u) Γ _ s' (by simp at h ⊢; omega) h1.2
    refine ⟨w', ?_, e2, ⟨e3.os, e3.tape, e3.output, by simpa using e3.size⟩⟩
    simp only [storeCells, Sem.run_bind, hst, Result.andThen_ok, e1]
theorem run_storeAt {P : Program} {T : TypeId} {b off i sz : Nat} {vs us : List Value} {v : Value} {Γ : List HProp} {w : World} (s : Sat (cells b off vs :: Γ) (lh w)) (hs : ∀ w, (sizeOf T).run P w = .ok sz w) (hv : v.cells.toList = us) (hl : us.length = sz)
    (hi : i + us.length ≤ vs.length) (h1 : us.all Value.oneCell' = true) : ∃ w', (Instr.storeAt T (.pointer (some ⟨b, off + i, none⟩)) v).run P w = .ok () w' ∧ Sat (cells b off (setL vs i us) :: Γ) (lh w') ∧ Amb w w' := by
  obtain ⟨w', e1, e2, e3⟩ := run_storeSat (P := P) us i 0 vs Γ w s (by simpa using hi) h1
  refine ⟨w', ?_, e2, e3⟩
  have hsz : v.cells.size = sz := by rw [← Array.length_toList, hv, hl]
  simp [Instr.storeAt, Instr.sureAddr, storeVar, hs, hsz, hv, e1]
section
variable {P : Program} {r : Option Nat} {w0 : World} {ds : List Deferred} {n : Nat} {e : Env} {Γ : List HProp} {K : Act → World → Prop} {l : List Oper} {i : Nat} {t : RT} {fl : List Nat}
variable {d : Nat} {ty : TypeId} {pos : String} {af : Array Edge} {g : Option (Nat × Bool)}
/-! ### New blocks -/
theorem l_alloc {T : TypeId} {z : Value} {zs : List Value} (ho : nthO l i = some ⟨some d, .alloc T, ty, pos, af, g⟩) (hg : gd l e g = some true) (hn : Nat.blt d n = true) (hz : ∀ w, (zeroValue T).run P w = .ok z w) (hzs : z.cells.toList = zs)
    (k : ∀ b, Le (St w0 ds n ((d, .pointer (some ⟨b, 0, none⟩)) :: e) (cells b 0 zs :: Γ)) (AG P r l.toArray fl (wpRT P r l.toArray K t))) : Le (St w0 ds n e Γ) (wpRT P r l.toArray K (.l i fl t)) :=
  l_gen ho hg (fun _ h => by cases h) (fun a w s => by
    have hr : (execOp a.eval ⟨some d, .alloc T, ty, pos, af, g⟩).run P w = .ok (.value (.pointer (some ⟨w.heap.size, 0, none⟩))) (w.alloc (.cells z.cells T)) := by
      simp [execOp, Instr.alloc, hz, newVar, newRow]
    rw [hr]
    subst hzs
    exact k _ _ _ ((s.world (s.heap.newCells z.cells T) ⟨rfl, rfl, rfl, by simp⟩).put hn))
theorem l_box {T : TypeId} {x : Operand} {v : Value} {us : List Value} (ho : nthO l i = some ⟨some d, .box T x, ty, pos, af, g⟩) (hg : gd l e g = some true) (hn : Nat.blt d n = true) (hx : ev e x = some v) (hv : v.cells.toList = us)
    (k : ∀ b, Le (St w0 ds n ((d, .pointer (some ⟨b, 0, none⟩)) :: e) (cells b 0 us :: Γ)) (AG P r l.toArray fl (wpRT P r l.toArray K t))) : Le (St w0 ds n e Γ) (wpRT P r l.toArray K (.l i fl t)) :=
  l_gen ho hg (fun _ h => by cases h) (fun a w s => by
    have hr : (execOp a.eval ⟨some d, .box T x, ty, pos, af, g⟩).run P w = .ok (.value (.pointer (some ⟨w.heap.size, 0, none⟩))) (w.alloc (.cells v.cells T)) := by
      simp [execOp, s.ev hx, Instr.box, newVar, newRow]
    rw [hr]
    subst hv
    exact k _ _ _ ((s.world (s.heap.newCells v.cells T) ⟨rfl, rfl, rfl, by simp⟩).put hn))
theorem l_buildSlice {T : TypeId} {m : Nat} {ps : List (Nat × Operand)} {us vs : List Value} {E : TypeId} (ho : nthO l i = some ⟨some d, .buildSlice T m ps.toArray, ty, pos, af, g⟩) (hg : gd l e g = some true) (hn : Nat.blt d n = true)
    (h1 : evs e (ps.map (·.2)) = some us) (hb : ∀ w, (Instr.buildSlice T m ((ps.map (·.1)).zip us).toArray).run P w = .ok (.slice (some ⟨w.heap.size, 0, none⟩) m m) (w.alloc (.cells vs.toArray E)))
    (k : ∀ b, Le (St w0 ds n ((d, .slice (some ⟨b, 0, none⟩) m m) :: e) (cells b 0 vs :: Γ)) (AG P r l.toArray fl (wpRT P r l.toArray K t))) : Le (St w0 ds n e Γ) (wpRT P r l.toArray K (.l i fl t)) :=
  l_gen ho hg (fun _ h => by cases h) (fun a w s => by
    have h2 := s.evs h1
    have : (List.map (fun x : Nat × Operand => match x with | (i, x) => (i, a.eval x)) ps) = (ps.map (·.1)).zip us := by
      rw [← h2]
      clear ho hb h1 h2
      induction ps with
      | nil => rfl
      | cons p ps ih => simp [ih]
    have hr : (execOp a.eval ⟨some d, .buildSlice T m ps.toArray, ty, pos, af, g⟩).run P w = .ok (.value (.slice (some ⟨w.heap.size, 0, none⟩) m m)) (w.alloc (.cells vs.toArray E)) := by
      simp [execOp, this, hb]
    rw [hr]
    have s' := s.heap.newCells vs.toArray E
    exact k _ _ _ ((s.world s' ⟨rfl, rfl, rfl, by simp⟩).put hn))
/-- Of one element, of one cell or several. -/
theorem run_build1 {T E : TypeId} {sz : Nat} {v : Value} {z : Value} {us : List Value} (hu : P.underlying T = some (.slice E)) (hs : ∀ w, (sizeOf E).run P w = .ok (sz + 1) w) (hsm : Nat.ble (sz + 1) 16777216 = true) (hz : ∀ w, (zeroValue E).run P w = .ok z w) (hzl : z.cells.size = sz + 1) (hv : v.cells.toList = us) (hl : us.length = sz + 1)
    (w : World) : (Instr.buildSlice T 1 ([0].zip [v]).toArray).run P w = .ok (.slice (some ⟨w.heap.size, 0, none⟩) 1 1) (w.alloc (.cells us.toArray E)) := by
  have hsm' : sz + 1 ≤ 16777216 := Nat.le_of_ble_eq_true hsm
  have hvs : v.cells.size = sz + 1 := by rw [← Array.length_toList, hv, hl]
  have hfill : ∀ C : Array Value, C.size = sz + 1 → Instr.fill (fun i => some (i * (sz + 1), sz + 1)) C [(0, v)] = some us.toArray := by
    intro C hC
    simp only [Instr.fill, Nat.zero_mul]
    rw [if_neg (by simp [hvs, hC])]
    simp only [Nat.zero_add]
    congr 1
    have : ∀ (xs : List Value) (C : Array Value) (k : Nat), k + xs.length = C.size → ((xs.zipIdx k).foldl (fun cs (p : Value × Nat) => cs.setIfInBounds p.2 p.1) C) = (C.toList.take k ++ xs).toArray := by
      intro xs
      induction xs with
      | nil => intro C k h; apply Array.ext'; simp [List.take_of_length_le (by simpa using Nat.le_of_eq h.symm : C.toList.length ≤ k)]
      | cons x xs ih =>
        intro C k h
        simp only [List.zipIdx_cons, List.foldl_cons]
        rw [ih _ (k + 1) (by simp at h ⊢; omega)]
        congr 1
        rw [Array.toList_setIfInBounds]
        have hk : k < C.toList.length := by simp at h ⊢; omega
        rw [List.take_succ_eq_append_getElem (by simpa using hk), List.take_set_of_le (Nat.le_refl k)]
        simp
    have h2 := this v.cells.toList C 0 (by simp [hvs, hC])
    rw [hv] at h2
    simp only [List.take_zero, List.nil_append] at h2
    rw [← h2, ← Array.foldl_toList, Array.toList_zipIdx, hv]
  have hc : ((Array.range (1 * (sz + 1))).map fun x => z.cells[x % z.cells.size]!).size = sz + 1 := by simp
  have hf := hfill _ hc
  have hzip : ([0].zip [v]) = [(0, v)] := rfl
  simp only [Instr.buildSlice, Sem.run_bind, run_underlying hu, Result.andThen_ok, hs, hzip]
  rw [if_neg (by omega), if_neg (by omega)]
  simp only [Sem.run_bind, hz, Result.andThen_ok, pure_bind, hf, newRow, run_newObj, Sem.run_pure, World.alloc_eq]
/-! ### Stores -/
theorem l_store {T : TypeId} {x y : Operand} {v : Value} {b o off j sz : Nat} {vs us : List Value} {Γ' : List HProp} (ho : nthO l i = some ⟨none, .store T x y, ty, pos, af, g⟩) (hg : gd l e g = some true)
    (hx : ev e x = some (.pointer (some ⟨b, o, none⟩))) (hy : ev e y = some v) (hs : ∀ w, (sizeOf T).run P w = .ok sz w) (hv : v.cells.toList = us) (hl : us.length = sz) (h1 : us.all Value.oneCell' = true)
    (tk : Take Γ (cells b off vs) Γ') (hj : o = off + j) (hlt : j + us.length ≤ vs.length)
    (k : Le (St w0 ds n e (cells b off (setL vs j us) :: Γ')) (AG P r l.toArray fl (wpRT P r l.toArray K t))) : Le (St w0 ds n e Γ) (wpRT P r l.toArray K (.l i fl t)) :=
  l_gen ho hg (fun _ h => by cases h) (fun a w s => by
    subst hj
    obtain ⟨w', e1, e2, e3⟩ := run_storeAt (P := P) (tk _ s.heap) hs hv hl hlt h1
    have hr : (execOp a.eval ⟨none, .store T x y, ty, pos, af, g⟩).run P w = .ok .skip w' := by
      simp [execOp, s.ev hx, s.ev hy, e1]
    rw [hr]
    exact k _ _ (s.world e2 e3))
/-! ### Slices that the code owns: they may grow -/
/-- The slice value '.slice ao xs.length cap' owns its elements and its spare room. -/
def own {α : Type} (sz : Nat) (enc : α → List Value) (ao : Option Addr) (cap : Nat) (xs : List α) : HProp := fun h =>
  xs.length ≤ cap ∧ ((ao = none ∧ cap = 0) ∨ ∃ b off sp, ao = some ⟨b, off, none⟩ ∧ sp.length = (cap - xs.length) * sz ∧ cells b off (xs.flatMap enc ++ sp) h)
theorem own_nil {α : Type} {sz : Nat} {enc : α → List Value} {h : Hp} (s : Sat Γ h) : Sat (own sz enc none 0 ([] : List α) :: Γ) h :=
  ⟨fun _ => none, fun _ _ x => (by cases x), ⟨Nat.le_refl _, .inl ⟨rfl, rfl⟩⟩, s.mono fun l v x => Hmin_some.2 ⟨rfl, x⟩⟩
theorem own_le {α : Type} {sz : Nat} {enc : α → List Value} {ao : Option Addr} {cap : Nat} {xs : List α} {h : Hp} (s : Sat (own sz enc ao cap xs :: Γ) h) : xs.length ≤ cap ∧ (ao = none → xs = [] ∧ cap = 0) ∧ (ao ≠ none → ∃ b off, ao = some ⟨b, off, none⟩) := by
  obtain ⟨h1, l1, ⟨hc, h2⟩, s⟩ := s
  refine ⟨hc, fun e => ?_, fun e => ?_⟩
  · rcases h2 with ⟨-, h3⟩ | ⟨b, off, sp, h3, -⟩
    · exact ⟨List.eq_nil_of_length_eq_zero (by omega), h3⟩
    · rw [h3] at e; cases e
  · rcases h2 with ⟨h3, -⟩ | ⟨b, off, sp, h3, -⟩
    · exact absurd h3 e
    · exact ⟨b, off, h3⟩
theorem rdn_own {α : Type} {sz : Nat} {enc : α → List Value} {b off cap k : Nat} {xs : List α} {x : α} (hsz : ∀ x, (enc x).length = sz) (hx : xs[k]? = some x) : RdN (own sz enc (some ⟨b, off, none⟩) cap xs) b (off + k * sz) (enc x) := by
  rintro j v hv h ⟨hc, h2⟩
  rcases h2 with ⟨h3, -⟩ | ⟨b', off', sp, h3, -, h4⟩
  · cases h3
  · cases h3
    refine ⟨false, ?_⟩
    rw [Nat.add_assoc]
    have := flat_get hsz xs k j x v hx hv
    refine h4 _ v ?_
    rw [List.getElem?_append_left]
    · exact this
    · rcases Nat.lt_or_ge (k * sz + j) (xs.flatMap enc).length with h' | h'
      · exact h'
      · rw [List.getElem?_eq_none h'] at this; cases this
/-- One cell of an element. -/
theorem rd_ownF {α : Type} {sz : Nat} {enc : α → List Value} {b off cap k j : Nat} {xs : List α} {x : α} {v : Value} (hsz : ∀ x, (enc x).length = sz) (hx : xs[k]? = some x) (hv : (enc x)[j]? = some v) : Rd (own sz enc (some ⟨b, off, none⟩) cap xs) b (off + k * sz + j) v :=
  rdn_own hsz hx j v hv
theorem own_cells {α : Type} {sz : Nat} {enc : α → List Value} {b off cap : Nat} {xs : List α} {h : Hp} (s : Sat (own sz enc (some ⟨b, off, none⟩) cap xs :: Γ) h) : ∃ sp, sp.length = (cap - xs.length) * sz ∧ Sat (cells b off (xs.flatMap enc ++ sp) :: Γ) h := by
  obtain ⟨h1, l1, ⟨hc, h2⟩, s⟩ := s
  rcases h2 with ⟨h3, -⟩ | ⟨b', off', sp, h3, h4, h5⟩
  · cases h3
  · cases h3; exact ⟨sp, h4, h1, l1, h5, s⟩
theorem own_mk {α : Type} {sz : Nat} {enc : α → List Value} {b off cap : Nat} {xs : List α} {sp : List Value} {h : Hp} (hc : xs.length ≤ cap) (hl : sp.length = (cap - xs.length) * sz) (s : Sat (cells b off (xs.flatMap enc ++ sp) :: Γ) h) : Sat (own sz enc (some ⟨b, off, none⟩) cap xs :: Γ) h := by
  obtain ⟨h1, l1, h5, s⟩ := s
  exact ⟨h1, l1, ⟨hc, .inr ⟨b, off, sp, rfl, hl, h5⟩⟩, s⟩
/-- A store into an element (or a part of it) of an owned slice. -/
theorem l_storeO {α : Type} {T : TypeId} {x y : Operand} {v : Value} {b o off k j sz ssz cap : Nat} {enc : α → List Value} {xs : List α} {p q : α} {us : List Value} {Γ' : List HProp} (ho : nthO l i = some ⟨none, .store T x y, ty, pos, af, g⟩) (hg : gd l e g = some true)
    (hx : ev e x = some (.pointer (some ⟨b, o, none⟩))) (hy : ev e y = some v) (hs : ∀ w, (sizeOf T).run P w = .ok ssz w) (hv : v.cells.toList = us) (hl : us.length = ssz) (h1 : us.all Value.oneCell' = true)
    (hsz : ∀ x, (enc x).length = sz) (tk : Take Γ (own sz enc (some ⟨b, off, none⟩) cap xs) Γ') (hj : o = off + k * sz + j) (hp : xs[k]? = some p) (hlt : j + us.length ≤ sz) (hq : enc q = setL (enc p) j us)
    (kk : Le (St w0 ds n e (own sz enc (some ⟨b, off, none⟩) cap (xs.set k q) :: Γ')) (AG P r l.toArray fl (wpRT P r l.toArray K t))) : Le (St w0 ds n e Γ) (wpRT P r l.toArray K (.l i fl t)) :=
  l_gen ho hg (fun _ h => by cases h) (fun a w s => by
    subst hj
    have s1 := tk _ s.heap
    obtain ⟨hc, -⟩ := own_le s1
    obtain ⟨sp, hsp, s2⟩ := own_cells s1
    have hk : k < xs.length := by
      rcases Nat.lt_or_ge k xs.length with h' | h'
      · exact h'
      · rw [List.getElem?_eq_none h'] at hp; cases hp
    have hb : k * sz + j + us.length ≤ (xs.flatMap enc ++ sp).length := by
      rw [List.length_append, flat_len hsz]
      have : (k + 1) * sz ≤ xs.length * sz := Nat.mul_le_mul_right _ hk
      rw [Nat.succ_mul] at this
      omega
    obtain ⟨w', e1, e2, e3⟩ := run_storeAt (P := P) s2 hs hv hl hb h1
    have hr : (execOp a.eval ⟨none, .store T x y, ty, pos, af, g⟩).run P w = .ok .skip w' := by
      rw [← Nat.add_assoc] at e1
      simp [execOp, s.ev hx, s.ev hy, e1]
    rw [hr]
    rw [setL_flat hsz xs sp us k j p q hp hlt hq] at e2
    exact kk _ _ (s.world (own_mk (by simpa using hc) (by simpa using hsp) e2) e3))
/-- What a slice reads as, through a resource. -/
def RdS (A : HProp) (bo : Option Addr) (vs : List Value) : Prop := vs = [] ∨ ∃ b o, bo = some ⟨b, o, none⟩ ∧ RdN A b o vs
theorem rds_some {A : HProp} {b o : Nat} {vs : List Value} (h : RdN A b o vs) : RdS A (some ⟨b, o, none⟩) vs := .inr ⟨b, o, rfl, h⟩
theorem rds_own {α : Type} {sz : Nat} {enc : α → List Value} {ao : Option Addr} {cap : Nat} {xs : List α} (hsz : ∀ x, (enc x).length = sz) (ha : ao = none → xs = []) (hb : ao ≠ none → ∃ b o, ao = some ⟨b, o, none⟩) : RdS (own sz enc ao cap xs) ao (xs.flatMap enc) := by
  cases ao with
  | none => rw [ha rfl]; exact .inl rfl
  | some p =>
    obtain ⟨b, o, h⟩ := hb (by simp)
    refine .inr ⟨b, o, h, ?_⟩
    rintro j v hv hp ⟨hc, h2⟩
    rcases h2 with ⟨h3, -⟩ | ⟨b', off', sp, h3, -, h4⟩
    · cases h3
    · rw [h] at h3; cases h3
      refine ⟨false, h4 _ v ?_⟩
      rw [List.getElem?_append_left]
      · exact hv
      · rcases Nat.lt_or_ge j (xs.flatMap enc).length with h' | h'
        · exact h'
        · rw [List.getElem?_eq_none h'] at hv; cases hv
theorem run_first {A : HProp} {bo : Option Addr} {vs : List Value} {m sz c : Nat} {w : World} (hr : RdS A bo vs) (hl : vs.length = m * sz) (s : Sat (A :: Γ) (lh w)) : (Builtin.firstCells sz m (.slice bo m c)).run P w = .ok vs.toArray w := by
  cases bo with
  | none =>
    rcases hr with h | ⟨b, o, h, -⟩
    · subst h; simp [Builtin.firstCells]
    · cases h
  | some p =>
    rcases hr with h | ⟨b, o, h, hr⟩
    · subst h
      simp only [List.length_nil] at hl
      simp [Builtin.firstCells, ← hl, loadCells, loadCellsFrom]
    · cases h
      exact run_firstCells_some w sz m ⟨b, o, none⟩ m c vs hl (fun j v hv => by
        rw [add_none]; exact (hr j v hv).world s)
theorem info_of_run {T : TypeId} {ti : TypeInfo} (h : ∀ w, (typeInfo T).run P w = .ok ti w) : P.info? T = some ti := by
  have := h default
  simp only [typeInfo, Sem.run_bind, run_program, Result.andThen_ok] at this
  cases hi : P.info? T with
  | none => simp [hi] at this
  | some x => simp [hi] at this; rw [this]
theorem zeroCells_len (z : Array Value) (k : Nat) : (Builtin.zeroCells z k).toList.length = k * z.size := by simp [Builtin.zeroCells]
/-- ... either in place, or in a new block: what was there before stays. -/
theorem run_append2 {α : Type} {T E : TypeId} {sz : Nat} {enc : α → List Value} {ao bo : Option Addr} {cap m c : Nat} {xs ys : List α} {A : HProp} {ti : TypeInfo} {z : Value} {w : World} (hu : P.underlying T = some (.slice E)) (hti : ∀ w, (typeInfo E).run P w = .ok ti w)
    (hz : ti.zero = some z) (hzs : z.cells.size = sz) (hsi : ti.size = sz) (hsz : ∀ x, (enc x).length = sz) (hpos : 0 < sz) (h1 : ∀ y, (enc y).all Value.oneCell' = true)
    (s : Sat (own sz enc ao cap xs :: A :: Γ) (lh w)) (hr : RdS A bo (ys.flatMap enc)) (hm : ys.length = m) (h63 : xs.length + m ≤ 9223372036854775807) (hby : (xs.length + m) * ti.bytes ≤ 140737488355328) :
    ∃ ao' cap' w', (Builtin.append_ #[T, T] ty #[.slice ao xs.length cap, .slice bo m c]).run P w = .ok (.slice ao' (xs.length + m) cap') w' ∧ ((ao' = ao ∧ cap' = cap ∧ Sat (own sz enc ao' cap' (xs ++ ys) :: A :: Γ) (lh w')) ∨ Sat (own sz enc ao' cap' (xs ++ ys) :: own sz enc ao cap xs :: A :: Γ) (lh w')) ∧ Amb w w' := by
  have hi := info_of_run hti
  have hfl : (ys.flatMap enc).length = m * sz := by rw [flat_len hsz, hm]
  obtain ⟨hc, hn, hs⟩ := own_le s
  have hall : (ys.flatMap enc).all Value.oneCell' = true := by
    rw [List.all_flatMap]; simp [h1]
  by_cases hroom : xs.length + m ≤ cap
  · -- there is room
    have hf := fun {Γ : List HProp} {w : World} (s : Sat (A :: Γ) (lh w)) => run_first (P := P) (c := c) hr hfl s
    cases ao with
    | none =>
      obtain ⟨rfl, rfl⟩ := hn rfl
      have hm0 : m = 0 := by omega
      subst hm0
      have hys : ys = [] := List.eq_nil_of_length_eq_zero hm
      subst hys
      have hf0 := hf s.tail
      refine ⟨none, 0, w, ?_, .inl ⟨rfl, rfl, s⟩, Amb.refl w⟩
      simp [Builtin.append_, run_underlying hu, sizeOf, hti, Builtin.lenOf, hsi, hf0]
    | some p =>
      obtain ⟨b, off, hp⟩ := hs (by simp)
      cases hp
      obtain ⟨sp, hsp, s2⟩ := own_cells s
      have hlen : xs.length * sz + (ys.flatMap enc).length ≤ (xs.flatMap enc ++ sp).length := by
        rw [List.length_append, flat_len hsz xs, hsp, hfl]
        have : (xs.length + m) * sz ≤ cap * sz := Nat.mul_le_mul_right _ hroom
        rw [Nat.add_mul] at this
        rw [Nat.sub_mul]
        have := Nat.mul_le_mul_right sz hc
        omega
      obtain ⟨w', e1, e2, e3⟩ := run_storeSat (P := P) (ys.flatMap enc) (xs.length * sz) 0 _ _ w s2 (by simpa using hlen) hall
      have hf0 := hf s.tail
      refine ⟨some ⟨b, off, none⟩, cap, w', ?_, .inl ⟨rfl, rfl, ?_⟩, e3⟩
      · simp [Builtin.append_, run_underlying hu, sizeOf, hti, Builtin.lenOf, hsi, hf0, hroom, add_none, e1]
      · have hsl : sp.length = (cap - xs.length) * sz := hsp
        have hle : (ys.flatMap enc).length ≤ sp.length := by
          rw [hfl, hsl]
          exact Nat.mul_le_mul_right _ (by omega)
        have hspl : sp = sp.take (ys.flatMap enc).length ++ sp.drop (ys.flatMap enc).length := (List.take_append_drop _ _).symm
        have e4 := setL_eq (ys.flatMap enc) (xs.flatMap enc) (sp.take (ys.flatMap enc).length) (sp.drop (ys.flatMap enc).length) (by rw [List.length_take]; omega)
        rw [List.append_assoc, ← hspl, flat_len hsz] at e4
        rw [Nat.add_zero, e4] at e2
        refine own_mk (by simp; omega) ?_ (by rw [List.flatMap_append]; exact e2)
        rw [List.length_drop, hsl, hfl, List.length_append, hm, ← Nat.sub_mul]
        congr 1
        omega
  · -- a new block
    have hroom : cap < xs.length + m := by omega
    have hfit := growslice_fits (bytes := ti.bytes) hroom hby
    have hmk : ∀ k, xs.length + m ≤ k → ∀ v : World, v = w.drew → Sat (own sz enc (some ⟨w.heap.size, 0, none⟩) k (xs ++ ys) :: own sz enc ao cap xs :: A :: Γ)
        (lh (w.drew.alloc (.cells ((xs.flatMap enc).toArray ++ (ys.flatMap enc).toArray ++ Builtin.zeroCells z.cells (k - (xs.length + m))) E))) := by
      intro k hk v hv
      have s3 : Sat (own sz enc ao cap xs :: A :: Γ) (lh w.drew) := s
      have s4 := s3.newCells ((xs.flatMap enc).toArray ++ (ys.flatMap enc).toArray ++ Builtin.zeroCells z.cells (k - (xs.length + m))) E
      refine own_mk (sp := (Builtin.zeroCells z.cells (k - (xs.length + m))).toList) (by simp; omega) ?_ (by rw [List.flatMap_append]; simpa using s4)
      rw [zeroCells_len, hzs, List.length_append, hm]
    cases ao with
    | none =>
      obtain ⟨rfl, rfl⟩ := hn rfl
      have hm0 : 0 < m := by simpa using hroom
      cases bo with
      | none =>
        rcases hr with h | ⟨b, o, h, -⟩
        · rw [h] at hfl
          have : 0 < m * sz := Nat.mul_pos hm0 hpos
          simp at hfl; omega
        · cases h
      | some p =>
        have hnews : ∀ j v, (ys.flatMap enc)[j]? = some v → w.cell? (p.add j) = some v := by
          intro j v hv
          rcases hr with h | ⟨b, o, h, hr⟩
          · rw [h] at hv; simp at hv
          · cases h; rw [add_none]; exact (hr j v hv).world s.tail
        have := run_append_nil (P := P) w T ty E ti z hu hi hz p m c (ys.flatMap enc) (by rw [hfl, hsi]) hnews hm0 (by simp at h63; omega) (by simp at hby; omega)
        refine ⟨some ⟨w.heap.size, 0, none⟩, grownCap w m 0 E, w.drew.alloc (.cells ((ys.flatMap enc).toArray ++ Builtin.zeroCells z.cells (grownCap w m 0 E - m)) E), by simpa using this, ?_, ⟨rfl, rfl, rfl, by simp⟩⟩
        have h2 := hmk (grownCap w m 0 E) (by have := grownCap_ge w m 0 E; simpa using this) _ rfl
        exact .inr (by simpa using h2)
    | some p =>
      obtain ⟨b, off, hp⟩ := hs (by simp)
      cases hp
      obtain ⟨sp, hsp, s2⟩ := own_cells s
      have holds : ∀ j v, (xs.flatMap enc)[j]? = some v → w.cell? ((⟨b, off, none⟩ : Addr).add j) = some v := by
        intro j v hv
        rw [add_none]
        exact (rd_c j (by
          rw [List.getElem?_append_left]
          · exact hv
          · rcases Nat.lt_or_ge j (xs.flatMap enc).length with h' | h'
            · exact h'
            · rw [List.getElem?_eq_none h'] at hv; cases hv)).world s2
      cases bo with
      | none =>
        rcases hr with h | ⟨b, o, h, -⟩
        · rw [h] at hfl
          have hm0 : 0 < m := by omega
          have : 0 < m * sz := Nat.mul_pos hm0 hpos
          simp at hfl; omega
        · cases h
      | some p =>
        have hnews : ∀ j v, (ys.flatMap enc)[j]? = some v → w.cell? (p.add j) = some v := by
          intro j v hv
          rcases hr with h | ⟨b, o, h, hr⟩
          · rw [h] at hv; simp at hv
          · cases h; rw [add_none]; exact (hr j v hv).world s.tail
        have := run_append_grow (P := P) w T ty E ti z hu hi hz ⟨b, off, none⟩ xs.length cap (xs.flatMap enc) (by rw [flat_len hsz, hsi]) holds p m c (ys.flatMap enc) (by rw [hfl, hsi]) hnews hroom (by omega) hfit
        exact ⟨_, _, _, this, .inr (hmk _ (grownCap_ge w _ cap E) _ rfl), ⟨rfl, rfl, rfl, by simp⟩⟩
theorem run_append {α : Type} {T E : TypeId} {sz : Nat} {enc : α → List Value} {ao bo : Option Addr} {cap m c : Nat} {xs ys : List α} {A : HProp} {ti : TypeInfo} {z : Value} {w : World} (hu : P.underlying T = some (.slice E)) (hti : ∀ w, (typeInfo E).run P w = .ok ti w)
    (hz : ti.zero = some z) (hzs : z.cells.size = sz) (hsi : ti.size = sz) (hsz : ∀ x, (enc x).length = sz) (hpos : 0 < sz) (h1 : ∀ y, (enc y).all Value.oneCell' = true)
    (s : Sat (own sz enc ao cap xs :: A :: Γ) (lh w)) (hr : RdS A bo (ys.flatMap enc)) (hm : ys.length = m) (h63 : xs.length + m ≤ 9223372036854775807) (hby : (xs.length + m) * ti.bytes ≤ 140737488355328) :
    ∃ ao' cap' w', (Builtin.append_ #[T, T] ty #[.slice ao xs.length cap, .slice bo m c]).run P w = .ok (.slice ao' (xs.length + m) cap') w' ∧ Sat (own sz enc ao' cap' (xs ++ ys) :: A :: Γ) (lh w') ∧ Amb w w' := by
  obtain ⟨ao', cap', w', e1, e2, e3⟩ := run_append2 (P := P) (ty := ty) (c := c) hu hti hz hzs hsi hsz hpos h1 s hr hm h63 hby
  refine ⟨ao', cap', w', e1, ?_, e3⟩
  rcases e2 with ⟨-, -, e2⟩ | e2
  · exact e2
  · exact Sat.cons_mono (fun h s => s.tail) e2
end
end Go.Ab
set_option linter.unusedVariables false
set_option linter.unusedSimpArgs false
namespace Go.Ab
open Go
/-- A contract: with the resources Δ (and whatever else), the call returns v x for some x that meets φ, with the resources Δ' x (and whatever else). -/
def Spec (P : Program) (f : FuncId) (args : List Value) (Δ : List HProp) {α : Type} (v : α → Value) (φ : α → Prop) (Δ' : α → List HProp) : Prop :=
  ∀ (Γ : List HProp) (w : World), Sat (Δ ++ Γ) (lh w) → Calls P f args.toArray w fun e w' => ∃ x, e = .returned (v x) ∧ φ x ∧ Sat (Δ' x ++ Γ) (lh w') ∧ Amb w w'
/-- What a body owes. -/
def postR (w0 : World) (Γ : List HProp) {α : Type} (v : α → Value) (φ : α → Prop) (Δ' : α → List HProp) : Ending → World → Prop :=
  fun e w' => ∃ x, e = .returned (v x) ∧ φ x ∧ Sat (Δ' x ++ Γ) (lh w') ∧ Amb w0 w'
theorem Spec.conseq {P : Program} {f : FuncId} {args : List Value} {Δ : List HProp} {α β : Type} {v : α → Value} {φ : α → Prop} {Δ' : α → List HProp} {v2 : β → Value} {φ2 : β → Prop} {Δ2 Δ2' : _}
    (h : Spec P f args Δ v φ Δ') (k : ∀ Γ hp, Sat (Δ2 ++ Γ) hp → Sat (Δ ++ Γ) hp) (k' : ∀ x, φ x → ∃ y : β, v x = v2 y ∧ φ2 y ∧ ∀ Γ hp, Sat (Δ' x ++ Γ) hp → Sat (Δ2' y ++ Γ) hp) : Spec P f args Δ2 v2 φ2 Δ2' :=
  fun Γ w s => (h Γ w (k Γ _ s)).mono fun e w' ⟨x, e1, hx, s', a⟩ => by
    obtain ⟨y, e2, hy, k2⟩ := k' x hx
    exact ⟨y, by rw [e1, e2], hy, k2 Γ _ s', a⟩
/-- The first slots. -/
def argE : Nat → List Value → Env
  | _, [] => []
  | i, v :: vs => (i, v) :: argE (i + 1) vs
theorem look_argE : ∀ (vs : List Value) (i t : Nat) (v : Value), look (argE i vs) t = some v → i ≤ t ∧ vs[t - i]? = some v
  | [], i, t, v, h => by cases h
  | u :: vs, i, t, v, h => by
    simp only [argE, look] at h
    cases hb : Nat.beq i t with
    | true =>
      rw [hb] at h
      have := Nat.eq_of_beq_eq_true hb
      subst this
      simp only [cond_true, Option.some.injEq] at h
      exact ⟨Nat.le_refl _, by simpa using h⟩
    | false =>
      rw [hb] at h
      obtain ⟨h1, h2⟩ := look_argE vs (i + 1) t v h
      refine ⟨by omega, ?_⟩
      rw [show t - i = (t - (i + 1)) + 1 from by omega]
      simpa using h2
theorem spec_mk {P : Program} {f : FuncId} {args : List Value} {Δ : List HProp} {α : Type} {v : α → Value} {φ : α → Prop} {Δ' : α → List HProp} {fn : Func} {c : Code} {n : Nat} (hf : P.funcs[f]? = some fn) (hb : fn.body = some c) (hn : fn.ntmps = n) (hle : Nat.ble args.length n = true)
    (h : ∀ Γ w0, Le (St w0 [] n (argE 0 args) (Δ ++ Γ)) (c.wpIn (fz none) 0 P (bodyPost P fn (postR w0 Γ v φ Δ')))) : Spec P f args Δ v φ Δ' := by
  intro Γ w s
  have hle : args.length ≤ n := Nat.le_of_ble_eq_true hle
  refine calls_of_wp hf hb ?_
  refine (wpIn_wide (n := 0)).1 (h Γ w _ _ ⟨rfl, by simp [hn]; omega, fun t u ht => ?_, s, Amb.refl w⟩)
  obtain ⟨-, h2⟩ := look_argE args 0 t u ht
  have hlt : t < args.length := by
    rcases Nat.lt_or_ge t args.length with h' | h'
    · exact h'
    · rw [Nat.sub_zero, List.getElem?_eq_none h'] at h2; cases h2
  rw [Nat.sub_zero] at h2
  simp only [Array.getD_eq_getD_getElem?]
  rw [Array.getElem?_append_left (by simpa using hlt)]
  simp [h2]
section
variable {P : Program} {r : Option Nat} {w0 : World} {ds : List Deferred} {n : Nat} {e : Env} {Γ : List HProp} {K : Act → World → Prop} {l : List Oper} {i : Nat} {t : RT} {fl : List Nat}
variable {d : Nat} {ty : TypeId} {pos : String} {af : Array Edge} {g : Option (Nat × Bool)}
/-! ### A function's end -/
theorem ret_gen {α : Type} {Γ0 : List HProp} {v : α → Value} {φ : α → Prop} {Δ' : α → List HProp} {fn : Func} {u : Value} (hr : ∀ a w, St w0 [] n e Γ a w → (results fn a.tmps).run P w = .ok u w) (x : α) (hu : u = v x) (hx : φ x) (hΓ : Takes Γ (Δ' x) Γ0) :
    Le (St w0 [] n e Γ) (bodyPost P fn (postR w0 Γ0 v φ Δ') .ret) := fun a w s => ⟨s.defers, u, hr a w s, x, by rw [hu], hx, hΓ _ s.heap, s.amb⟩
theorem ret_end {α : Type} {Γ0 : List HProp} {v : α → Value} {φ : α → Prop} {Δ' : α → List HProp} {fn : Func} (h : Le (St w0 [] n e Γ) (bodyPost P fn (postR w0 Γ0 v φ Δ') .ret)) :
    Le (St w0 [] n e Γ) (bodyPost P fn (postR w0 Γ0 v φ Δ') .normal) := h
theorem ret0 {α : Type} {Γ0 : List HProp} {v : α → Value} {φ : α → Prop} {Δ' : α → List HProp} {fn : Func} (hf : fn.results = #[]) (x : α) (hu : .tuple #[] = v x) (hx : φ x) (hΓ : Takes Γ (Δ' x) Γ0) :
    Le (St w0 [] n e Γ) (bodyPost P fn (postR w0 Γ0 v φ Δ') .ret) := ret_gen (fun a w s => results_none hf _ _ _) x hu hx hΓ
theorem ret1 {α : Type} {Γ0 : List HProp} {v : α → Value} {φ : α → Prop} {Δ' : α → List HProp} {fn : Func} {k : Nat} {u : Value} (hf : fn.results = #[.tmp k]) (hl : look e k = some u) (x : α) (hu : u = v x) (hx : φ x) (hΓ : Takes Γ (Δ' x) Γ0) :
    Le (St w0 [] n e Γ) (bodyPost P fn (postR w0 Γ0 v φ Δ') .ret) := ret_gen (fun a w s => by rw [results_tmp hf, s.env k u hl]) x hu hx hΓ
theorem ret2 {α : Type} {Γ0 : List HProp} {v : α → Value} {φ : α → Prop} {Δ' : α → List HProp} {fn : Func} {k k2 : Nat} {u u2 : Value} (hf : fn.results = #[.tmp k, .tmp k2]) (hl : look e k = some u) (hl2 : look e k2 = some u2) (x : α) (hu : .tuple #[u, u2] = v x) (hx : φ x) (hΓ : Takes Γ (Δ' x) Γ0) :
    Le (St w0 [] n e Γ) (bodyPost P fn (postR w0 Γ0 v φ Δ') .ret) := ret_gen (fun a w s => by rw [results_tmp2 hf, s.env k u hl, s.env k2 u2 hl2]) x hu hx hΓ
/-! ### Calls -/
theorem l_call {fo : Operand} {xs : List Operand} {ts : Array TypeId} {f : FuncId} {fi ca vs full : List Value} {Δ Γ' : List HProp} {α : Type} {v : α → Value} {φ : α → Prop} {Δ' : α → List HProp}
    (ho : nthO l i = some ⟨some d, .call ⟨.value fo, xs.toArray, ts⟩, ty, pos, af, g⟩) (hg : gd l e g = some true) (hn : Nat.blt d n = true) (hf : ev e fo = some (.func (.func f) fi.toArray ca.toArray)) (hxs : evs e xs = some vs) (hfull : fi ++ vs ++ ca = full)
    (hc : ∀ args w, (callFunc f args).run P w = .ok (.enter f args) w) (hs : Spec P f full Δ v φ Δ') (tk : Takes Γ Δ Γ')
    (k : ∀ x, φ x → Le (St w0 ds n ((d, v x) :: e) (Δ' x ++ Γ')) (AG P r l.toArray fl (wpRT P r l.toArray K t))) : Le (St w0 ds n e Γ) (wpRT P r l.toArray K (.l i fl t)) :=
  l_gen ho hg (fun _ h => by cases h) (fun a w s => by
    have hargs : Array.map a.eval xs.toArray = vs.toArray := by rw [List.map_toArray, s.evs hxs]
    have hr : (execOp a.eval ⟨some d, .call ⟨.value fo, xs.toArray, ts⟩, ty, pos, af, g⟩).run P w = .ok (.enter f full.toArray) w := by
      subst hfull
      simp only [execOp, resolve, hargs, s.ev hf, Deferred.ofValue, invoke, Sem.run_bind, Sem.run_pure, Result.andThen_ok, hc]
      simp
    rw [hr]
    refine (hs Γ' w (tk _ s.heap)).mono ?_
    rintro e' w' ⟨x, rfl, hx, s', am⟩
    exact ⟨_, rfl, k x hx _ _ ((s.world s' am).put hn)⟩)
/-! ### Loads by the kind of resource -/
theorem q_load_c {T : TypeId} {x : Operand} {b o off j : Nat} {v : Value} {vs : List Value} {Γ' : List HProp} (ho : nthO l i = some ⟨some d, .load T x, ty, pos, af, g⟩) (hg : gd l e g = some true) (hn : Nat.blt d n = true)
    (hx : ev e x = some (.pointer (some ⟨b, o, none⟩))) (hA : ∀ w, (isAgg T).run P w = .ok false w) (tk : Take Γ (cells b off vs) Γ') (hj : o = off + j) (hv : vs[j]? = some v)
    (k : Le (St w0 ds n ((d, v) :: e) Γ) (wpRT P r l.toArray K t)) : Le (St w0 ds n e Γ) (wpRT P r l.toArray K (.q i t)) :=
  q_load ho hg hn hx hA tk (hj ▸ rd_cells hv) k
theorem q_load_o {α : Type} {T : TypeId} {x : Operand} {b o off j k' cap sz : Nat} {enc : α → List Value} {xs : List α} {p : α} {v : Value} {Γ' : List HProp} (ho : nthO l i = some ⟨some d, .load T x, ty, pos, af, g⟩) (hg : gd l e g = some true) (hn : Nat.blt d n = true)
    (hx : ev e x = some (.pointer (some ⟨b, o, none⟩))) (hA : ∀ w, (isAgg T).run P w = .ok false w) (tk : Take Γ (own sz enc (some ⟨b, off, none⟩) cap xs) Γ') (hsz : ∀ x, (enc x).length = sz) (hj : o = off + k' * sz + j) (hp : xs[k']? = some p) (hv : (enc p)[j]? = some v)
    (k : Le (St w0 ds n ((d, v) :: e) Γ) (wpRT P r l.toArray K t)) : Le (St w0 ds n e Γ) (wpRT P r l.toArray K (.q i t)) :=
  q_load ho hg hn hx hA tk (hj ▸ rd_ownF hsz hp hv) k
theorem q_loadN_c {T : TypeId} {x : Operand} {b o off sz : Nat} {vs : List Value} {Γ' : List HProp} (ho : nthO l i = some ⟨some d, .load T x, ty, pos, af, g⟩) (hg : gd l e g = some true) (hn : Nat.blt d n = true)
    (hx : ev e x = some (.pointer (some ⟨b, o, none⟩))) (hA : ∀ w, (isAgg T).run P w = .ok true w) (hs : ∀ w, (sizeOf T).run P w = .ok sz w) (tk : Take Γ (cells b off vs) Γ') (j : Nat) {us : List Value} (hj : o = off + j) (hu : (vs.drop j).take sz = us) (hl : us.length = sz)
    (k : Le (St w0 ds n ((d, .agg us.toArray) :: e) Γ) (wpRT P r l.toArray K t)) : Le (St w0 ds n e Γ) (wpRT P r l.toArray K (.q i t)) :=
  q_loadN ho hg hn hx hA hs tk (fun q v hq => by
    subst hj
    rw [Nat.add_assoc]
    refine rd_cells ?_
    rw [← hu, List.getElem?_take] at hq
    split at hq
    · rw [List.getElem?_drop] at hq; exact hq
    · cases hq) hl k
/-! ### Cuts -/
def cutA (ao : Option Addr) (cap h sz : Nat) : Option Addr := if cap = h then ao else ao.map (·.add (h * sz))
theorem cutA_zero (ao : Option Addr) (cap sz : Nat) (h : ∀ p, ao = some p → p.spot = none) : cutA ao cap 0 sz = ao := by
  unfold cutA
  split
  · rfl
  · cases ao with
    | none => rfl
    | some p => simp [Addr.add]
theorem cutA_lt {b o cap h sz : Nat} (hlt : h < cap) : cutA (some ⟨b, o, none⟩) cap h sz = some ⟨b, o + h * sz, none⟩ := by
  unfold cutA
  rw [if_neg (by omega)]
  simp [add_none]
/-- x[:hi] -/
theorem q_cut_hi {T E : TypeId} {x y : Operand} {ao : Option Addr} {len cap sz h' : Nat} {k' : IntKind} {z : Int} (ho : nthO l i = some ⟨some d, .slice T x none (some y) none, ty, pos, af, g⟩) (hg : gd l e g = some true) (hn : Nat.blt d n = true)
    (hx : ev e x = some (.slice ao len cap)) (hy : ev e y = some (.int k' z)) (hu : P.underlying T = some (.slice E)) (hs : ∀ w, (sizeOf E).run P w = .ok sz w) (hz : z = (h' : Int)) (hcap : h' ≤ cap)
    (k : Le (St w0 ds n ((d, .slice ao h' cap) :: e) Γ) (wpRT P r l.toArray K t)) : Le (St w0 ds n e Γ) (wpRT P r l.toArray K (.q i t)) :=
  q_pure ho hg rfl hn rfl (fun _ h => by cases h) (fun a w s w' => by
    have h1 := run_sliceAt (P := P) (T := T) (E := E) (ao := ao) (len := len) (cap := cap) (sz := sz) (lo := none) (hi := some (k', z)) hu hs 0 h' (by simp) (by simp) (by simp [hz]) (by simp) (Nat.zero_le _) hcap w'
    have h2 : (if cap = 0 then ao else ao.map (·.add (0 * sz))) = ao := by
      split
      · rfl
      · cases ao <;> simp [Addr.add]
    rw [h2] at h1
    simp only [Option.map_none, Option.map_some, Nat.sub_zero] at h1
    simp [execOp, s.ev hx, s.ev hy, h1]) k
/-- Of an owned slice the beginning: the rest is spare room. -/
theorem own_take {α : Type} {sz : Nat} {enc : α → List Value} {ao : Option Addr} {cap : Nat} {xs : List α} (hsz : ∀ x, (enc x).length = sz) (m : Nat) {h : Hp} (s : Sat (own sz enc ao cap xs :: Γ) h) : Sat (own sz enc ao cap (xs.take m) :: Γ) h := by
  refine Sat.head_mono ?_ s
  rintro h1 ⟨hc, h2⟩
  refine ⟨by rw [List.length_take]; omega, ?_⟩
  rcases h2 with h2 | ⟨b, off, sp, h3, h4, h5⟩
  · exact .inl h2
  · refine .inr ⟨b, off, (xs.drop m).flatMap enc ++ sp, h3, ?_, ?_⟩
    · rw [List.length_append, flat_len hsz, h4, List.length_drop, List.length_take, ← Nat.add_mul]
      congr 1
      omega
    · rw [← List.append_assoc, ← List.flatMap_append, List.take_append_drop]
      exact h5
/-! ### append, make, copy, clear -/
theorem l_append {α : Type} {T E : TypeId} {x y : Operand} {sz : Nat} {enc : α → List Value} {ao bo : Option Addr} {m c len cap : Nat} {xs ys : List α} {A : HProp} {ti : TypeInfo} {z : Value} {Γ1 Γ2 : List HProp} (ho : nthO l i = some ⟨some d, .call ⟨.builtin .append, #[x, y], #[T, T]⟩, ty, pos, af, g⟩) (hg : gd l e g = some true) (hn : Nat.blt d n = true)
    (hx : ev e x = some (.slice ao len cap)) (hy : ev e y = some (.slice bo m c)) (hu : P.underlying T = some (.slice E)) (hti : ∀ w, (typeInfo E).run P w = .ok ti w) (hz : ti.zero = some z) (hzs : z.cells.size = sz) (hsi : ti.size = sz) (hpos : 0 < sz)
    (tk : Take Γ (own sz enc ao cap xs) Γ1) (tk2 : Take Γ1 A Γ2) (hlen : xs.length = len) {us : List Value} (hr : RdS A bo us) (hus : ys.flatMap enc = us) (hm : ys.length = m) (hsz : ∀ x, (enc x).length = sz) (h1 : ∀ y, (enc y).all Value.oneCell' = true)
    (h63 : len + m ≤ 9223372036854775807) (hby : (len + m) * ti.bytes ≤ 140737488355328)
    (k : ∀ ao' cap', Le (St w0 ds n ((d, .slice ao' (len + m) cap') :: e) (own sz enc ao' cap' (xs ++ ys) :: A :: Γ2)) (AG P r l.toArray fl (wpRT P r l.toArray K t))) : Le (St w0 ds n e Γ) (wpRT P r l.toArray K (.l i fl t)) :=
  l_gen ho hg (fun _ h => by cases h) (fun a w s => by
    subst hlen
    subst hus
    have s1 : Sat (own sz enc ao cap xs :: A :: Γ2) (lh w) := Sat.cons_mono tk2 (tk _ s.heap)
    obtain ⟨ao', cap', w', e1, e2, e3⟩ := run_append (P := P) (ty := ty) (c := c) hu hti hz hzs hsi hsz hpos h1 s1 hr hm h63 hby
    have hr' : (execOp a.eval ⟨some d, .call ⟨.builtin .append, #[x, y], #[T, T]⟩, ty, pos, af, g⟩).run P w = .ok (.value (.slice ao' (xs.length + m) cap')) w' := by
      simp [execOp, resolve, invoke, builtin, s.ev hx, s.ev hy, e1]
    rw [hr']
    exact k ao' cap' _ _ ((s.world e2 e3).put hn))
theorem run_make {T E : TypeId} {len cap : Nat} {k1 k2 : IntKind} {ti : TypeInfo} {z : Value} (hu : P.underlying T = some (.slice E)) (hti : ∀ w, (typeInfo E).run P w = .ok ti w) (hz : ti.zero = some z) (hzs : z.cells.size = ti.size) (hle : len ≤ cap) (hcap : cap ≤ 9223372036854775807) (hby : ti.bytes * cap ≤ 281474976710656) (hpos : 0 < ti.size) (w : World) :
    ∃ cs : Array Value, cs.toList = (List.replicate cap z.cells.toList).flatten ∧ (Instr.makeSlice T (.int k1 (len : Int)) (.int k2 (cap : Int))).run P w = .ok (.slice (some ⟨w.heap.size, 0, none⟩) len cap) (w.alloc (.cells cs E)) := by
  refine ⟨(Array.range (cap * ti.size)).map fun x => z.cells[x % z.cells.size]!, ?_, ?_⟩
  · have : ∀ k : Nat, (List.range (k * z.cells.size)).map (fun x => z.cells[x % z.cells.size]!) = (List.replicate k z.cells.toList).flatten := by
      intro k
      induction k with
      | zero => simp
      | succ k ih =>
        rw [List.replicate_succ', List.flatten_concat, ← ih, Nat.succ_mul]
        rw [List.range_add, List.map_append]
        congr 1
        apply List.ext_getElem?
        intro j
        simp only [List.map_map, List.getElem?_map, List.getElem?_range]
        by_cases hj : j < z.cells.size
        · rw [List.getElem?_range hj]
          have : (k * z.cells.size + j) % z.cells.size = j := by rw [Nat.mul_comm, Nat.mul_add_mod]; exact Nat.mod_eq_of_lt hj
          simp [this, hj]
        · rw [List.getElem?_eq_none (by simpa using hj)]
          simp [Nat.le_of_not_lt hj]
    rw [Array.toList_map, Array.toList_range, ← hzs]
    exact this cap
  · have w1 : IntKind.i64.wrap (len : Int) = len := wrap_fits (fits_i64 (by omega) (by omega))
    have w2 : IntKind.i64.wrap (cap : Int) = cap := wrap_fits (fits_i64 (by omega) (by omega))
    have h1 : ¬ ((cap : Int) < 0) := by omega
    have h2 : ¬ ((ti.bytes : Int) * (cap : Int) > 2 ^ 48) := by
      have : (ti.bytes : Int) * (cap : Int) = ((ti.bytes * cap : Nat) : Int) := by simp
      rw [this]; omega
    have h3 : ¬ ((len : Int) < 0) := by omega
    have h4 : ¬ ((len : Int) > (cap : Int)) := by omega
    have hs : ∀ w, (sizeOf E).run P w = .ok ti.size w := fun w => by simp [sizeOf, hti]
    have hzv : ∀ w, (zeroValue E).run P w = .ok z w := fun w => by simp [zeroValue, hti, hz]
    simp only [Instr.makeSlice, Sem.run_bind, run_underlying hu, Result.andThen_ok, asInt, asIntOf, Sem.run_pure, hti, w1, w2]
    rw [if_neg (by simp; omega)]
    simp only [Sem.run_bind, run_askRoom, Result.andThen_ok, hs, Int.toNat_natCast]
    by_cases hc : cap * ti.size = 0
    · rw [if_pos hc]
      have : cap = 0 := by
        rcases Nat.mul_eq_zero.1 hc with h | h
        · exact h
        · omega
      subst this
      have h0 : ∀ f : Nat → Value, (Array.range 0).map f = #[] := fun f => by apply Array.ext'; simp
      simp [newRow, h0]
    · rw [if_neg hc]
      simp [hzv, newRow]
/-- A slice that is made: all its elements are x0, laid as the zero value. -/
theorem l_make {α : Type} {T E : TypeId} {x y : Operand} {enc : α → List Value} {len cap sz : Nat} {k1 k2 : IntKind} {z1 z2 : Int} {ti : TypeInfo} {z : Value} (x0 : α) (ho : nthO l i = some ⟨some d, .makeSlice T x y, ty, pos, af, g⟩) (hg : gd l e g = some true) (hn : Nat.blt d n = true)
    (hx : ev e x = some (.int k1 z1)) (hy : ev e y = some (.int k2 z2)) (hz1 : z1 = (len : Int)) (hz2 : z2 = (cap : Int)) (hu : P.underlying T = some (.slice E)) (hti : ∀ w, (typeInfo E).run P w = .ok ti w) (hz : ti.zero = some z) (hzs : z.cells.size = sz) (hsi : ti.size = sz) (hpos : 0 < sz)
    (hle : len ≤ cap) (hcap : cap ≤ 9223372036854775807) (hby : ti.bytes * cap ≤ 281474976710656) (henc : enc x0 = z.cells.toList) (hsz : ∀ x, (enc x).length = sz)
    (k : ∀ b, Le (St w0 ds n ((d, .slice (some ⟨b, 0, none⟩) len cap) :: e) (own sz enc (some ⟨b, 0, none⟩) cap (List.replicate len x0) :: Γ)) (AG P r l.toArray fl (wpRT P r l.toArray K t))) : Le (St w0 ds n e Γ) (wpRT P r l.toArray K (.l i fl t)) :=
  l_gen ho hg (fun _ h => by cases h) (fun a w s => by
    subst hz1 hz2
    obtain ⟨cs, hcs, e1⟩ := run_make (P := P) (k1 := k1) (k2 := k2) hu hti hz (by rw [hzs, hsi]) hle hcap hby (by rw [hsi]; exact hpos) w
    have hr' : (execOp a.eval ⟨some d, .makeSlice T x y, ty, pos, af, g⟩).run P w = .ok (.value (.slice (some ⟨w.heap.size, 0, none⟩) len cap)) (w.alloc (.cells cs E)) := by
      simp [execOp, s.ev hx, s.ev hy, e1]
    rw [hr']
    have s1 := s.heap.newCells cs E
    have s2 : Sat (own sz enc (some ⟨w.heap.size, 0, none⟩) cap (List.replicate len x0) :: Γ) (lh (w.alloc (.cells cs E))) := by
      refine own_mk (xs := List.replicate len x0) (sp := (List.replicate (cap - len) z.cells.toList).flatten) (by simpa using hle) ?_ ?_
      · rw [List.length_replicate]
        have : ∀ k : Nat, (List.replicate k z.cells.toList).flatten.length = k * sz := fun k => by
          simp [hzs]
        exact this _
      · have : (List.replicate len x0).flatMap enc ++ (List.replicate (cap - len) z.cells.toList).flatten = cs.toList := by
          rw [hcs, List.flatMap_def, List.map_replicate, henc, ← List.flatten_append, List.replicate_append_replicate]
          congr 2
          omega
        rw [this]; exact s1
    exact k _ _ _ ((s.world s2 ⟨rfl, rfl, rfl, by simp⟩).put hn))
end
end Go.Ab
set_option linter.unusedVariables false
set_option linter.unusedSimpArgs false
namespace Go.Ab
open Go
def EnvIn : Env → Env → Prop
  | [], _ => True
  | (k, v) :: e', e => look e k = some v ∧ EnvIn e' e
theorem envLe_of_in {e : Env} : ∀ {e' : Env}, EnvIn e' e → EnvLe e' e
  | [], _, t, v, h => by cases h
  | (k, u) :: e', ⟨h1, h2⟩, t, v, h => by
    simp only [look] at h
    cases hb : Nat.beq k t with
    | true =>
      rw [hb] at h
      have := Nat.eq_of_beq_eq_true hb
      subst this
      simp only [cond_true, Option.some.injEq] at h
      rw [h1, h]
    | false => rw [hb] at h; exact envLe_of_in h2 t v h
section
variable {P : Program} {r : Option Nat} {w0 : World} {ds : List Deferred} {n : Nat} {e : Env} {Γ : List HProp} {K : Act → World → Prop} {l : List Oper} {i : Nat} {t : RT} {fl : List Nat}
variable {d : Nat} {ty : TypeId} {pos : String} {af : Array Edge} {g : Option (Nat × Bool)}
/-- What is known is enough. -/
theorem le_st {e' : Env} {Γ' : List HProp} (h1 : EnvIn e' e) (h2 : Takes Γ Γ' []) : Le (St w0 ds n e Γ) (St w0 ds n e' Γ') := fun a w s =>
  ⟨s.defers, s.size, fun t v ht => s.env t v (envLe_of_in h1 t v ht), by have := h2 _ s.heap; rwa [List.append_nil] at this, s.amb⟩
theorem loop_next {α : Type} {φ : α → Prop} {E : α → Env} {G : α → List HProp} {μ : α → Nat} {x : α} (y : α) (hy : φ y) (hlt : μ y < μ x) (h1 : EnvIn (E y) e) (h2 : Takes Γ (G y) []) : Le (St w0 ds n e Γ) (fun a w => ∃ y, (φ y ∧ μ y < μ x) ∧ St w0 ds n (E y) (G y) a w) :=
  fun a w s => ⟨y, ⟨hy, hlt⟩, le_st h1 h2 a w s⟩
/-- The slot t holds another spelling of its value. -/
theorem s_eq {X : Act → World → Prop} (k : Nat) {v v' : Value} (hl : look e k = some v) (hv : v = v') (h : Le (St w0 ds n ((k, v') :: e) Γ) X) : Le (St w0 ds n e Γ) X := by
  subst hv
  refine s_env (fun t u ht => ?_) h
  simp only [look] at ht
  cases hb : Nat.beq k t with
  | true =>
    rw [hb] at ht
    have := Nat.eq_of_beq_eq_true hb
    subst this
    simp only [cond_true, Option.some.injEq] at ht
    rw [hl, ht]
  | false => rw [hb] at ht; exact ht
theorem l_assign {x : Operand} {v : Value} (ho : nthO l i = some ⟨some d, .assign x, ty, pos, af, g⟩) (hg : gd l e g = some true) (hn : Nat.blt d n = true) (hx : ev e x = some v)
    (k : Le (St w0 ds n ((d, v) :: e) Γ) (AG P r l.toArray fl (wpRT P r l.toArray K t))) : Le (St w0 ds n e Γ) (wpRT P r l.toArray K (.l i fl t)) :=
  l_gen ho hg (fun _ h => by cases h) (fun a w s => by
    have hr : (execOp a.eval ⟨some d, .assign x, ty, pos, af, g⟩).run P w = .ok (.value v) w := by simp [execOp, s.ev hx]
    rw [hr]
    exact k _ _ (s.put hn))
theorem run_equal_ptr {tx E : TypeId} {ao : Option Addr} (hu : P.underlying tx = some (.pointer E)) (w : World) : (Op.equal tx (.pointer ao) (.pointer none)).run P w = .ok ao.isNone w := by
  have key : ∀ k, (Op.equalIn (k + 1) tx (.pointer ao) (.pointer none)).run P w = .ok ao.isNone w := by
    intro k
    simp only [Op.equalIn, Sem.run_bind, run_underlying hu, Result.andThen_ok]
    cases ao <;> rfl
  exact key 9999
theorem run_equal_f0 {tx : TypeId} {fn : Fn} {fi ca : Array Value} {p1 p2 : Array TypeId} {vr : Bool} (hu : P.underlying tx = some (.func p1 p2 vr)) (w : World) : (Op.equal tx (.func fn fi ca) .nilFunc).run P w = .ok false w := by
  have key : ∀ k, (Op.equalIn (k + 1) tx (.func fn fi ca) .nilFunc).run P w = .ok false w := by
    intro k
    simp only [Op.equalIn, Sem.run_bind, run_underlying hu, Result.andThen_ok, Sem.run_pure]
  exact key 9999
theorem eval_const {a : Act} {v : Value} : a.eval (.const v) = v := rfl
/-- Is a pointer nil? -/
theorem q_eq_nil {tx tz : TypeId} {x : Operand} {ao : Option Addr} {E : TypeId} (ho : nthO l i = some ⟨some d, .binOp .eql tx x (.const (.pointer none)) tz, ty, pos, af, g⟩) (hg : gd l e g = some true) (hn : Nat.blt d n = true) (hx : ev e x = some (.pointer ao)) (hu : P.underlying tx = some (.pointer E))
    (k : Le (St w0 ds n ((d, .bool ao.isNone) :: e) Γ) (wpRT P r l.toArray K t)) : Le (St w0 ds n e Γ) (wpRT P r l.toArray K (.q i t)) :=
  q_pure ho hg rfl hn rfl (fun _ h => by cases h) (fun a w s w' => by
    simp only [execOp, s.ev hx, eval_const, eqGuard, Sem.run_bind]
    simp [binOp, run_equal_ptr hu]) k
theorem q_ne_nil {tx tz : TypeId} {x : Operand} {ao : Option Addr} {E : TypeId} (ho : nthO l i = some ⟨some d, .binOp .neq tx x (.const (.pointer none)) tz, ty, pos, af, g⟩) (hg : gd l e g = some true) (hn : Nat.blt d n = true) (hx : ev e x = some (.pointer ao)) (hu : P.underlying tx = some (.pointer E))
    (k : Le (St w0 ds n ((d, .bool (!ao.isNone)) :: e) Γ) (wpRT P r l.toArray K t)) : Le (St w0 ds n e Γ) (wpRT P r l.toArray K (.q i t)) :=
  q_pure ho hg rfl hn rfl (fun _ h => by cases h) (fun a w s w' => by
    simp only [execOp, s.ev hx, eval_const, eqGuard, Sem.run_bind]
    simp [binOp, run_equal_ptr hu]) k
/-- Is a function value nil? -/
theorem q_eq_nilf {tx tz : TypeId} {x : Operand} {fn : Fn} {fi ca : Array Value} {p1 p2 : Array TypeId} {vr : Bool} (ho : nthO l i = some ⟨some d, .binOp .eql tx x (.const .nilFunc) tz, ty, pos, af, g⟩) (hg : gd l e g = some true) (hn : Nat.blt d n = true) (hx : ev e x = some (.func fn fi ca)) (hu : P.underlying tx = some (.func p1 p2 vr))
    (k : Le (St w0 ds n ((d, .bool false) :: e) Γ) (wpRT P r l.toArray K t)) : Le (St w0 ds n e Γ) (wpRT P r l.toArray K (.q i t)) :=
  q_pure ho hg rfl hn rfl (fun _ h => by cases h) (fun a w s w' => by
    simp only [execOp, s.ev hx, eval_const, eqGuard, Sem.run_bind]
    simp [binOp, run_equal_f0 hu]) k
theorem c_loop2 {α : Type} {c : Code} {Q : Exit → Act → World → Prop} (φ : α → Prop) (Em : α → Env) (Gm : α → List HProp) (μ : α → Nat) (ks : List Nat) {er : Env} (her : keepE e ks = er) {Γr : List HProp} (x0 : α) (h0 : φ x0) (hE : EnvIn (Em x0) e) (hG : Takes Γ (Gm x0) Γr)
    (round : ∀ x, φ x → Le (St w0 ds n (Em x ++ er) (Gm x ++ Γr)) (c.wpIn (fz r) 0 P (Exit.then (fun a w => ∃ y, (φ y ∧ μ y < μ x) ∧ St w0 ds n (Em y ++ er) (Gm y ++ Γr) a w) Q))) : Le (St w0 ds n e Γ) ((Code.loop c).wpIn (fz r) 0 P Q) := by
  refine c_loop φ (fun x => Em x ++ er) (fun x => Gm x ++ Γr) μ (fun a w s => ⟨x0, h0, s.defers, s.size, fun t v ht => ?_, hG _ s.heap, s.amb⟩) round
  have h1 := envLe_of_in hE
  have h2 : EnvLe er e := her ▸ keepE_le e ks
  have key : ∀ (e1 : Env) t v, look (e1 ++ er) t = some v → look e1 t = some v ∨ look er t = some v := by
    intro e1
    induction e1 with
    | nil => intro t v h; exact .inr h
    | cons p e1 ih =>
      obtain ⟨k, u⟩ := p
      intro t v h
      simp only [List.cons_append, look] at h ⊢
      cases hb : Nat.beq k t with
      | true => rw [hb] at h; exact .inl h
      | false => rw [hb] at h; exact ih t v h
  rcases key _ _ _ ht with h | h
  · exact s.env t v (h1 t v h)
  · exact s.env t v (h2 t v h)
theorem takes_drop2 {A : HProp} {Γ Δ Γ' : List HProp} (h : Takes Γ Δ Γ') : Takes (A :: Γ) Δ Γ' := fun hp s => h hp s.tail
theorem own_facts {α : Type} {sz : Nat} {enc : α → List Value} {ao : Option Addr} {cap : Nat} {xs : List α} {Γ' : List HProp} (tk : Take Γ (own sz enc ao cap xs) Γ') : ∀ hp, Sat Γ hp → (xs.length ≤ cap ∧ (ao = none → xs = [] ∧ cap = 0) ∧ (ao ≠ none → ∃ b off, ao = some ⟨b, off, none⟩)) := fun hp s => own_le (tk hp s)
theorem own_some {α : Type} {sz : Nat} {enc : α → List Value} {ao : Option Addr} {cap : Nat} {xs : List α} {Γ' : List HProp} {k : Nat} {x : α} {X : Act → World → Prop} (tk : Take Γ (own sz enc ao cap xs) Γ') (h : xs[k]? = some x) (kk : ∀ b off, ao = some ⟨b, off, none⟩ → k < xs.length → xs.length ≤ cap → Le (St w0 ds n e Γ) X) : Le (St w0 ds n e Γ) X := fun a w s => by
  obtain ⟨h1, h2, h3⟩ := own_facts tk _ s.heap
  have hk : k < xs.length := (List.getElem?_eq_some_iff.1 h).1
  obtain ⟨b, off, hb⟩ := h3 (fun e => by have := (h2 e).1; subst this; simp at hk)
  exact kk b off hb hk h1 a w s
/-! Again: loads by the kind of resource. -/
theorem ag_load_c {j : Nat} {T : TypeId} {x : Operand} {b o off q : Nat} {v : Value} {vs : List Value} {Γ' : List HProp} {X : Act → World → Prop} (ho : nthO l j = some ⟨some d, .load T x, ty, pos, af, g⟩)
    (hx : ev e x = some (.pointer (some ⟨b, o, none⟩))) (hl : look e d = some v) (hA : ∀ w, (isAgg T).run P w = .ok false w) (tk : Take Γ (cells b off vs) Γ') (hj : o = off + q) (hv : vs[q]? = some v)
    (k : Le (St w0 ds n e Γ) (AG P r l.toArray fl X)) : Le (St w0 ds n e Γ) (AG P r l.toArray (j :: fl) X) := ag_load ho hx hl hA tk (hj ▸ rd_cells hv) k
theorem ag_load_o {α : Type} {j : Nat} {T : TypeId} {x : Operand} {b o off q k' cap sz : Nat} {enc : α → List Value} {xs : List α} {p : α} {v : Value} {Γ' : List HProp} {X : Act → World → Prop} (ho : nthO l j = some ⟨some d, .load T x, ty, pos, af, g⟩)
    (hx : ev e x = some (.pointer (some ⟨b, o, none⟩))) (hl : look e d = some v) (hA : ∀ w, (isAgg T).run P w = .ok false w) (tk : Take Γ (own sz enc (some ⟨b, off, none⟩) cap xs) Γ') (hsz : ∀ x, (enc x).length = sz) (hj : o = off + k' * sz + q) (hp : xs[k']? = some p) (hv : (enc p)[q]? = some v)
    (k : Le (St w0 ds n e Γ) (AG P r l.toArray fl X)) : Le (St w0 ds n e Γ) (AG P r l.toArray (j :: fl) X) := ag_load ho hx hl hA tk (hj ▸ rd_ownF hsz hp hv) k
end
end Go.Ab
namespace Go.Ab
theorem Tk {Γ Γ' : List HProp} {A : HProp} (h : Take Γ A Γ' := by with_reducible (repeat (first | exact Z0 | apply Z1))) : Take Γ A Γ' := h
theorem Td {Γ Γ' : List HProp} {A : HProp} (h : Take Γ A Γ' := by first | (with_reducible (repeat (first | exact Z0 | apply Z1)); done) | (repeat (first | exact Z0 | apply Z1))) : Take Γ A Γ' := h
theorem Ts {Γ Δ Γ' : List HProp} (h : Takes Γ Δ Γ' := by (repeat ((with_reducible apply Z2); focus (first | (with_reducible (repeat (first | exact Z0 | apply Z1)); done) | (repeat (first | exact Z0 | apply Z1))))); exact Z3) : Takes Γ Δ Γ' := h
theorem Tf {Γ Δ Γ' : List HProp} (h : Takes Γ Δ Γ' := by (repeat ((with_reducible apply Z2); focus (first | (with_reducible (repeat (first | exact Z0 | apply Z1)); done) | (repeat (first | exact Z0 | apply Z1))))); (repeat (first | exact Z3 | exact Takes.self | refine takes_drop2 ?_))) : Takes Γ Δ Γ' := h
theorem Kr {α : Sort _} {a b : α} (h : a = b := by kernel_rfl) : a = b := h
theorem Om {p : Prop} (h : p := by omega) : p := h
theorem Ln {p : Prop} (h : p := by first | rfl | assumption | omega | (simp; done) | (simp; omega)) : p := h
theorem Ca {α : Type _} {a : α} {as bs : List α} : (a :: as) ++ bs = a :: (as ++ bs) := List.cons_append
theorem Na {α : Type _} (as : List α) : [] ++ as = as := List.nil_append as
theorem Ad (n : Nat) : n + 0 = n := Nat.add_zero n
theorem Zd (n : Nat) : 0 + n = n := Nat.zero_add n
theorem Az {a b : Nat} (h : a = b := by first | rfl | exact (Nat.add_zero _).symm) : a = b := h
end Go.Ab
set_option linter.unusedVariables false
set_option linter.unusedSimpArgs false
namespace Go.Ab
open Go
section
variable {P : Program} {r : Option Nat} {w0 : World} {ds : List Deferred} {n : Nat} {e : Env} {Γ : List HProp} {K : Act → World → Prop} {l : List Oper} {i : Nat} {t : RT} {fl : List Nat}
variable {d : Nat} {ty : TypeId} {pos : String} {af : Array Edge} {g : Option (Nat × Bool)}
theorem rdn_sub {α : Type} {A : HProp} {b o k sz : Nat} {enc : α → List Value} {xs : List α} {x : α} (h : RdN A b o (xs.flatMap enc)) (hsz : ∀ x, (enc x).length = sz) (hx : xs[k]? = some x) : RdN A b (o + k * sz) (enc x) := fun i v hv => by
  rw [Nat.add_assoc]
  exact h _ v (flat_get hsz xs k i x v hx hv)
theorem rds_get {α : Type} {A : HProp} {bo : Option Addr} {enc : α → List Value} {sz : Nat} {xs : List α} {k : Nat} {x : α} (h : RdS A bo (xs.flatMap enc)) (hsz : ∀ x, (enc x).length = sz + 1) (hx : xs[k]? = some x) : ∃ b o, bo = some ⟨b, o, none⟩ ∧ RdN A b o (xs.flatMap enc) := by
  rcases h with h | h
  · have hk : k < xs.length := (List.getElem?_eq_some_iff.1 hx).1
    have := flat_len hsz xs
    rw [h] at this
    have h2 := Nat.mul_pos (Nat.lt_of_le_of_lt (Nat.zero_le _) hk) (Nat.succ_pos sz)
    rw [List.length_nil] at this
    rw [← this] at h2
    exact absurd h2 (Nat.lt_irrefl 0)
  · exact h
theorem get_lt {α : Type} {l : List α} {i : Nat} (h : i < l.length) : ∃ x, l[i]? = some x := ⟨l[i], List.getElem?_eq_getElem h⟩
/-! ### Numbers -/
theorem b_quo (tx : TypeId) {k' : IntKind} {p q : Int} (h0 : 0 ≤ p) (h1 : 0 < q) (hf : fits k' (p / q)) (w : World) : (binOp .quo tx (.int k' p) (.int k' q)).run P w = .ok (.int k' (p / q)) w := by
  have h2 : ¬ q = 0 := by omega
  have h3 : p.tdiv q = p / q := Int.tdiv_eq_ediv_of_nonneg h0
  simp [binOp, Op.intDiv, h2, h3, wrap_fits hf]
theorem b_rem (tx : TypeId) {k' : IntKind} {p q : Int} (h0 : 0 ≤ p) (h1 : 0 < q) (w : World) : (binOp .rem tx (.int k' p) (.int k' q)).run P w = .ok (.int k' (p % q)) w := by
  have h2 : ¬ q = 0 := by omega
  have h3 : p.tmod q = p % q := Int.tmod_eq_emod_of_nonneg h0
  simp [binOp, Op.intDiv, h2, h3]
theorem b_remT (tx : TypeId) {k' : IntKind} {p q : Int} (h1 : q ≠ 0) (w : World) : (binOp .rem tx (.int k' p) (.int k' q)).run P w = .ok (.int k' (p.tmod q)) w := by
  simp [binOp, Op.intDiv, h1]
theorem q_conv {T U : TypeId} {x : Operand} {k1 k2 : IntKind} {z : Int} {du : TypeDesc} (ho : nthO l i = some ⟨some d, .convert U T x, ty, pos, af, g⟩) (hg : gd l e g = some true) (hn : Nat.blt d n = true) (hx : ev e x = some (.int k1 z)) (hT : P.underlying T = some (.int k2)) (hU : P.underlying U = some (.int k1))
    (k : Le (St w0 ds n ((d, .int k2 (k2.wrap z)) :: e) Γ) (wpRT P r l.toArray K t)) : Le (St w0 ds n e Γ) (wpRT P r l.toArray K (.q i t)) :=
  q_pure ho hg rfl hn rfl (fun _ h => by cases h) (fun a w s w' => by simp [execOp, s.ev hx, convert, run_underlying hT, run_underlying hU, Conv.intToInt]) k
theorem q_conv' {T U : TypeId} {x : Operand} {k1 k2 : IntKind} {z : Int} (ho : nthO l i = some ⟨some d, .convert U T x, ty, pos, af, g⟩) (hg : gd l e g = some true) (hn : Nat.blt d n = true) (hx : ev e x = some (.int k1 z)) (hT : P.underlying T = some (.int k2)) (hU : P.underlying U = some (.int k1)) (hf : fits k2 z)
    (k : Le (St w0 ds n ((d, .int k2 z) :: e) Γ) (wpRT P r l.toArray K t)) : Le (St w0 ds n e Γ) (wpRT P r l.toArray K (.q i t)) :=
  q_conv (du := .bool) ho hg hn hx hT hU (by rw [wrap_fits hf]; exact k)
/-! ### Texts -/
/-! ### Equality -/
theorem q_eqb {x y : Operand} {tx tz : TypeId} {p q : Bool} (ho : nthO l i = some ⟨some d, .binOp .eql tx x y tz, ty, pos, af, g⟩) (hg : gd l e g = some true) (hn : Nat.blt d n = true) (hx : ev e x = some (.bool p)) (hy : ev e y = some (.bool q)) (hu : P.underlying tx = some .bool)
    (k : Le (St w0 ds n ((d, .bool (p == q)) :: e) Γ) (wpRT P r l.toArray K t)) : Le (St w0 ds n e Γ) (wpRT P r l.toArray K (.q i t)) :=
  q_pure ho hg rfl hn rfl (fun _ h => by cases h) (fun a w s w' => by
    have h1 : (Op.equal tx (.bool p) (.bool q)).run P w' = .ok (p == q) w' := run_equalIn_bool' w' 9999 tx p q hu
    simp [execOp, s.ev hx, s.ev hy, eqGuard_at_bool, binOp, h1]) k
theorem q_neb {x y : Operand} {tx tz : TypeId} {p q : Bool} (ho : nthO l i = some ⟨some d, .binOp .neq tx x y tz, ty, pos, af, g⟩) (hg : gd l e g = some true) (hn : Nat.blt d n = true) (hx : ev e x = some (.bool p)) (hy : ev e y = some (.bool q)) (hu : P.underlying tx = some .bool)
    (k : Le (St w0 ds n ((d, .bool (p != q)) :: e) Γ) (wpRT P r l.toArray K t)) : Le (St w0 ds n e Γ) (wpRT P r l.toArray K (.q i t)) :=
  q_pure ho hg rfl hn rfl (fun _ h => by cases h) (fun a w s w' => by
    have h1 : (Op.equal tx (.bool p) (.bool q)).run P w' = .ok (p == q) w' := run_equalIn_bool' w' 9999 tx p q hu
    have h2 : (!(p == q)) = (p != q) := rfl
    simp [execOp, s.ev hx, s.ev hy, eqGuard_at_bool, binOp, h1, h2]) k
theorem q_eq_nils {x : Operand} {tx tz E : TypeId} {ao : Option Addr} {len cap : Nat} (ho : nthO l i = some ⟨some d, .binOp .eql tx x (.const (.slice none 0 0)) tz, ty, pos, af, g⟩) (hg : gd l e g = some true) (hn : Nat.blt d n = true) (hx : ev e x = some (.slice ao len cap)) (hu : P.underlying tx = some (.slice E))
    (k : Le (St w0 ds n ((d, .bool ao.isNone) :: e) Γ) (wpRT P r l.toArray K t)) : Le (St w0 ds n e Γ) (wpRT P r l.toArray K (.q i t)) :=
  q_pure ho hg rfl hn rfl (fun _ h => by cases h) (fun a w s w' => by
    have h1 := run_equal_slice_nil (P := P) w' tx E ao len cap hu
    simp [execOp, s.ev hx, eval_const, eqGuard_at_slice, binOp, h1]) k
/-- Two values of the type are told equal or not. -/
def EqC (P : Program) (d : Nat) (T : TypeId) (x y : Value) (b : Bool) : Prop := ∀ w, (Op.equalIn (d + 1) T x y).run P w = .ok b w
def EqF (P : Program) (d : Nat) (xs ys : List Value) (fs : List Field) (b : Bool) : Prop := ∀ w, (Op.eqFields (d + 1) xs.toArray ys.toArray fs).run P w = .ok b w
theorem q_eqS {x y : Operand} {tx tz : TypeId} {xs ys : List Value} {b : Bool} (ho : nthO l i = some ⟨some d, .binOp .eql tx x y tz, ty, pos, af, g⟩) (hg : gd l e g = some true) (hn : Nat.blt d n = true) (hx : ev e x = some (.agg xs.toArray)) (hy : ev e y = some (.agg ys.toArray)) (hm : P.eqGuardType P.depth tx = false) (h : EqC P 9999 tx (.agg xs.toArray) (.agg ys.toArray) b)
    (k : Le (St w0 ds n ((d, .bool b) :: e) Γ) (wpRT P r l.toArray K t)) : Le (St w0 ds n e Γ) (wpRT P r l.toArray K (.q i t)) :=
  q_pure ho hg rfl hn rfl (fun _ h => by cases h) (fun a w s w' => by
    have h1 := run_eqGuard_agg (P := P) w' .eql tx x y xs.toArray ys.toArray hm
    simp only [execOp, s.ev hx, s.ev hy, Sem.run_bind, h1, Result.andThen_ok, run_eql_struct, h w', Sem.run_pure]) k
/-! ### Put together -/
/-- The sizes of fields. -/
def SzL (P : Program) : List Field → List (Nat × Nat) → Prop
  | [], [] => True
  | f :: fs, p :: ps => f.offset = p.1 ∧ (∀ w, (sizeOf f.type).run P w = .ok p.2 w) ∧ SzL P fs ps
  | _, _ => False
theorem run_szl : ∀ (fs : List Field) (ps : List (Nat × Nat)) (w : World), SzL P fs ps → (fs.mapM fun f => Prod.mk f.offset <$> sizeOf f.type).run P w = .ok ps w
  | [], [], w, h => by simp
  | [], p :: ps, w, h => h.elim
  | f :: fs, [], w, h => h.elim
  | f :: fs, p :: ps, w, ⟨h1, h2, h3⟩ => by
    simp [List.mapM_cons, h2, run_szl fs ps w h3, h1]
/-- Parts laid into a list of cells. -/
def fillV (place : Nat → Option (Nat × Nat)) : List Value → List (Nat × Value) → Option (List Value)
  | cs, [] => some cs
  | cs, (i, v) :: rest => match place i with
    | none => none
    | some (off, size) => cond (Nat.beq v.cells.toList.length size && Nat.ble (off + size) cs.length) (fillV place (setL cs off v.cells.toList) rest) none
theorem foldl_setL : ∀ (us : List Value) (cs : Array Value) (off k : Nat), ((us.zipIdx k).foldl (fun cs (c, j) => cs.setIfInBounds (off + j) c) cs).toList = setL cs.toList (off + k) us
  | [], cs, off, k => rfl
  | u :: us, cs, off, k => by
    rw [List.zipIdx_cons, List.foldl_cons, foldl_setL us, Array.toList_setIfInBounds, setL, Nat.add_assoc]
theorem fill_of_fillV {place : Nat → Option (Nat × Nat)} : ∀ (parts : List (Nat × Value)) (cs : Array Value) (vs : List Value), fillV place cs.toList parts = some vs → Instr.fill place cs parts = some vs.toArray
  | [], cs, vs, h => by simp only [fillV, Option.some.injEq] at h; subst h; rfl
  | (i, v) :: rest, cs, vs, h => by
    simp only [fillV] at h
    cases hp : place i with
    | none => simp [hp] at h
    | some p =>
      obtain ⟨off, size⟩ := p
      simp only [hp] at h
      cases h1 : Nat.beq v.cells.toList.length size with
      | false => simp only [h1, Bool.false_and, cond_false] at h; cases h
      | true =>
        cases h2 : Nat.ble (off + size) cs.toList.length with
        | false => simp only [h1, h2, Bool.and_false, cond_false] at h; cases h
        | true =>
          simp only [h1, h2, Bool.and_true, cond_true] at h
          have e1 : v.cells.size = size := by rw [← Array.length_toList]; exact Nat.eq_of_beq_eq_true h1
          have e2 : off + size ≤ cs.size := by rw [← Array.length_toList]; exact Nat.le_of_ble_eq_true h2
          have e3 : (v.cells.zipIdx.foldl (fun cs (c, j) => cs.setIfInBounds (off + j) c) cs).toList = setL cs.toList off v.cells.toList := by
            have := foldl_setL v.cells.toList cs off 0
            rw [Nat.add_zero] at this
            rw [← this, ← Array.foldl_toList, Array.toList_zipIdx]
          simp only [Instr.fill, hp]
          rw [if_neg (by simp; omega)]
          exact fill_of_fillV rest _ vs (by rw [e3]; exact h)
theorem run_buildS {T : TypeId} {fs : List Field} {ps : List (Nat × Nat)} {z : Value} {parts : List (Nat × Value)} {vs : List Value} (hu : P.underlying T = some (.struct fs.toArray)) (hz : ∀ w, (zeroValue T).run P w = .ok z w) (hs : SzL P fs ps)
    (hf : fillV (fun i => ps[i]?) z.cells.toList parts = some vs) (w : World) : (Instr.build T parts.toArray).run P w = .ok (.agg vs.toArray) w := by
  have hf := fill_of_fillV parts z.cells vs hf
  simp [Instr.build, run_underlying hu, hz, Array.mapM_eq_mapM_toList, run_szl _ _ w hs, hf]
theorem zeros_list (z : Array Value) : ∀ k : Nat, ((Array.range (k * z.size)).map fun x => z[x % z.size]!).toList = (List.replicate k z.toList).flatten := by
  intro k
  rw [Array.toList_map, Array.toList_range]
  induction k with
  | zero => simp
  | succ k ih =>
    rw [List.replicate_succ', List.flatten_concat, ← ih, Nat.succ_mul]
    rw [List.range_add, List.map_append]
    congr 1
    apply List.ext_getElem?
    intro j
    simp only [List.map_map, List.getElem?_map, List.getElem?_range]
    by_cases hj : j < z.size
    · rw [List.getElem?_range hj]
      have : (k * z.size + j) % z.size = j := by rw [Nat.mul_comm, Nat.mul_add_mod]; exact Nat.mod_eq_of_lt hj
      simp [this, hj]
    · rw [List.getElem?_eq_none (by simpa using hj)]
      simp [Nat.le_of_not_lt hj]
theorem run_buildSl {T E : TypeId} {m sz : Nat} {z : Value} {parts : List (Nat × Value)} {vs : List Value} (hu : P.underlying T = some (.slice E)) (hs : ∀ w, (sizeOf E).run P w = .ok sz w) (hz : ∀ w, (zeroValue E).run P w = .ok z w) (h1 : Nat.blt 0 (m * sz) = true) (h2 : Nat.ble (m * sz) 16777216 = true) (h3 : z.cells.size = sz)
    (hf : fillV (fun i => some (i * sz, sz)) (List.replicate m z.cells.toList).flatten parts = some vs) (w : World) :
    (Instr.buildSlice T m parts.toArray).run P w = .ok (.slice (some ⟨w.heap.size, 0, none⟩) m m) (w.alloc (.cells vs.toArray E)) := by
  have h1' : ¬ m * sz = 0 := by
    have : 1 ≤ m * sz := Nat.le_of_ble_eq_true h1
    omega
  have h2' : ¬ 16777216 < m * sz := by
    have := Nat.le_of_ble_eq_true h2
    omega
  have hf : Instr.fill (fun i => some (i * sz, sz)) ((Array.range (m * sz)).map (z.cells[· % z.cells.size]!)) parts = some vs.toArray := by
    refine fill_of_fillV _ _ _ ?_
    rw [← hf, ← h3, zeros_list]
  simp only [Instr.buildSlice, Sem.run_bind, run_underlying hu, hs, Result.andThen_ok, if_neg h1']
  rw [if_neg (by omega)]
  simp only [Sem.run_bind, Sem.run_pure, hz, Result.andThen_ok]
  simp [hf, newRow]
/-- A slice of no elements. -/
theorem l_buildSlice0 {T E : TypeId} {sz : Nat} (ho : nthO l i = some ⟨some d, .buildSlice T 0 #[], ty, pos, af, g⟩) (hg : gd l e g = some true) (hn : Nat.blt d n = true) (hu0 : (0 : Nat) = 0) (hu : P.underlying T = some (.slice E)) (hs : ∀ w, (sizeOf E).run P w = .ok sz w)
    (k : ∀ b, Le (St w0 ds n ((d, .slice (some ⟨b, 0, none⟩) 0 0) :: e) (cells b 0 [] :: Γ)) (AG P r l.toArray fl (wpRT P r l.toArray K t))) : Le (St w0 ds n e Γ) (wpRT P r l.toArray K (.l i fl t)) :=
  l_buildSlice (E := E) (ps := []) (us := []) (vs := []) ho hg hn rfl (fun w => by
    have h0 : ∀ f : Nat → Value, (Array.range 0).map f = #[] := fun f => by apply Array.ext'; simp
    simp [Instr.buildSlice, run_underlying hu, hs, Instr.fill, newRow, h0]) k
theorem own_fc {α : Type} {sz : Nat} {enc : α → List Value} {ao : Option Addr} {cap : Nat} {xs : List α} {X : Act → World → Prop} (k : xs.length ≤ cap → (ao = none → xs = [] ∧ cap = 0) → (ao ≠ none → ∃ b off, ao = some ⟨b, off, none⟩) → Le (St w0 ds n e (own sz enc ao cap xs :: Γ)) X) : Le (St w0 ds n e (own sz enc ao cap xs :: Γ)) X := fun a w s => by
  obtain ⟨h1, h2, h3⟩ := own_le s.heap
  exact k h1 h2 h3 a w s
/-! ### Results that lie in cells -/
def ResV (P : Program) (n : Nat) (e : Env) (Γ : List HProp) (v : ResultVar) (u : Value) : Prop := ∀ a w w0, St w0 [] n e Γ a w → (match v with
  | .tmp t => (pure (a.tmps.getD t undef) : Sem Value)
  | .cell p t => do loadVar t (← asAddr (a.tmps.getD p undef))).run P w = .ok u w
def ResL (P : Program) (n : Nat) (e : Env) (Γ : List HProp) : List ResultVar → List Value → Prop
  | [], [] => True
  | v :: vs, u :: us => ResV P n e Γ v u ∧ ResL P n e Γ vs us
  | _, _ => False
theorem rv_tmp {k : Nat} {u : Value} (h : look e k = some u) : ResV P n e Γ (.tmp k) u := fun a w w0 s => by simp only [Sem.run_pure, s.env k u h]
theorem rv_cell1 {k : Nat} {T : TypeId} {b o off j : Nat} {u : Value} {vs : List Value} {Γ' : List HProp} (h : look e k = some (.pointer (some ⟨b, o, none⟩))) (hA : ∀ w, (isAgg T).run P w = .ok false w) (tk : Take Γ (cells b off vs) Γ') (hj : o = off + j) (hv : vs[j]? = some u) : ResV P n e Γ (.cell k T) u := fun a w w0 s => by
  subst hj
  have h1 := (rd_c (b := b) (off := off) j hv).world (tk _ s.heap)
  simp [s.env k _ h, asAddr, loadVar, hA, h1]
theorem run_resL {a : Act} {w : World} (s : St w0 [] n e Γ a w) : ∀ (rs : List ResultVar) (us : List Value), ResL P n e Γ rs us → (rs.mapM (fun v : ResultVar => match v with
  | .tmp t => (pure (a.tmps.getD t undef) : Sem Value)
  | .cell p t => do loadVar t (← asAddr (a.tmps.getD p undef)))).run P w = .ok us w
  | [], [], h => by simp
  | [], _ :: _, h => h.elim
  | _ :: _, [], h => h.elim
  | v :: vs, u :: us, ⟨h1, h2⟩ => by
    have h3 := h1 a w w0 s
    have h4 := run_resL s vs us h2
    simp only [List.mapM_cons, Sem.run_bind, h3, h4, Result.andThen_ok, Sem.run_pure]
def tup : List Value → Value
  | [u] => u
  | us => .tuple us.toArray
theorem retL {α : Type} {Γ0 : List HProp} {v : α → Value} {φ : α → Prop} {Δ' : α → List HProp} {fn : Func} {rs : List ResultVar} {us : List Value} (hf : fn.results = rs.toArray) (hl : ResL P n e Γ rs us) (x : α) (hu : tup us = v x) (hx : φ x) (hΓ : Takes Γ (Δ' x) Γ0) :
    Le (St w0 [] n e Γ) (bodyPost P fn (postR w0 Γ0 v φ Δ') .ret) := ret_gen (fun a w s => by
      have h1 := run_resL s rs us hl
      have h2 : (results fn a.tmps).run P w = .ok (tup us) w := by
        have h3 : (fn.results.mapM (fun v : ResultVar => match v with
            | .tmp t => (pure (a.tmps.getD t undef) : Sem Value)
            | .cell p t => do loadVar t (← asAddr (a.tmps.getD p undef)))).run P w = .ok us.toArray w := by
          rw [hf, Array.mapM_eq_mapM_toList]
          simp only [map_eq_pure_bind, Sem.run_bind, h1, Result.andThen_ok, Sem.run_pure]
        unfold results
        rw [Sem.run_bind]
        refine Eq.trans (congrArg (fun x => Result.andThen x _) h3) ?_
        simp only [Result.andThen_ok, Sem.run_pure]
        match us with
        | [] => rfl
        | [u] => rfl
        | u :: v :: us => simp [tup]
      exact h2) x hu hx hΓ
/-! ### clear, on an owned slice (or its end) -/
theorem l_clear {α : Type} {T E : TypeId} {x : Operand} {bo ao : Option Addr} {m c len cap h sz : Nat} {enc : α → List Value} {xs : List α} {z : Value} {Γ' : List HProp} (x0 : α) (ho : nthO l i = some ⟨none, .call ⟨.builtin .clear, #[x], #[T]⟩, ty, pos, af, g⟩) (hg : gd l e g = some true)
    (hx : ev e x = some (.slice bo m c)) (hbo : bo = cutA ao cap h sz) (hm : m = len - h) (hu : P.underlying T = some (.slice E)) (hz : ∀ w, (zeroValue E).run P w = .ok z w) (henc : enc x0 = z.cells.toList) (hsz : ∀ x, (enc x).length = sz) (h1 : (enc x0).all Value.oneCell' = true)
    (tk : Take Γ (own sz enc ao cap xs) Γ') (hlen : xs.length = len) (hle : h ≤ len)
    (k : Le (St w0 ds n e (own sz enc ao cap (xs.take h ++ List.replicate (len - h) x0) :: Γ')) (AG P r l.toArray fl (wpRT P r l.toArray K t))) : Le (St w0 ds n e Γ) (wpRT P r l.toArray K (.l i fl t)) :=
  l_gen ho hg (fun _ h => by cases h) (fun a w s => by
    subst hlen
    have s1 := tk _ s.heap
    obtain ⟨hc, hn, hs⟩ := own_le s1
    have hzs : z.cells.size = sz := by rw [← Array.length_toList, ← henc, hsz]
    by_cases hm0 : m = 0
    · have hh : h = xs.length := by omega
      have hr : (execOp a.eval ⟨none, .call ⟨.builtin .clear, #[x], #[T]⟩, ty, pos, af, g⟩).run P w = .ok (.value (.tuple #[])) w := by
        subst hm0
        cases bo <;> simp [execOp, resolve, invoke, builtin, s.ev hx, Builtin.clear_, run_underlying hu]
      rw [hr]
      refine k _ _ (s.world ?_ (Amb.refl w))
      rw [hh, List.take_length, Nat.sub_self, List.replicate_zero, List.append_nil]
      exact s1
    · have hlt : h < xs.length := by omega
      have hlc : h < cap := by omega
      cases ao with
      | none => obtain ⟨h3, -⟩ := hn rfl; subst h3; simp at hlt
      | some p =>
        obtain ⟨b, off, hp⟩ := hs (by simp)
        cases hp
        rw [cutA_lt hlc] at hbo
        subst hbo
        obtain ⟨sp, hsp, s2⟩ := own_cells s1
        have hzl : (Builtin.zeroCells z.cells m).toList = (List.replicate m x0).flatMap enc := by
          have h3 : ∀ q : Nat, (Builtin.zeroCells z.cells q).toList = (List.replicate q x0).flatMap enc := by
            intro q
            rw [List.flatMap_def, List.map_replicate, henc]
            unfold Builtin.zeroCells
            rw [Array.toList_map, Array.toList_range]
            induction q with
            | zero => simp
            | succ q ih =>
              rw [List.replicate_succ', List.flatten_concat, ← ih, Nat.succ_mul, List.range_add, List.map_append]
              congr 1
              apply List.ext_getElem?
              intro j
              simp only [List.map_map, List.getElem?_map, List.getElem?_range]
              by_cases hj : j < z.cells.size
              · rw [List.getElem?_range hj]
                have : (q * z.cells.size + j) % z.cells.size = j := by rw [Nat.mul_comm, Nat.mul_add_mod]; exact Nat.mod_eq_of_lt hj
                simp [this, hj]
              · rw [List.getElem?_eq_none (by simpa using hj)]
                simp [Nat.le_of_not_lt hj]
          exact h3 m
        have hzlen : ((List.replicate m x0).flatMap enc).length = m * sz := by rw [flat_len hsz, List.length_replicate]
        have hall : ((List.replicate m x0).flatMap enc).all Value.oneCell' = true := by
          rw [List.all_flatMap, List.all_replicate]; simp [h1]
        have hmle : h * sz + m * sz ≤ xs.length * sz := by rw [← Nat.add_mul]; exact Nat.mul_le_mul_right _ (by omega)
        obtain ⟨w', e1, e2, e3⟩ := run_storeSat (P := P) ((List.replicate m x0).flatMap enc) (h * sz) 0 _ _ w s2 (by rw [hzlen, List.length_append, flat_len hsz]; omega) hall
        have hr : (execOp a.eval ⟨none, .call ⟨.builtin .clear, #[x], #[T]⟩, ty, pos, af, g⟩).run P w = .ok (.value (.tuple #[])) w' := by
          obtain ⟨m, rfl⟩ := Nat.exists_eq_succ_of_ne_zero hm0
          simp [execOp, resolve, invoke, builtin, s.ev hx, Builtin.clear_, run_underlying hu, hz]
          rw [hzl]
          simp [e1]
        rw [hr]
        refine k _ _ (s.world ?_ e3)
        have e4 := setL_eq ((List.replicate m x0).flatMap enc) ((xs.take h).flatMap enc) ((xs.drop h).flatMap enc) sp (by rw [hzlen, flat_len hsz, List.length_drop, hm])
        rw [← List.flatMap_append, List.take_append_drop, flat_len hsz, List.length_take, Nat.min_eq_left hle] at e4
        rw [Nat.add_zero, e4] at e2
        subst hm
        refine own_mk (sp := sp) (by simp; omega) ?_ (by rw [List.flatMap_append]; exact e2)
        rw [hsp]
        congr 2
        simp; omega)
end
end Go.Ab
set_option linter.unusedVariables false
set_option linter.unusedSimpArgs false
namespace Go.Ab
open Go
/-- A call of the function value: of the program's function, or of a loop's yield. -/
def Invk (P : Program) (fv : Value) (args : List Value) (w : World) (R : Value → World → Prop) : Prop :=
  (∃ (f : FuncId) (fi ca : List Value), fv = .func (.func f) fi.toArray ca.toArray ∧ (∀ args w, (callFunc f args).run P w = .ok (.enter f args) w) ∧ Calls P f (fi ++ args ++ ca).toArray w fun e w' => ∃ v, e = .returned v ∧ R v w') ∨
  (∃ l : Nat, fv = .func (.yield l) #[] #[] ∧ ∃ (fn : FuncId) (tmps : Array Value) (assign body : Code), (Instr.yield l args.toArray).run P w = .ok (.round l fn tmps assign body) w ∧ RoundIn (fz none) 0 P l fn tmps assign body w fun e w' => ∃ v, e = .returned v ∧ R v w')
/-- The contract of a function value. -/
def CallF (P : Program) (fv : Value) (args : List Value) (Δ : List HProp) {α : Type} (v : α → Value) (φ : α → Prop) (Δ' : α → List HProp) : Prop :=
  ∀ (Γ : List HProp) (w : World), Sat (Δ ++ Γ) (lh w) → Invk P fv args w fun u w' => ∃ x, u = v x ∧ φ x ∧ Sat (Δ' x ++ Γ) (lh w') ∧ Amb w w'
section
variable {P : Program} {r : Option Nat} {w0 : World} {ds : List Deferred} {n : Nat} {e : Env} {Γ : List HProp} {K : Act → World → Prop} {l : List Oper} {i : Nat} {t : RT} {fl : List Nat}
variable {d : Nat} {ty : TypeId} {pos : String} {af : Array Edge} {g : Option (Nat × Bool)}
theorem opUp_invk {o : Oper} {a : Act} {w : World} {fo : Operand} {xs : List Operand} {ts : Array TypeId} {fv : Value} {vs : List Value} {R : Value → World → Prop} (ho : o.op = .call ⟨.value fo, xs.toArray, ts⟩)
    (hf : a.eval fo = fv) (hxs : xs.map a.eval = vs) (h : Invk P fv vs w R) (k : ∀ v w', R v w' → K (a.put o.dst v) w') : opUp P r o a K ((execOp a.eval o).run P w) := by
  have hargs : Array.map a.eval xs.toArray = vs.toArray := by rw [List.map_toArray, hxs]
  obtain ⟨od, oop, oty, opos, oaf, og⟩ := o
  simp only at ho
  subst ho
  rcases h with ⟨f, fi, ca, rfl, hc, h⟩ | ⟨lp, rfl, fn, tmps, as, bo, hy, h⟩
  · have hr : (execOp a.eval ⟨od, .call ⟨.value fo, xs.toArray, ts⟩, oty, opos, oaf, og⟩).run P w = .ok (.enter f (fi ++ vs ++ ca).toArray) w := by
      simp only [execOp, resolve, hargs, hf, Deferred.ofValue, invoke, Sem.run_bind, Sem.run_pure, Result.andThen_ok, hc]
      simp
    rw [hr]
    exact h.mono fun e' w' ⟨v, e1, hR⟩ => ⟨v, e1, k v w' hR⟩
  · have hr : (execOp a.eval ⟨od, .call ⟨.value fo, xs.toArray, ts⟩, oty, opos, oaf, og⟩).run P w = .ok (.round lp fn tmps as bo) w := by
      simp [execOp, resolve, hargs, hf, Deferred.ofValue, invoke, hy]
    rw [hr]
    exact h.mono fun e' w' ⟨v, e1, hR⟩ => ⟨v, e1, k v w' hR⟩
theorem l_callF {fo : Operand} {xs : List Operand} {ts : Array TypeId} {fv : Value} {vs : List Value} {Δ Γ' : List HProp} {α : Type} {v : α → Value} {φ : α → Prop} {Δ' : α → List HProp}
    (ho : nthO l i = some ⟨some d, .call ⟨.value fo, xs.toArray, ts⟩, ty, pos, af, g⟩) (hg : gd l e g = some true) (hn : Nat.blt d n = true) (hf : ev e fo = some fv) (hxs : evs e xs = some vs)
    (hs : CallF P fv vs Δ v φ Δ') (tk : Takes Γ Δ Γ')
    (k : ∀ x, φ x → Le (St w0 ds n ((d, v x) :: e) (Δ' x ++ Γ')) (AG P r l.toArray fl (wpRT P r l.toArray K t))) : Le (St w0 ds n e Γ) (wpRT P r l.toArray K (.l i fl t)) :=
  l_gen ho hg (fun _ h => by cases h) (fun a w s => opUp_invk rfl (s.ev hf) (s.evs hxs) (hs Γ' w (tk _ s.heap)) fun u w' ⟨x, e1, hx, s', am⟩ => by
    subst e1; exact k x hx _ _ ((s.world s' am).put hn))
end
/-! ### The record of a loop over a function -/
abbrev yv (lp : Nat) : Value := .func (.yield lp) #[] #[]
def LoopR (l n : Nat) (e : Env) (ps : Array Tmp) (as bo : Code) (st : LoopState) (pend : Option Code) : HProp := fun h => ∃ (fn : FuncId) (tmps : Array Value) (blk : Nat), tmps.size = n ∧ (∀ t v, look e t = some v → tmps.getD t undef = v) ∧
  objP l (.loop { state := st, pending := pend, fn := fn, tmps := tmps, params := ps, assign := as, body := bo, defers := blk }) h
def stOf (pend : Option Code) : LoopState := if pend.isNone then .ready else .done
/-- ... told by the jump that is pending. -/
def LoopJ (l n : Nat) (e : Env) (ps : Array Tmp) (as bo : Code) (pend : Option Code) : HProp := LoopR l n e ps as bo (stOf pend) pend
def zipE (e : Env) : List Nat → List Value → Env
  | p :: ps, v :: vs => (p, v) :: zipE e ps vs
  | _, _ => e
theorem loop_no {r : Loop} : ∀ c t f, Obj.loop r ≠ .cells c t f := fun _ _ _ h => by cases h
theorem def_no {x : Option (List Deferred)} : ∀ c t f, Obj.deferred x ≠ .cells c t f := fun _ _ _ h => by cases h
theorem putObj_amb (w : World) (r : Nat) (o : Obj) : Amb w (w.putObj r o) := ⟨rfl, rfl, rfl, by simp⟩
theorem sat_putObj {Γ : List HProp} {w : World} {b : Nat} {o : Obj} (s : Sat (objP b o :: Γ) (lh w)) (o' : Obj) (ho : ∀ c t f, o' ≠ .cells c t f) : Sat (objP b o' :: Γ) (lh (w.putObj b o')) := s.setObj o' ho
/-- What a round owes. -/
def rndR (w0 : World) (Γ : List HProp) {α : Type} (v : α → Value) (φ : α → Prop) (Δ' : α → List HProp) : Ending → World → Prop :=
  fun e w' => ∃ u, e = .returned u ∧ ∃ x, u = v x ∧ φ x ∧ Sat (Δ' x ++ Γ) (lh w') ∧ Amb w0 w'
section
variable {P : Program} {w0 : World} {n : Nat} {e e0 : Env} {Γ Γ0 : List HProp} {lp : Nat} {ps : Array Tmp} {as bo : Code}
variable {α : Type} {v : α → Value} {φ : α → Prop} {Δ' : α → List HProp}
theorem k_begin {R : Ending → World → Prop} {Γ' : List HProp} (tk : Take Γ (LoopR lp n e0 ps as bo .ready none) Γ') (k : Le (St w0 [] n e (LoopR lp n e0 ps as bo .busy none :: Γ')) (bo.wpIn (fz (some lp)) 0 P (roundPost P lp R))) :
    Le (St w0 [] n e Γ) (fun a₁ w₁ => ∃ w₂, (Instr.beginRound lp).run P w₁ = .ok () w₂ ∧ bo.wpIn (fz (some lp)) 0 P (roundPost P lp R) a₁ w₂) := fun a w s => by
  obtain ⟨fn, s1⟩ := (tk _ s.heap).ex
  obtain ⟨tmps, s1⟩ := s1.ex
  obtain ⟨blk, s1⟩ := s1.ex
  obtain ⟨h1, s1⟩ := s1.pure_and
  obtain ⟨h2, s1⟩ := s1.pure_and
  have hb := run_beginRound (P := P) s1.obj.1 rfl
  refine ⟨_, hb, k _ _ (s.world ?_ (putObj_amb _ _ _))⟩
  have s2 := sat_putObj s1 (.loop { state := .busy, pending := none, fn := fn, tmps := tmps, params := ps, assign := as, body := bo, defers := blk }) loop_no
  exact Sat.head_mono (fun h hh => ⟨fn, tmps, blk, h1, h2, hh⟩) s2
theorem end_round {jump : Option Code} {p : Option Code} {st : LoopState} {w w1 : World} (s : Sat (LoopR lp n e0 ps as bo st p :: Γ) (lh w)) : ∃ w', (Instr.endRound lp jump).run P w = .ok (.bool jump.isNone) w' ∧ Sat (LoopR lp n e0 ps as bo (stOf jump) jump :: Γ) (lh w') ∧ Amb w w' := by
  obtain ⟨fn, s1⟩ := s.ex
  obtain ⟨tmps, s1⟩ := s1.ex
  obtain ⟨blk, s1⟩ := s1.ex
  obtain ⟨h1, s1⟩ := s1.pure_and
  obtain ⟨h2, s1⟩ := s1.pure_and
  have s2 := sat_putObj s1 (.loop { state := stOf jump, pending := jump, fn := fn, tmps := tmps, params := ps, assign := as, body := bo, defers := blk }) loop_no
  exact ⟨_, run_endRound jump s1.obj.1, Sat.head_mono (fun h hh => ⟨fn, tmps, blk, h1, h2, hh⟩) s2, putObj_amb _ _ _⟩
theorem rr_n {st : LoopState} {p : Option Code} {Γ' : List HProp} (x : α) (hu : .bool true = v x) (hx : φ x) (tk : Take Γ (LoopR lp n e0 ps as bo st p) Γ') (hΓ : Takes (LoopJ lp n e0 ps as bo none :: Γ') (Δ' x) Γ0) :
    Le (St w0 [] n e Γ) (roundPost P lp (rndR w0 Γ0 v φ Δ') .normal) := fun a w s => by
  obtain ⟨w', e1, s2, am⟩ := end_round (P := P) (jump := none) (w1 := w) (tk _ s.heap)
  exact ⟨_, w', e1, _, rfl, x, hu, hx, hΓ _ s2, s.amb.trans am⟩
theorem rr_ret {st : LoopState} {p : Option Code} {Γ' : List HProp} (x : α) (hu : .bool false = v x) (hx : φ x) (tk : Take Γ (LoopR lp n e0 ps as bo st p) Γ') (hΓ : Takes (LoopJ lp n e0 ps as bo (some .ret) :: Γ') (Δ' x) Γ0) :
    Le (St w0 [] n e Γ) (roundPost P lp (rndR w0 Γ0 v φ Δ') .ret) := fun a w s => by
  obtain ⟨w', e1, s2, am⟩ := end_round (P := P) (jump := some .ret) (w1 := w) (tk _ s.heap)
  exact ⟨_, w', e1, _, rfl, x, hu, hx, hΓ _ s2, s.amb.trans am⟩
theorem rr_exit {st : LoopState} {p : Option Code} {Γ' : List HProp} {id : Nat} (x : α) (hu : .bool false = v x) (hx : φ x) (tk : Take Γ (LoopR lp n e0 ps as bo st p) Γ') (hΓ : Takes (LoopJ lp n e0 ps as bo (some (.exit id)) :: Γ') (Δ' x) Γ0) :
    Le (St w0 [] n e Γ) (roundPost P lp (rndR w0 Γ0 v φ Δ') (.exit id)) := fun a w s => by
  obtain ⟨w', e1, s2, am⟩ := end_round (P := P) (jump := some (.exit id)) (w1 := w) (tk _ s.heap)
  exact ⟨_, w', e1, _, rfl, x, hu, hx, hΓ _ s2, s.amb.trans am⟩
theorem zipE_look {n : Nat} {tmps : Array Value} (hs : tmps.size = n) (h : ∀ t v, look e t = some v → tmps.getD t undef = v) : ∀ (ps : List Nat) (vs : List Value), (∀ p ∈ ps, p < n) → ps.length = vs.length → ps.Nodup →
    ((ps.zip vs).foldl (fun tmps (t, a) => tmps.setIfInBounds t a) tmps).size = n ∧ ∀ t v, look (zipE e ps vs) t = some v → ((ps.zip vs).foldl (fun (tmps : Array Value) (t, a) => tmps.setIfInBounds t a) tmps).getD t undef = v := by
  intro ps
  induction ps generalizing tmps e with
  | nil =>
    intro vs hp hl hnd
    cases vs with
    | nil => exact ⟨hs, h⟩
    | cons v vs => simp at hl
  | cons p ps ih =>
    intro vs hp hl hnd
    cases vs with
    | nil => simp at hl
    | cons v vs =>
      have h1 : (tmps.setIfInBounds p v).size = n := by simpa using hs
      have h2 : ∀ t u, look ((p, v) :: e) t = some u → (tmps.setIfInBounds p v).getD t undef = u := by
        intro t u hu
        simp only [look] at hu
        have hpn : p < tmps.size := by rw [hs]; exact hp p (by simp)
        cases hb : Nat.beq p t with
        | true =>
          rw [hb] at hu
          have := Nat.eq_of_beq_eq_true hb
          subst this
          simp only [cond_true, Option.some.injEq] at hu
          subst hu
          simp [Array.getD, hpn]
        | false =>
          rw [hb] at hu
          have hne : p ≠ t := Nat.ne_of_beq_eq_false hb
          have := h t u hu
          rw [Array.getD_eq_getD_getElem?] at this ⊢
          rw [Array.getElem?_setIfInBounds_ne hne]
          exact this
      obtain ⟨i1, i2⟩ := ih (tmps := tmps.setIfInBounds p v) (e := (p, v) :: e) h1 h2 vs (fun q hq => hp q (List.mem_cons_of_mem _ hq)) (by simpa using hl) (List.nodup_cons.1 hnd).2
      refine ⟨i1, fun t u hu => i2 t u ?_⟩
      have key : ∀ (ps : List Nat) (vs : List Value), p ∉ ps → ∀ t u, look ((p, v) :: zipE e ps vs) t = some u → look (zipE ((p, v) :: e) ps vs) t = some u := by
        intro ps
        induction ps with
        | nil => intro vs _ t u hu; cases vs <;> exact hu
        | cons q ps ihq =>
          intro vs hq t u hu
          cases vs with
          | nil => exact hu
          | cons y vs =>
            simp only [zipE, look] at hu ⊢
            have hpq : p ≠ q := fun e => hq (by simp [e])
            cases hb : Nat.beq q t with
            | true =>
              have := Nat.eq_of_beq_eq_true hb
              subst this
              have hb2 : Nat.beq p q = false := by
                cases hh : Nat.beq p q with
                | false => rfl
                | true => exact absurd (Nat.eq_of_beq_eq_true hh) hpq
              simp only [hb2, hb, cond_false, cond_true] at hu ⊢
              exact hu
            | false =>
              simp only [hb, cond_false] at hu ⊢
              exact ihq vs (fun h => hq (List.mem_cons_of_mem _ h)) t u hu
      exact key ps vs (List.nodup_cons.1 hnd).1 t u hu
/-- A round, told by the walk of its body. -/
theorem callF_yield {args : List Value} {Δ : List HProp} (hps : ps.toList.length = args.length) (hnd : ps.toList.Nodup) (hlt : ∀ p ∈ ps.toList, p < n)
    (h : ∀ Γ w0, Le (St w0 [] n (zipE e0 ps.toList args) (LoopR lp n e0 ps as bo .ready none :: (Δ ++ Γ))) (as.wpIn (fz (some lp)) 0 P (Exit.then (fun a₁ w₁ => ∃ w₂, (Instr.beginRound lp).run P w₁ = .ok () w₂ ∧ bo.wpIn (fz (some lp)) 0 P (roundPost P lp (rndR w0 Γ v φ Δ')) a₁ w₂) (fun _ _ _ => False)))) :
    CallF P (yv lp) args (LoopJ lp n e0 ps as bo none :: Δ) v φ Δ' := fun Γ w s => by
  obtain ⟨fn, s1⟩ := Sat.ex s
  obtain ⟨tmps, s1⟩ := s1.ex
  obtain ⟨blk, s1⟩ := s1.ex
  obtain ⟨h1, s1⟩ := s1.pure_and
  obtain ⟨h2, s1⟩ := s1.pure_and
  have hy := run_yield (P := P) (args := args.toArray) s1.obj.1 (by show args.toArray.size = ps.size; rw [← Array.length_toList (xs := ps), hps]; simp)
  have hz := zipE_look (e := e0) h1 h2 ps.toList args hlt hps hnd
  have e1 : ((ps.zip args.toArray).foldl (fun tmps (t, a) => tmps.setIfInBounds t a) tmps) = ((ps.toList.zip args).foldl (fun tmps (t, a) => tmps.setIfInBounds t a) tmps) := by
    rw [← Array.foldl_toList, Array.toList_zip]
  refine .inr ⟨lp, rfl, _, _, _, _, hy, ?_⟩
  refine roundIn_of_wpIn (F := fz none) trivial ?_
  exact h Γ w _ w ⟨rfl, by rw [e1]; exact hz.1, fun t u hu => by rw [e1]; exact hz.2 t u hu, s, Amb.refl w⟩
end
theorem sat_move {Γ' : List HProp} {B : HProp} : ∀ {Δ : List HProp} {h : Hp}, Sat (B :: (Δ ++ Γ')) h → Sat (Δ ++ (B :: Γ')) h
  | [], h, s => s
  | D :: Δ, h, s => Sat.cons_mono (fun h s => sat_move s) s.swap
theorem sat_back {Γ' : List HProp} {B : HProp} : ∀ {Δ : List HProp} {h : Hp}, Sat (Δ ++ (B :: Γ')) h → Sat (B :: (Δ ++ Γ')) h
  | [], h, s => s
  | D :: Δ, h, s => (Sat.cons_mono (fun h s => sat_back s) s).swap
/-! ### The statement -/
section
variable {P : Program} {w0 : World} {ds : List Deferred} {n : Nat} {e : Env} {Γ : List HProp} {Q : Exit → Act → World → Prop}
abbrev mk (blk : Nat) : Deferred := { target := .collected blk, args := #[] }
theorem c_rangeF {g : Operand} {ps : Array Tmp} {as bo : Code} {f : FuncId} {fi ca : List Value} {Δ Γ' : List HProp} {α : Type} {v : α → Value} {φ : α → Prop} {Δ' : α → List HProp} (pend : α → Option Code)
    (hg : ev e g = some (.func (.func f) fi.toArray ca.toArray)) (hc : ∀ args w, (callFunc f args).run P w = .ok (.enter f args) w)
    (hs : ∀ lp, Spec P f (fi ++ [yv lp] ++ ca) (LoopJ lp n e ps as bo none :: Δ) v φ (fun x => LoopJ lp n e ps as bo (pend x) :: Δ' x))
    (tk : Takes Γ Δ Γ')
    (k : ∀ x, φ x → ∀ blk, (match pend x with
      | none => Le (St w0 (mk blk :: ds) n e (objP blk (.deferred (some [])) :: (Δ' x ++ Γ'))) (Q .normal)
      | some c => Le (St w0 (mk blk :: ds) n e (objP blk (.deferred (some [])) :: (Δ' x ++ Γ'))) (c.wpIn (fz none) 0 P Q))) :
    Le (St w0 ds n e Γ) ((Code.rangeFunc g ps as bo).wpIn (fz none) 0 P Q) := fun a w s => by
  refine wpIn_rangeFunc fun fn _ => ?_
  have he := run_enterLoop_outer (P := P) (w := w) fn a.tmps ps as bo
  have hev : ∀ (w' : World), (resolve a.eval (rangeCall g (w.heap.size + 1)) 0).run P w' = .ok { target := .fn (.func f) ca.toArray, args := (fi ++ [yv (w.heap.size + 1)]).toArray } w' := fun w' => by
    have hk : a.eval (.const (.func (.yield (w.heap.size + 1)) #[] #[])) = .func (.yield (w.heap.size + 1)) #[] #[] := rfl
    simp [resolve, s.ev hg, Deferred.ofValue, hk]
  have s1 := (tk _ s.heap).newObj (.deferred (some [])) def_no
  have s2 := s1.newObj (.loop { state := .ready, pending := none, fn := fn, tmps := a.tmps, params := ps, assign := as, body := bo, defers := w.heap.size }) loop_no
  rw [World.size_alloc] at s2
  have am0 : Amb w ((w.alloc (.deferred (some []))).alloc (.loop { state := .ready, pending := none, fn := fn, tmps := a.tmps, params := ps, assign := as, body := bo, defers := w.heap.size })) := ⟨rfl, rfl, rfl, by simp only [World.size_alloc]; omega⟩
  generalize (w.alloc (.deferred (some []))).alloc (.loop { state := .ready, pending := none, fn := fn, tmps := a.tmps, params := ps, assign := as, body := bo, defers := w.heap.size }) = W1 at he s2 am0
  refine ⟨w.heap.size + 1, [mk w.heap.size], W1, _, W1, f, (fi ++ [yv (w.heap.size + 1)] ++ ca).toArray, W1, he, hev _, fun _ _ => trivial, ?_, fun h => by simp [fz, Fence.wide] at h, ?_⟩
  · simp [invoke, hc]
  refine fz_calls (((hs (w.heap.size + 1)) (objP w.heap.size (.deferred (some [])) :: Γ') _ ?_).mono ?_)
  · refine Sat.head_mono (fun h hh => ⟨fn, a.tmps, w.heap.size, s.size, s.env, hh⟩) ?_
    exact Sat.cons_mono (fun h s => sat_move s) s2
  · rintro e' w' ⟨x, rfl, hx, s3, am⟩
    obtain ⟨fn', s4⟩ := Sat.ex s3
    obtain ⟨tmps', s4⟩ := s4.ex
    obtain ⟨blk', s4⟩ := s4.ex
    obtain ⟨h1, s4⟩ := s4.pure_and
    obtain ⟨h2, s4⟩ := s4.pure_and
    have hend := run_endLoop (P := P) s4.obj.1 (by unfold stOf; split <;> simp)
    have s5 := (sat_putObj s4 (.loop { state := .exhausted, pending := pend x, fn := fn', tmps := tmps', params := ps, assign := as, body := bo, defers := blk' }) loop_no).tail
    have am2 : Amb w (w'.putObj (w.heap.size + 1) (.loop { state := .exhausted, pending := pend x, fn := fn', tmps := tmps', params := ps, assign := as, body := bo, defers := blk' })) :=
      (am0.trans am).trans (putObj_amb _ _ _)
    refine ⟨pend x, _, hend, ?_⟩
    have s6 : Sat (objP w.heap.size (.deferred (some [])) :: (Δ' x ++ Γ')) (lh (w'.putObj (w.heap.size + 1) (.loop { state := .exhausted, pending := pend x, fn := fn', tmps := tmps', params := ps, assign := as, body := bo, defers := blk' }))) := by
      exact sat_back s5
    have hk := k x hx w.heap.size
    have st : St w0 (mk w.heap.size :: ds) n e (objP w.heap.size (.deferred (some [])) :: (Δ' x ++ Γ')) { a with defers := [mk w.heap.size] ++ a.defers } _ := ⟨by rw [s.defers]; rfl, s.size, s.env, s6, s.amb.trans am2⟩
    cases hp : pend x with
    | none => rw [hp] at hk; exact (by rw [hp] at st; exact hk _ _ st)
    | some c => rw [hp] at hk; exact (by rw [hp] at st; exact hk _ _ st)
/-! ### A function whose body holds such a loop -/
theorem spec_mkM {f : FuncId} {args : List Value} {Δ : List HProp} {α : Type} {v : α → Value} {φ : α → Prop} {Δ' : α → List HProp} {fn : Func} {c : Code} {n : Nat} (hf : P.funcs[f]? = some fn) (hb : fn.body = some c) (hn : fn.ntmps = n) (hle : Nat.ble args.length n = true)
    (h : ∀ Γ w0, Le (St w0 [] n (argE 0 args) (Δ ++ Γ)) (c.wpIn (fz none) 0 P (bodyPostM (fz none) 0 P fn (postR w0 Γ v φ Δ')))) : Spec P f args Δ v φ Δ' := by
  intro Γ w s
  have hle : args.length ≤ n := Nat.le_of_ble_eq_true hle
  refine (callsIn_wide (n := 0)).1 ?_
  have := callsIn_of_wp_marks (F := fz none) (n := 0) (R := postR w Γ v φ Δ') hf hb trivial (args := args.toArray) (w := w) (h Γ w _ _ ⟨rfl, by simp [hn]; omega, fun t u ht => ?_, s, Amb.refl w⟩)
  · exact this
  obtain ⟨-, h2⟩ := look_argE args 0 t u ht
  have hlt : t < args.length := by
    rcases Nat.lt_or_ge t args.length with h' | h'
    · exact h'
    · rw [Nat.sub_zero, List.getElem?_eq_none h'] at h2; cases h2
  rw [Nat.sub_zero] at h2
  simp only [Array.getD_eq_getD_getElem?]
  rw [Array.getElem?_append_left (by simpa using hlt)]
  simp [h2]
def LM (P : Program) (fn : Func) (R : Ending → World → Prop) (ds : List Deferred) : Act → World → Prop := fun a w => LeavesInM (fz none) 0 P fn a.tmps R ds .returning w
theorem rm_ret {fn : Func} {R : Ending → World → Prop} (h : Le (St w0 ds n e Γ) (LM P fn R ds)) : Le (St w0 ds n e Γ) (bodyPostM (fz none) 0 P fn R .ret) := fun a w s => by
  show LeavesInM _ _ _ _ _ _ _ _ _
  rw [s.defers]; exact h a w s
theorem rm_mark {fn : Func} {R : Ending → World → Prop} {ds0 : List Deferred} {blk : Nat} {Γ' : List HProp} (tk : Take Γ (objP blk (.deferred (some []))) Γ') (k : Le (St w0 ds0 n e (objP blk (.deferred none) :: Γ')) (LM P fn R ds)) : Le (St w0 ds0 n e Γ) (LM P fn R (mk blk :: ds)) := fun a w s => by
  have s1 := tk _ s.heap
  refine ⟨by simp, .inl ⟨blk, _, rfl, run_takeDeferred s1.obj.1, ?_⟩⟩
  exact k _ _ (s.world (sat_putObj s1 (.deferred none) def_no) (putObj_amb _ _ _))
theorem rm_done {α : Type} {Γ0 : List HProp} {v : α → Value} {φ : α → Prop} {Δ' : α → List HProp} {fn : Func} {rs : List ResultVar} {us : List Value} (hf : fn.results = rs.toArray) (hl : ResL P n e Γ rs us) (x : α) (hu : tup us = v x) (hx : φ x) (hΓ : Takes Γ (Δ' x) Γ0) :
    Le (St w0 ds n e Γ) (LM P fn (postR w0 Γ0 v φ Δ') []) := fun a w s => by
  have s0 : St w0 [] n e Γ { a with defers := [] } w := ⟨rfl, s.size, s.env, s.heap, s.amb⟩
  obtain ⟨-, u, h1, h2⟩ := retL (P := P) (w0 := w0) (Γ0 := Γ0) (v := v) (φ := φ) (Δ' := Δ') hf hl x hu hx hΓ _ _ s0
  exact ⟨u, h1, h2⟩
end
end Go.Ab
set_option linter.unusedVariables false
set_option linter.unusedSimpArgs false
namespace Go.Ab
open Go
theorem Sat.perm {Γ Γ' : List HProp} (p : Γ.Perm Γ') : ∀ {h : Hp}, Sat Γ h → Sat Γ' h := by
  induction p with
  | nil => exact fun s => s
  | cons A _ ih => exact fun s => Sat.cons_mono (fun h s => ih s) s
  | swap A B l => exact fun s => s.swap
  | trans _ _ ih1 ih2 => exact fun s => ih2 (ih1 s)
/-- One for each of the list. -/
def bigS {α : Type} (f : α → HProp) (L : List α) : HProp := fun h => Sat (L.map f) h
theorem erase_perm {α : Type} : ∀ (l : List α) (i : Nat) (p : α), l[i]? = some p → (p :: l.eraseIdx i).Perm l
  | [], i, p, h => by simp at h
  | a :: l, 0, p, h => by simp at h; subst h; exact List.Perm.refl _
  | a :: l, i + 1, p, h => by
    rw [List.eraseIdx_cons_succ]
    exact (List.Perm.swap a p _).trans ((erase_perm l i p (by simpa using h)).cons a)
theorem erase_set {α : Type} : ∀ (l : List α) (i : Nat) (y : α), (l.set i y).eraseIdx i = l.eraseIdx i
  | [], i, y => by simp
  | a :: l, 0, y => rfl
  | a :: l, i + 1, y => by
    rw [List.set_cons_succ, List.eraseIdx_cons_succ, List.eraseIdx_cons_succ, erase_set l i y]
section
variable {α : Type} {f : α → HProp} {L : List α} {Γ : List HProp} {h : Hp}
theorem big_take {i : Nat} {x : α} (hx : L[i]? = some x) (s : Sat (bigS f L :: Γ) h) : Sat (f x :: bigS f (L.eraseIdx i) :: Γ) h := by
  have s1 := Bun.unfold s
  have s2 : Sat ((x :: L.eraseIdx i).map f ++ Γ) h := Sat.perm (((erase_perm L i x hx).symm.map f).append_right Γ) s1
  exact Sat.cons_mono (fun h s => Bun.fold s) s2
theorem big_put {i : Nat} {y : α} (hi : i < L.length) (s : Sat (f y :: bigS f (L.eraseIdx i) :: Γ) h) : Sat (bigS f (L.set i y) :: Γ) h := by
  have s1 : Sat ((y :: L.eraseIdx i).map f ++ Γ) h := Sat.cons_mono (fun h s => Bun.unfold s) s
  have p := erase_perm (L.set i y) i y (by rw [List.getElem?_set_self hi])
  rw [erase_set] at p
  exact Bun.fold (Sat.perm ((p.map f).append_right Γ) s1)
theorem big_nil (s : Sat Γ h) : Sat (bigS f [] :: Γ) h := Bun.fold (Δ := Γ) (Γ := []) s
theorem big_push {x : α} (s : Sat (bigS f L :: f x :: Γ) h) : Sat (bigS f (L ++ [x]) :: Γ) h := by
  have s1 := Bun.unfold s
  refine Bun.fold ?_
  rw [List.map_append, List.append_assoc]
  exact s1
theorem rd_big {x : α} {b o : Nat} {v : Value} (hx : x ∈ L) (r : Rd (f x) b o v) : Rd (bigS f L) b o v := fun h s => by
  obtain ⟨i, hi⟩ := List.getElem?_of_mem hx
  have s1 : Sat (bigS f L :: []) h := ⟨h, Hle.refl _, s, trivial⟩
  obtain ⟨h1, l1, a1⟩ := (big_take hi s1).head
  obtain ⟨fr, hf⟩ := r h1 a1
  exact ⟨fr, l1 _ _ hf⟩
theorem rdn_big {x : α} {b o : Nat} {vs : List Value} (hx : x ∈ L) (r : RdN (f x) b o vs) : RdN (bigS f L) b o vs := fun i v hv => rd_big hx (r i v hv)
theorem rds_big {x : α} {ao : Option Addr} {vs : List Value} (hx : x ∈ L) (r : RdS (f x) ao vs) : RdS (bigS f L) ao vs := by
  rcases r with r | ⟨b, o, h1, h2⟩
  · exact .inl r
  · exact .inr ⟨b, o, h1, rdn_big hx h2⟩
variable {w0 : World} {ds : List Deferred} {n : Nat} {e : Env} {X : Act → World → Prop}
theorem s_big_take {i : Nat} {x : α} {Γ' : List HProp} (tk : Take Γ (bigS f L) Γ') (hx : L[i]? = some x) (k : Le (St w0 ds n e (f x :: bigS f (L.eraseIdx i) :: Γ')) X) : Le (St w0 ds n e Γ) X := s_heap (fun h s => big_take hx (tk h s)) k
theorem s_big_put {i : Nat} {y : α} {Γ' : List HProp} (tk : Takes Γ [f y, bigS f (L.eraseIdx i)] Γ') (hi : i < L.length) (k : Le (St w0 ds n e (bigS f (L.set i y) :: Γ')) X) : Le (St w0 ds n e Γ) X := s_heap (fun h s => big_put hi (tk h s)) k
theorem s_big_nil {f : α → HProp} (k : Le (St w0 ds n e (bigS f [] :: Γ)) X) : Le (St w0 ds n e Γ) X := s_heap (fun h s => big_nil s) k
theorem s_big_push {x : α} {Γ' : List HProp} (tk : Takes Γ [bigS f L, f x] Γ') (k : Le (St w0 ds n e (bigS f (L ++ [x]) :: Γ')) X) : Le (St w0 ds n e Γ) X := s_heap (fun h s => big_push (tk h s)) k
end
/-- A slice grown by append: in its own row, or in a new one; then the old one is there still. -/
def app2 {α : Type} (sz : Nat) (enc : α → List Value) (ao : Option Addr) (cap : Nat) (xs : List α) (ao' : Option Addr) (cap' : Nat) (zs : List α) : HProp := fun h =>
  (ao' = ao ∧ cap' = cap ∧ own sz enc ao' cap' zs h) ∨ Sat [own sz enc ao' cap' zs, own sz enc ao cap xs] h
section
variable {P : Program} {r : Option Nat} {w0 : World} {ds : List Deferred} {n : Nat} {e : Env} {Γ : List HProp} {K : Act → World → Prop} {l : List Oper} {i : Nat} {t : RT} {fl : List Nat}
variable {d : Nat} {ty : TypeId} {pos : String} {af : Array Edge} {g : Option (Nat × Bool)}
theorem l_appendA {α : Type} {T E : TypeId} {x y : Operand} {sz : Nat} {enc : α → List Value} {a0 ao bo : Option Addr} {m c len c0 cap : Nat} {xs zs ys : List α} {A : HProp} {ti : TypeInfo} {z : Value} {Γ1 Γ2 : List HProp} (ho : nthO l i = some ⟨some d, .call ⟨.builtin .append, #[x, y], #[T, T]⟩, ty, pos, af, g⟩) (hg : gd l e g = some true) (hn : Nat.blt d n = true)
    (hx : ev e x = some (.slice ao len cap)) (hy : ev e y = some (.slice bo m c)) (hu : P.underlying T = some (.slice E)) (hti : ∀ w, (typeInfo E).run P w = .ok ti w) (hz : ti.zero = some z) (hzs : z.cells.size = sz) (hsi : ti.size = sz) (hpos : 0 < sz)
    (tk : Take Γ (app2 sz enc a0 c0 xs ao cap zs) Γ1) (tk2 : Take Γ1 A Γ2) (hlen : zs.length = len) {us : List Value} (hr : RdS A bo us) (hus : ys.flatMap enc = us) (hm : ys.length = m) (hsz : ∀ x, (enc x).length = sz) (h1 : ∀ y, (enc y).all Value.oneCell' = true)
    (h63 : len + m ≤ 9223372036854775807) (hby : (len + m) * ti.bytes ≤ 140737488355328) (hpre : zs.take xs.length = xs)
    (k : ∀ ao' cap', Le (St w0 ds n ((d, .slice ao' (len + m) cap') :: e) (app2 sz enc a0 c0 xs ao' cap' (zs ++ ys) :: A :: Γ2)) (AG P r l.toArray fl (wpRT P r l.toArray K t))) : Le (St w0 ds n e Γ) (wpRT P r l.toArray K (.l i fl t)) :=
  l_gen ho hg (fun _ h => by cases h) (fun a w s => by
    subst hlen
    subst hus
    have s1 : Sat (app2 sz enc a0 c0 xs ao cap zs :: A :: Γ2) (lh w) := Sat.cons_mono tk2 (tk _ s.heap)
    have key : ∃ ao' cap' w', (Builtin.append_ #[T, T] ty #[.slice ao zs.length cap, .slice bo m c]).run P w = .ok (.slice ao' (zs.length + m) cap') w' ∧ Sat (app2 sz enc a0 c0 xs ao' cap' (zs ++ ys) :: A :: Γ2) (lh w') ∧ Amb w w' := by
      obtain ⟨h', l', h2, s2⟩ := s1
      rcases h2 with ⟨rfl, rfl, h2⟩ | h2
      · have s3 : Sat (own sz enc ao cap zs :: A :: Γ2) (lh w) := ⟨h', l', h2, s2⟩
        obtain ⟨ao', cap', w', e1, e2, e3⟩ := run_append2 (P := P) (ty := ty) (c := c) hu hti hz hzs hsi hsz hpos h1 s3 hr hm h63 hby
        refine ⟨ao', cap', w', e1, ?_, e3⟩
        rcases e2 with ⟨h4, h5, e2⟩ | e2
        · exact Sat.head_mono (fun h hh => .inl ⟨h4, h5, hh⟩) e2
        · refine Sat.head_mono (fun h hh => .inr hh) (Bun.fold (Δ := A :: Γ2) (Γ := [own sz enc ao' cap' (zs ++ ys), own sz enc ao cap xs]) ?_)
          refine Sat.cons_mono (fun h s => ?_) e2
          have := own_take hsz xs.length s
          rwa [hpre] at this
      · have s3 : Sat ([own sz enc ao cap zs, own sz enc a0 c0 xs] ++ (A :: Γ2)) (lh w) := Bun.unfold (Γ := [own sz enc ao cap zs, own sz enc a0 c0 xs]) ⟨h', l', h2, s2⟩
        have s4 : Sat (own sz enc ao cap zs :: A :: own sz enc a0 c0 xs :: Γ2) (lh w) := Sat.cons_mono (fun h s => s.swap) s3
        obtain ⟨ao', cap', w', e1, e2, e3⟩ := run_append (P := P) (ty := ty) (c := c) hu hti hz hzs hsi hsz hpos h1 s4 hr hm h63 hby
        refine ⟨ao', cap', w', e1, ?_, e3⟩
        exact Sat.head_mono (fun h hh => .inr hh) (Bun.fold (Δ := A :: Γ2) (Γ := [own sz enc ao' cap' (zs ++ ys), own sz enc a0 c0 xs]) (Sat.cons_mono (fun h s => s.swap) e2))
    obtain ⟨ao', cap', w', e1, e2, e3⟩ := key
    have hr' : (execOp a.eval ⟨some d, .call ⟨.builtin .append, #[x, y], #[T, T]⟩, ty, pos, af, g⟩).run P w = .ok (.value (.slice ao' (zs.length + m) cap')) w' := by
      simp [execOp, resolve, invoke, builtin, s.ev hx, s.ev hy, e1]
    rw [hr']
    exact k ao' cap' _ _ ((s.world e2 e3).put hn))
theorem app2_start {α : Type} {sz : Nat} {enc : α → List Value} {ao : Option Addr} {cap : Nat} {xs : List α} {h : Hp} (s : Sat (own sz enc ao cap xs :: Γ) h) : Sat (app2 sz enc ao cap xs ao cap xs :: Γ) h := Sat.head_mono (fun h hh => .inl ⟨rfl, rfl, hh⟩) s
theorem rds_own_flat {α : Type} {sz : Nat} {enc : α → List Value} {ao : Option Addr} {cap : Nat} {xs : List α} {h : Hp} (o : own sz enc ao cap xs h) : (ao = none → xs = []) ∧ (ao ≠ none → ∃ b off, ao = some ⟨b, off, none⟩) := by
  have s : Sat (own sz enc ao cap xs :: []) h := ⟨h, Hle.refl _, o, trivial⟩
  obtain ⟨h1, h2, h3⟩ := own_le s
  exact ⟨fun e => (h2 e).1, h3⟩
theorem app2_facts {α : Type} {sz : Nat} {enc : α → List Value} {a0 ao : Option Addr} {c0 cap : Nat} {xs zs : List α} {h : Hp} (hpre : zs.take xs.length = xs) (s : Sat (app2 sz enc a0 c0 xs ao cap zs :: Γ) h) :
    ((ao = none → zs = []) ∧ (ao ≠ none → ∃ b off, ao = some ⟨b, off, none⟩)) ∧ ((a0 = none → xs = []) ∧ (a0 ≠ none → ∃ b off, a0 = some ⟨b, off, none⟩)) := by
  obtain ⟨h1, l1, h2, s1⟩ := s
  rcases h2 with ⟨rfl, rfl, h2⟩ | h2
  · have h3 := rds_own_flat h2
    refine ⟨h3, fun e => ?_, h3.2⟩
    rw [h3.1 e] at hpre
    rw [← hpre]; simp
  · obtain ⟨k1, m1, o1, s2⟩ := h2
    obtain ⟨k2, m2, o2, -⟩ := s2
    exact ⟨rds_own_flat o1, rds_own_flat o2⟩
theorem rds_app2_l {α : Type} {sz : Nat} {enc : α → List Value} {a0 ao : Option Addr} {c0 cap : Nat} {xs zs : List α} (hsz : ∀ x, (enc x).length = sz) (ha : ao = none → zs = []) (hb : ao ≠ none → ∃ b off, ao = some ⟨b, off, none⟩) : RdS (app2 sz enc a0 c0 xs ao cap zs) ao (zs.flatMap enc) := by
  rcases rds_own (cap := cap) hsz ha hb with h | ⟨b, o, h, hr⟩
  · exact .inl h
  · refine .inr ⟨b, o, h, fun i v hv hp hh => ?_⟩
    rcases hh with ⟨-, -, hh⟩ | hh
    · exact hr i v hv hp hh
    · obtain ⟨k1, m1, o1, -⟩ := hh
      obtain ⟨fr, hf⟩ := hr i v hv k1 o1
      exact ⟨fr, m1 _ _ hf⟩
theorem rds_app2_r {α : Type} {sz : Nat} {enc : α → List Value} {a0 ao : Option Addr} {c0 cap : Nat} {xs zs : List α} (hsz : ∀ x, (enc x).length = sz) (hpre : zs.take xs.length = xs) (ha : a0 = none → xs = []) (hb : a0 ≠ none → ∃ b off, a0 = some ⟨b, off, none⟩) : RdS (app2 sz enc a0 c0 xs ao cap zs) a0 (xs.flatMap enc) := by
  rcases rds_own (cap := c0) hsz ha hb with h | ⟨b, o, h, hr⟩
  · exact .inl h
  · refine .inr ⟨b, o, h, fun i v hv hp hh => ?_⟩
    rcases hh with ⟨rfl, rfl, hh⟩ | hh
    · have s : Sat (own sz enc ao cap zs :: []) hp := ⟨hp, Hle.refl _, hh, trivial⟩
      have s2 := own_take hsz xs.length s
      rw [hpre] at s2
      obtain ⟨k1, m1, o1⟩ := s2.head
      obtain ⟨fr, hf⟩ := hr i v hv k1 o1
      exact ⟨fr, m1 _ _ hf⟩
    · obtain ⟨k1, m1, o1, s2⟩ := hh
      obtain ⟨k2, m2, o2⟩ := s2.head
      obtain ⟨fr, hf⟩ := hr i v hv k2 o2
      exact ⟨fr, (Hmin_le _ _) _ _ (m2 _ _ hf)⟩
end
end Go.Ab
set_option linter.unusedVariables false
set_option linter.unusedSimpArgs false
namespace Go.Ab
open Go
theorem rds_bun {Γ : List HProp} {A : HProp} {ao : Option Addr} {vs : List Value} (hm : A ∈ Γ) (h : RdS A ao vs) : RdS (Bun Γ) ao vs := by
  rcases h with h | ⟨b, o, h1, h2⟩
  · exact .inl h
  · refine .inr ⟨b, o, h1, fun i v hv hp s => ?_⟩
    have key : ∀ (Γ : List HProp) (hp : Hp), A ∈ Γ → Sat Γ hp → ∃ h1, Hle h1 hp ∧ A h1 := by
      intro Γ
      induction Γ with
      | nil => intro hp hm; cases hm
      | cons B Γ ih =>
        intro hp hm s
        obtain ⟨k1, l1, b1, s1⟩ := s
        rcases List.mem_cons.1 hm with rfl | hm
        · exact ⟨k1, l1, b1⟩
        · obtain ⟨k2, l2, a2⟩ := ih _ hm s1
          exact ⟨k2, l2.trans (Hmin_le _ _), a2⟩
    obtain ⟨k, l, a⟩ := key Γ hp hm s
    obtain ⟨fr, e⟩ := h2 i v hv k a
    exact ⟨fr, l _ _ e⟩
section
variable {P : Program} {r : Option Nat} {w0 : World} {ds : List Deferred} {n : Nat} {e : Env} {Γ : List HProp} {K : Act → World → Prop} {l : List Oper} {i : Nat} {t : RT} {fl : List Nat}
variable {d : Nat} {ty : TypeId} {pos : String} {af : Array Edge} {g : Option (Nat × Bool)}
/-- The address of an element of a slice that can be read. -/
theorem q_idxR {α : Type} {T E : TypeId} {x y : Operand} {ao : Option Addr} {len cap sz k : Nat} {k' : IntKind} {ix : Int} {A : HProp} {enc : α → List Value} {xs : List α} {p : α} (ho : nthO l i = some ⟨some d, .indexAddr T x y, ty, pos, af, g⟩) (hg : gd l e g = some true) (hn : Nat.blt d n = true)
    (hx : ev e x = some (.slice ao len cap)) (hy : ev e y = some (.int k' ix)) (hu : P.underlying T = some (.slice E)) (hs : ∀ w, (sizeOf E).run P w = .ok (sz + 1) w) (hr : RdS A ao (xs.flatMap enc)) (hp : xs[k]? = some p) (hsz : ∀ x, (enc x).length = sz + 1) (hi : ix = (k : Int)) (hlen : k < len)
    (kk : ∀ b o, ao = some ⟨b, o, none⟩ → RdN A b (o + k * (sz + 1)) (enc p) → Le (St w0 ds n ((d, .pointer (some ⟨b, o + k * (sz + 1), none⟩)) :: e) Γ) (wpRT P r l.toArray K t)) : Le (St w0 ds n e Γ) (wpRT P r l.toArray K (.q i t)) := by
  obtain ⟨b, o, rfl, hrn⟩ := rds_get hr hsz hp
  exact q_idx ho hg hn hx hy hu hs hi hlen ⟨b, o, rfl⟩ fun b' o' h => by cases h; exact kk b o rfl (rdn_sub hrn hsz hp)
/-- ... that is owned. -/
theorem q_idxO {α : Type} {T E : TypeId} {x y : Operand} {ao : Option Addr} {len cap cap' sz k : Nat} {k' : IntKind} {ix : Int} {enc : α → List Value} {xs : List α} {p : α} {Γ' : List HProp} (ho : nthO l i = some ⟨some d, .indexAddr T x y, ty, pos, af, g⟩) (hg : gd l e g = some true) (hn : Nat.blt d n = true)
    (hx : ev e x = some (.slice ao len cap')) (hy : ev e y = some (.int k' ix)) (hu : P.underlying T = some (.slice E)) (hs : ∀ w, (sizeOf E).run P w = .ok (sz + 1) w) (hp : xs[k]? = some p) (hi : ix = (k : Int)) (hlen : k < len) (tk : Take Γ (own (sz + 1) enc ao cap xs) Γ')
    (kk : ∀ b o, ao = some ⟨b, o, none⟩ → k < xs.length → xs.length ≤ cap → Le (St w0 ds n ((d, .pointer (some ⟨b, o + k * (sz + 1), none⟩)) :: e) Γ) (wpRT P r l.toArray K t)) : Le (St w0 ds n e Γ) (wpRT P r l.toArray K (.q i t)) :=
  own_some tk hp fun b o hao h1 h2 => q_idx ho hg hn hx hy hu hs hi hlen ⟨b, o, hao⟩ fun b' o' h => kk b' o' h h1 h2
theorem q_load_O {α : Type} {T : TypeId} {x : Operand} {b o off j k' cap sz : Nat} {ao : Option Addr} {enc : α → List Value} {xs : List α} {p : α} {v : Value} {Γ' : List HProp} (ho : nthO l i = some ⟨some d, .load T x, ty, pos, af, g⟩) (hg : gd l e g = some true) (hn : Nat.blt d n = true)
    (hx : ev e x = some (.pointer (some ⟨b, o, none⟩))) (hA : ∀ w, (isAgg T).run P w = .ok false w) (hao : ao = some ⟨b, off, none⟩) (hsz : ∀ x, (enc x).length = sz) (hp : xs[k']? = some p) (tk : Take Γ (own sz enc ao cap xs) Γ') (hj : o = off + k' * sz + j) (hv : (enc p)[j]? = some v)
    (k : Le (St w0 ds n ((d, v) :: e) Γ) (wpRT P r l.toArray K t)) : Le (St w0 ds n e Γ) (wpRT P r l.toArray K (.q i t)) := by
  subst hao
  exact q_load_o ho hg hn hx hA tk hsz hj hp hv k
theorem ag_load_O {α : Type} {jj : Nat} {T : TypeId} {x : Operand} {b o off j k' cap sz : Nat} {ao : Option Addr} {enc : α → List Value} {xs : List α} {p : α} {v : Value} {Γ' : List HProp} {X : Act → World → Prop} (ho : nthO l jj = some ⟨some d, .load T x, ty, pos, af, g⟩)
    (hx : ev e x = some (.pointer (some ⟨b, o, none⟩))) (hl : look e d = some v) (hA : ∀ w, (isAgg T).run P w = .ok false w) (hao : ao = some ⟨b, off, none⟩) (hsz : ∀ x, (enc x).length = sz) (hp : xs[k']? = some p) (tk : Take Γ (own sz enc ao cap xs) Γ') (hj : o = off + k' * sz + j) (hv : (enc p)[j]? = some v)
    (k : Le (St w0 ds n e Γ) (AG P r l.toArray fl X)) : Le (St w0 ds n e Γ) (AG P r l.toArray (jj :: fl) X) := by
  subst hao
  exact ag_load_o ho hx hl hA tk hsz hj hp hv k
theorem l_store_O {α : Type} {T : TypeId} {x y : Operand} {v : Value} {b o off k j sz ssz cap : Nat} {ao : Option Addr} {enc : α → List Value} {xs : List α} {p q : α} {us : List Value} {Γ' : List HProp} (ho : nthO l i = some ⟨none, .store T x y, ty, pos, af, g⟩) (hg : gd l e g = some true)
    (hx : ev e x = some (.pointer (some ⟨b, o, none⟩))) (hy : ev e y = some v) (hs : ∀ w, (sizeOf T).run P w = .ok ssz w) (hv : v.cells.toList = us) (hl : us.length = ssz) (h1 : us.all Value.oneCell' = true)
    (hao : ao = some ⟨b, off, none⟩) (hsz : ∀ x, (enc x).length = sz) (hp : xs[k]? = some p) (tk : Take Γ (own sz enc ao cap xs) Γ') (hj : o = off + k * sz + j) (hlt : j + us.length ≤ sz) (hq : enc q = setL (enc p) j us)
    (kk : Le (St w0 ds n e (own sz enc ao cap (xs.set k q) :: Γ')) (AG P r l.toArray fl (wpRT P r l.toArray K t))) : Le (St w0 ds n e Γ) (wpRT P r l.toArray K (.l i fl t)) := by
  subst hao
  exact l_storeO ho hg hx hy hs hv hl h1 hsz tk hj hp hlt hq kk
theorem b_shrL (tx : TypeId) {k' k2 : IntKind} {p z : Int} (q : Nat) (m : Int) (hz : z = (q : Int)) (h : Nat.ble q 64 = true) (hm : (2 : Int) ^ q = m) (hb : Nat.ble q k'.bits = true := by decide) : ∀ w, (binOp .shr tx (.int k' p) (.int k2 z)).run P w = .ok (.int k' (p / m)) w := by
  intro w
  subst hz hm
  have h0 : q ≤ k'.bits := Nat.le_of_ble_eq_true hb
  have h1 : ¬ ((q : Int) < 0) := by omega
  have h2 : min q k'.bits = q := Nat.min_eq_left h0
  have h3 : p.fdiv (2 ^ q) = p / 2 ^ q := Int.fdiv_eq_ediv_of_nonneg _ (Int.le_of_lt (Int.pow_pos (by decide)))
  simp [binOp, Op.shift, h1, h2, h3]
theorem b_shlL (tx : TypeId) {k' k2 : IntKind} {p z : Int} (q : Nat) (m : Int) (hz : z = (q : Int)) (h : Nat.ble q 64 = true) (hm : (2 : Int) ^ q = m) (hb : Nat.ble q k'.bits = true := by decide) : ∀ w, (binOp .shl tx (.int k' p) (.int k2 z)).run P w = .ok (.int k' (k'.wrap (p * m))) w := by
  intro w
  subst hz hm
  have h0 : q ≤ k'.bits := Nat.le_of_ble_eq_true hb
  have h1 : ¬ ((q : Int) < 0) := by omega
  have h2 : min q k'.bits = q := Nat.min_eq_left h0
  simp [binOp, Op.shift, h1, h2]
/-- A condition that is turned round. -/
theorem s_bool_np {X : Act → World → Prop} (d : Nat) {p : Prop} [Decidable p] (h : look e d = some (.bool (!decide p))) (ht : ¬ p → Le (St w0 ds n ((d, .bool true) :: e) Γ) X) (hf : p → Le (St w0 ds n ((d, .bool false) :: e) Γ) X) : Le (St w0 ds n e Γ) X :=
  s_bool d h (fun h => ht (by simpa using h)) (fun h => hf (by simpa using h))
end
section
variable {P : Program} {r : Option Nat} {Q : Exit → Act → World → Prop} {w0 : World} {ds : List Deferred} {n : Nat} {e : Env} {Γ : List HProp}
theorem c_cond_np {c : Operand} {x y : Code} {p : Prop} [Decidable p] (hc : ev e c = some (.bool (!decide p))) (ht : ¬ p → Le (St w0 ds n e Γ) (x.wpIn (fz r) 0 P Q)) (hf : p → Le (St w0 ds n e Γ) (y.wpIn (fz r) 0 P Q)) :
    Le (St w0 ds n e Γ) ((Code.cond c x y).wpIn (fz r) 0 P Q) := c_cond hc (fun h => ht (by simpa using h)) (fun h => hf (by simpa using h))
end
end Go.Ab
set_option linter.unusedVariables false
set_option linter.unusedSimpArgs false
namespace Go.Ab
open Go
theorem zeroCells_rep {α : Type} {enc : α → List Value} {z : Value} {x0 : α} (henc : enc x0 = z.cells.toList) (q : Nat) : (Builtin.zeroCells z.cells q).toList = (List.replicate q x0).flatMap enc := by
  rw [List.flatMap_def, List.map_replicate, henc]
  unfold Builtin.zeroCells
  exact zeros_list z.cells q
section
variable {P : Program} {r : Option Nat} {w0 : World} {ds : List Deferred} {n : Nat} {e : Env} {Γ : List HProp} {K : Act → World → Prop} {l : List Oper} {i : Nat} {t : RT} {fl : List Nat}
variable {d : Nat} {ty : TypeId} {pos : String} {af : Array Edge} {g : Option (Nat × Bool)}
theorem run_appendZ {α : Type} {T E U : TypeId} {sz m : Nat} {enc : α → List Value} {ao : Option Addr} {cap : Nat} {xs : List α} {x0 : α} {kU k1 : IntKind} {ti : TypeInfo} {z : Value} {w : World} (hu : P.underlying T = some (.slice E)) (hU : P.underlying U = some (.int kU)) (hti : ∀ w, (typeInfo E).run P w = .ok ti w)
    (hz : ti.zero = some z) (hzs : z.cells.size = sz) (hsi : ti.size = sz) (hsz : ∀ x, (enc x).length = sz) (hpos : 0 < sz) (h1 : ∀ y, (enc y).all Value.oneCell' = true) (henc : enc x0 = z.cells.toList)
    (s : Sat (own sz enc ao cap xs :: Γ) (lh w)) (h63 : xs.length + m ≤ 9223372036854775807) (hby : (xs.length + m) * ti.bytes ≤ 140737488355328) :
    ∃ ao' cap' w', (Builtin.append_ #[T, U] ty #[.slice ao xs.length cap, .int k1 (m : Int)]).run P w = .ok (.slice ao' (xs.length + m) cap') w' ∧ Sat (own sz enc ao' cap' (xs ++ List.replicate m x0) :: Γ) (lh w') ∧ Amb w w' := by
  have hi := info_of_run hti
  have hfl : ((List.replicate m x0).flatMap enc).length = m * sz := by rw [flat_len hsz, List.length_replicate]
  obtain ⟨hc, hn, hs⟩ := own_le s
  have hall : ((List.replicate m x0).flatMap enc).all Value.oneCell' = true := by
    rw [List.all_flatMap]; simp [h1]
  have hw : IntKind.i64.wrap (m : Int) = m := wrap_fits (fits_i64 (by omega) (by omega))
  have hm0 : ¬ ((m : Int) < 0) := by omega
  have hmb : m * ti.bytes ≤ 140737488355328 := Nat.le_trans (Nat.mul_le_mul_right _ (by omega)) hby
  have hmb' : ¬ (281474976710656 < (m : Int) * (ti.bytes : Int)) := by
    have : (m : Int) * (ti.bytes : Int) = ((m * ti.bytes : Nat) : Int) := by simp
    rw [this]; omega
  have hzr := zeroCells_rep (enc := enc) henc
  have happ : ∀ w : World, (if m * sz = 0 then (pure #[] : Sem (Array Value)) else do pure (Builtin.zeroCells (← zeroValue E).cells m)).run P w = .ok ((List.replicate m x0).flatMap enc).toArray w := by
    intro w
    by_cases h0 : m * sz = 0
    · have : m = 0 := by
        rcases Nat.mul_eq_zero.1 h0 with h | h
        · exact h
        · omega
      subst this
      simp
    · rw [if_neg h0]
      have h2 : (Builtin.zeroCells z.cells m) = ((List.replicate m x0).flatMap enc).toArray := by
        apply Array.ext'; rw [hzr]
      simp [zeroValue, hti, hz, h2]
  by_cases hroom : xs.length + m ≤ cap
  · cases ao with
    | none =>
      obtain ⟨rfl, rfl⟩ := hn rfl
      have hm0 : m = 0 := by simpa using hroom
      subst hm0
      refine ⟨none, 0, w, ?_, by simpa using s, Amb.refl w⟩
      have hw0 : IntKind.i64.wrap 0 = 0 := by decide
      simp [Builtin.append_, run_underlying hu, run_underlying hU, sizeOf, hti, asInt, asIntOf, hw0, hsi]
    | some p =>
      obtain ⟨b, off, hp⟩ := hs (by simp)
      cases hp
      obtain ⟨sp, hsp, s2⟩ := own_cells s
      have hlen : xs.length * sz + ((List.replicate m x0).flatMap enc).length ≤ (xs.flatMap enc ++ sp).length := by
        rw [List.length_append, flat_len hsz xs, hsp, hfl]
        have : (xs.length + m) * sz ≤ cap * sz := Nat.mul_le_mul_right _ hroom
        rw [Nat.add_mul] at this
        rw [Nat.sub_mul]
        have := Nat.mul_le_mul_right sz hc
        omega
      obtain ⟨w', e1, e2, e3⟩ := run_storeSat (P := P) ((List.replicate m x0).flatMap enc) (xs.length * sz) 0 _ _ w s2 (by simpa using hlen) hall
      refine ⟨some ⟨b, off, none⟩, cap, w', ?_, ?_, e3⟩
      · have happ' := happ w
        simp only [Builtin.append_, Sem.run_bind, List.getElem?_toArray, List.getElem?_cons_zero, List.getElem?_cons_succ, run_underlying hu, run_underlying hU, Result.andThen_ok, Sem.run_pure, sizeOf, hti, asInt, asIntOf, hw, hm0, if_false, if_true, hsi]
        try simp only [Sem.run_bind, Sem.run_pure, Result.andThen_ok, hw, hti, if_neg hm0]
        rw [if_neg (by simpa using hmb')]
        simp only [Sem.run_pure, Result.andThen_ok, Int.toNat_natCast, if_pos hroom, Sem.run_bind, Bool.not_true, Bool.false_eq_true, if_false]
        rw [happ']
        simp only [Result.andThen_ok, add_none, e1, Sem.run_bind, Sem.run_pure]
      · have hsl : sp.length = (cap - xs.length) * sz := hsp
        have hle : ((List.replicate m x0).flatMap enc).length ≤ sp.length := by
          rw [hfl, hsl]
          exact Nat.mul_le_mul_right _ (by omega)
        have hspl : sp = sp.take ((List.replicate m x0).flatMap enc).length ++ sp.drop ((List.replicate m x0).flatMap enc).length := (List.take_append_drop _ _).symm
        have e4 := setL_eq ((List.replicate m x0).flatMap enc) (xs.flatMap enc) (sp.take ((List.replicate m x0).flatMap enc).length) (sp.drop ((List.replicate m x0).flatMap enc).length) (by rw [List.length_take]; omega)
        rw [List.append_assoc, ← hspl, flat_len hsz] at e4
        rw [Nat.add_zero, e4] at e2
        refine own_mk (by simp; omega) ?_ (by rw [List.flatMap_append]; exact e2)
        rw [List.length_drop, hsl, hfl, List.length_append, List.length_replicate, ← Nat.sub_mul]
        congr 1
        omega
  · have hroom : cap < xs.length + m := by omega
    have hfit := growslice_fits (bytes := ti.bytes) hroom hby
    have hng : ¬ (xs.length + m ≤ cap) := by omega
    have h63' : ¬ (9223372036854775807 < ((xs.length : Int) + (m : Int))) := by omega
    have h48' : ¬ (281474976710656 < Builtin.nextslicecap (xs.length + m) cap * ti.bytes) := by omega
    have hgc := grownCap_ge w (xs.length + m) cap E
    have hold : (Builtin.firstCells sz xs.length (.slice ao xs.length cap)).run P w.drew = .ok (xs.flatMap enc).toArray w.drew := by
      have s3 : Sat (own sz enc ao cap xs :: Γ) (lh w.drew) := s
      exact run_first (rds_own hsz (fun h => (hn h).1) hs) (by rw [flat_len hsz]) s3
    have happ' := happ w.drew
    refine ⟨some ⟨w.heap.size, 0, none⟩, grownCap w (xs.length + m) cap E, w.drew.alloc (.cells ((xs.flatMap enc).toArray ++ ((List.replicate m x0).flatMap enc).toArray ++ Builtin.zeroCells z.cells (grownCap w (xs.length + m) cap E - (xs.length + m))) E), ?_, ?_, ⟨rfl, rfl, rfl, by simp⟩⟩
    · simp only [Builtin.append_, Sem.run_bind, List.getElem?_toArray, List.getElem?_cons_zero, List.getElem?_cons_succ, run_underlying hu, run_underlying hU, Result.andThen_ok, Sem.run_pure, sizeOf, hti, asInt, asIntOf, hw, if_true, hsi]
      simp only [Sem.run_bind, Sem.run_pure, Result.andThen_ok, hw, hti, if_neg hm0]
      rw [if_neg (by simpa using hmb')]
      simp only [Sem.run_pure, Result.andThen_ok, Int.toNat_natCast, if_neg hng, Sem.run_bind, Bool.not_true, Bool.false_eq_true, if_false, hti]
      rw [if_neg (by simp [IntKind.max, IntKind.signed, IntKind.bits]; omega)]
      simp only [Sem.run_pure, Result.andThen_ok, Sem.run_bind, hti]
      rw [if_neg (by simpa using h48')]
      simp only [Sem.run_pure, Result.andThen_ok, Sem.run_bind, hti]
      have hch : (choose (.appendCap (xs.length + m) cap E)).run P w = .ok (grownCap w (xs.length + m) cap E) w.drew := by
        simp [choose, Sem.run, Question.forced, grownCap]
      rw [hch]
      have happ2 : (if m * sz = 0 then (pure #[] : Sem (Array Value)) else do pure (Builtin.zeroCells (← zeroValue E).cells m)) = (if m * sz = 0 then (pure #[] : Sem (Array Value)) else do pure (Builtin.zeroCells (← zeroValue E).cells m)) := rfl
      simp only [Result.andThen_ok, Sem.run_bind, run_askRoom, hold]
      rw [happ']
      simp [zeroValue, hti, hz, newRow]
      congr 2
      apply Array.ext'
      simp
    · have s3 : Sat (own sz enc ao cap xs :: Γ) (lh w.drew) := s
      have s4 := s3.tail.newCells ((xs.flatMap enc).toArray ++ ((List.replicate m x0).flatMap enc).toArray ++ Builtin.zeroCells z.cells (grownCap w (xs.length + m) cap E - (xs.length + m))) E
      refine own_mk (sp := (Builtin.zeroCells z.cells (grownCap w (xs.length + m) cap E - (xs.length + m))).toList) (by simp; omega) ?_ (by rw [List.flatMap_append]; simpa using s4)
      rw [zeroCells_len, hzs, List.length_append, List.length_replicate]
theorem l_appendZ {α : Type} {T E U : TypeId} {x y : Operand} {sz : Nat} {enc : α → List Value} {ao : Option Addr} {m len cap : Nat} {zm : Int} {xs : List α} (x0 : α) {kU k1 : IntKind} {ti : TypeInfo} {z : Value} {Γ1 : List HProp} (ho : nthO l i = some ⟨some d, .call ⟨.builtin .append, #[x, y], #[T, U]⟩, ty, pos, af, g⟩) (hg : gd l e g = some true) (hn : Nat.blt d n = true)
    (hx : ev e x = some (.slice ao len cap)) (hy : ev e y = some (.int k1 zm)) (hu : P.underlying T = some (.slice E)) (hU : P.underlying U = some (.int kU)) (hti : ∀ w, (typeInfo E).run P w = .ok ti w) (hz : ti.zero = some z) (hzs : z.cells.size = sz) (hsi : ti.size = sz) (hpos : 0 < sz)
    (tk : Take Γ (own sz enc ao cap xs) Γ1) (hlen : xs.length = len) (hm : zm = (m : Int)) (henc : enc x0 = z.cells.toList) (hsz : ∀ x, (enc x).length = sz) (h1 : ∀ y, (enc y).all Value.oneCell' = true)
    (h63 : len + m ≤ 9223372036854775807) (hby : (len + m) * ti.bytes ≤ 140737488355328)
    (k : ∀ ao' cap', Le (St w0 ds n ((d, .slice ao' (len + m) cap') :: e) (own sz enc ao' cap' (xs ++ List.replicate m x0) :: Γ1)) (AG P r l.toArray fl (wpRT P r l.toArray K t))) : Le (St w0 ds n e Γ) (wpRT P r l.toArray K (.l i fl t)) :=
  l_gen ho hg (fun _ h => by cases h) (fun a w s => by
    subst hlen hm
    obtain ⟨ao', cap', w', e1, e2, e3⟩ := run_appendZ (P := P) (ty := ty) (k1 := k1) (m := m) hu hU hti hz hzs hsi hsz hpos h1 henc (tk _ s.heap) h63 hby
    have hr' : (execOp a.eval ⟨some d, .call ⟨.builtin .append, #[x, y], #[T, U]⟩, ty, pos, af, g⟩).run P w = .ok (.value (.slice ao' (xs.length + m) cap')) w' := by
      simp [execOp, resolve, invoke, builtin, s.ev hx, s.ev hy, e1]
    rw [hr']
    exact k ao' cap' _ _ ((s.world e2 e3).put hn))
end
end Go.Ab
set_option linter.unusedVariables false
set_option linter.unusedSimpArgs false
namespace Go.Ab
open Go
/-- A list that lies somewhere: where, how much room, what. -/
abbrev LstA (α : Type) := Option Addr × Nat × List α
def encH {α : Type} (x : LstA α) : List Value := [.slice x.1 x.2.2.length x.2.1]
theorem encH_len {α : Type} : ∀ x : LstA α, (encH x).length = 1 := fun _ => rfl
theorem encH_one {α : Type} : ∀ x : LstA α, (encH x).all Value.oneCell' = true := fun _ => rfl
/-- Marks in a row. -/
def mks {α : Type} (f : Nat → α) (n : Nat) : List α := (List.range n).map f
theorem mks_len {α : Type} (f : Nat → α) (n : Nat) : (mks f n).length = n := by simp [mks]
theorem mks_get {α : Type} (f : Nat → α) {n k : Nat} (h : k < n) : (mks f n)[k]? = some (f k) := by simp [mks, h]
theorem mks_next {α : Type} (f : Nat → α) (n : Nat) : mks f n ++ [f n] = mks f (n + 1) := by simp [mks, List.range_succ]
theorem mks_of {α : Type} {f : Nat → α} {n : Nat} {l : List α} (hl : l.length = n) (h : ∀ q, q < n → l[q]? = some (f q)) : l = mks f n := by
  apply List.ext_getElem?
  intro q
  by_cases hq : q < n
  · rw [h q hq, mks_get f hq]
  · rw [List.getElem?_eq_none (by omega), List.getElem?_eq_none (by rw [mks_len]; omega)]
theorem mk2_lo {α : Type} {f g : Nat → α} {n m k : Nat} (h : k < n) : (mks f n ++ mks g m)[k]? = some (f k) := by
  rw [List.getElem?_append_left (by rw [mks_len]; exact h), mks_get f h]
theorem mk2_hi {α : Type} {f g : Nat → α} {n m k : Nat} (h : n ≤ k) (h2 : k < n + m) : (mks f n ++ mks g m)[k]? = some (g (k - n)) := by
  rw [List.getElem?_append_right (by rw [mks_len]; exact h), mks_len, mks_get g (by omega)]
section
variable {α : Type} {sz : Nat} {enc : α → List Value}
abbrev owA (sz : Nat) (enc : α → List Value) (x : LstA α) : HProp := own sz enc x.1 x.2.1 x.2.2
/-- The lists ahead of i are written full. -/
structure WIA (wm : Nat → Nat → α) (T U : List (LstA α)) (i : Nat) : Prop where
  len : U.length = T.length
  same : ∀ (j : Nat) (x y : LstA α), T[j]? = some x → U[j]? = some y → y.1 = x.1 ∧ y.2.1 = x.2.1 ∧ y.2.2.length = x.2.2.length ∧ (j < i → y.2.2 = mks (wm j) x.2.2.length)
theorem wia_start (wm : Nat → Nat → α) (T : List (LstA α)) : WIA wm T T 0 := ⟨rfl, fun j x y h1 h2 => by rw [h1] at h2; cases h2; exact ⟨rfl, rfl, rfl, fun h => by omega⟩⟩
theorem wia_next {wm : Nat → Nat → α} {T U : List (LstA α)} {i : Nat} {x y : LstA α} (h : WIA wm T U i) (hx : T[i]? = some x) (hy : U[i]? = some y) (l : List α) (hl : l = mks (wm i) x.2.2.length) : WIA wm T (U.set i (y.1, y.2.1, l)) (i + 1) := by
  have hi : i < U.length := (List.getElem?_eq_some_iff.1 hy).1
  refine ⟨by rw [List.length_set]; exact h.len, fun j a b ha hb => ?_⟩
  by_cases hji : j = i
  · subst hji
    rw [List.getElem?_set_self hi] at hb; cases hb
    rw [hx] at ha; cases ha
    obtain ⟨h1, h2, h3, -⟩ := h.same j _ _ hx hy
    exact ⟨h1, h2, by rw [hl, mks_len], fun _ => hl⟩
  · rw [List.getElem?_set_ne (Ne.symm hji)] at hb
    obtain ⟨h1, h2, h3, h4⟩ := h.same j a b ha hb
    exact ⟨h1, h2, h3, fun hj => h4 (by omega)⟩
abbrev PLA (α : Type) := LstA α × LstA α
abbrev f2A (sz : Nat) (enc : α → List Value) (p : PLA α) : HProp := app2 sz enc p.1.1 p.1.2.1 p.1.2.2 p.2.1 p.2.2.1 p.2.2.2
theorem s_f2A {w0 : World} {ds : List Deferred} {n : Nat} {e : Env} {Γ Γ' : List HProp} {X : Act → World → Prop} {M : List (PLA α)} {p : Nat} {x : PLA α} (tk : Take Γ (bigS (f2A sz enc) M) Γ') (hx : M[p]? = some x) (hpre : x.2.2.2.take x.1.2.2.length = x.1.2.2)
    (k : ((x.2.1 = none → x.2.2.2 = []) ∧ (x.2.1 ≠ none → ∃ b off, x.2.1 = some ⟨b, off, none⟩)) ∧ ((x.1.1 = none → x.1.2.2 = []) ∧ (x.1.1 ≠ none → ∃ b off, x.1.1 = some ⟨b, off, none⟩)) → Le (St w0 ds n e Γ) X) : Le (St w0 ds n e Γ) X :=
  s_know (fun h s => app2_facts hpre (big_take (f := f2A sz enc) hx (tk h s))) k
/-- What has been grown. -/
structure MOA (wm wv : Nat → Nat → α) (R : Nat) (T : List (LstA α)) (M : List (PLA α)) (i : Nat) : Prop where
  len : M.length = i
  at_ : ∀ (j : Nat) (x : LstA α) (p : PLA α), T[j]? = some x → M[j]? = some p → p.1 = (x.1, x.2.1, mks (wm j) x.2.2.length) ∧ p.2.2.2 = mks (wm j) x.2.2.length ++ mks (wv j) R
theorem moa_next {wm wv : Nat → Nat → α} {R : Nat} {T : List (LstA α)} {M : List (PLA α)} {i : Nat} {x : LstA α} {p : PLA α} (h : MOA wm wv R T M i) (hx : T[i]? = some x) (h1 : p.1 = (x.1, x.2.1, mks (wm i) x.2.2.length)) (h2 : p.2.2.2 = mks (wm i) x.2.2.length ++ mks (wv i) R) : MOA wm wv R T (M ++ [p]) (i + 1) := by
  refine ⟨by rw [List.length_append, h.len]; rfl, fun j y q hy hq => ?_⟩
  by_cases hj : j < i
  · rw [List.getElem?_append_left (by rw [h.len]; exact hj)] at hq
    exact h.at_ j y q hy hq
  · rw [List.getElem?_append_right (by rw [h.len]; omega), h.len] at hq
    obtain rfl : j = i := by
      rcases Nat.lt_or_ge (j - i) 1 with h3 | h3
      · omega
      · rw [List.getElem?_eq_none (by simpa using h3)] at hq; cases hq
    simp at hq; subst hq
    rw [hx] at hy; cases hy
    exact ⟨h1, h2⟩
/-- Of two lists of lists the second place by place: fits the rows of the first. -/
theorem mks_take (f : Nat → α) (n : Nat) (l : List α) : (mks f n ++ l).take (mks f n).length = mks f n := by rw [List.take_left]
end
end Go.Ab
namespace Go.Ab
open Go
section
variable {α : Type} {sz : Nat} {enc : α → List Value}
theorem s_owA {w0 : World} {ds : List Deferred} {n : Nat} {e : Env} {Γ Γ' : List HProp} {X : Act → World → Prop} {T : List (LstA α)} {p : Nat} {x : LstA α} (tk : Take Γ (bigS (owA sz enc) T) Γ') (hx : T[p]? = some x)
    (k : (x.1 = none → x.2.2 = []) → (x.1 ≠ none → ∃ b off, x.1 = some ⟨b, off, none⟩) → Le (St w0 ds n e Γ) X) : Le (St w0 ds n e Γ) X :=
  s_know (p := (x.1 = none → x.2.2 = []) ∧ (x.1 ≠ none → ∃ b off, x.1 = some ⟨b, off, none⟩)) (fun h s => by
    obtain ⟨h1, h2, h3⟩ := own_le (big_take (f := owA sz enc) hx (tk h s))
    exact ⟨fun e => (h2 e).1, h3⟩) (fun h => k h.1 h.2)
end
end Go.Ab
namespace Go.Ab
open Go
/-! Bits. -/
def xorV (k : IntKind) (x y : Int) : Int := k.wrap ((BitVec.ofInt k.bits x ^^^ BitVec.ofInt k.bits y).toNat : Int)
def andV (k : IntKind) (x y : Int) : Int := k.wrap ((BitVec.ofInt k.bits x &&& BitVec.ofInt k.bits y).toNat : Int)
def orV (k : IntKind) (x y : Int) : Int := k.wrap ((BitVec.ofInt k.bits x ||| BitVec.ofInt k.bits y).toNat : Int)
section
variable {P : Program}
theorem b_and (tx : TypeId) (k' : IntKind) (p q : Int) (w : World) : (binOp .and tx (.int k' p) (.int k' q)).run P w = .ok (.int k' (andV k' p q)) w := by simp [binOp, Op.intBits, andV]
theorem b_or (tx : TypeId) (k' : IntKind) (p q : Int) (w : World) : (binOp .or tx (.int k' p) (.int k' q)).run P w = .ok (.int k' (orV k' p q)) w := by simp [binOp, Op.intBits, orV]
end
section
variable {w0 : World} {ds : List Deferred} {n : Nat} {e : Env} {Γ Γ' : List HProp} {X : Act → World → Prop}
end
end Go.Ab
set_option linter.unusedVariables false
namespace Go.Ab
open Go
variable {P : Program} {r : Option Nat} {c : Code} {S : Act → World → Prop} {Q : Exit → Act → World → Prop}
theorem c_unroll (m : Nat) (h : Le S (c.wpIn (fz r) 0 P (Exit.then (Code.roundsIn (fz r) 0 P c Q m) Q))) : Le S ((Code.loop c).wpIn (fz r) 0 P Q) := fun a w s => wpIn_loop_rounds (m + 1) (h a w s)
/-- Are two pointers the same, one of which is nil? -/
theorem run_equal_pn {tx E : TypeId} {ao bo : Option Addr} (hu : P.underlying tx = some (.pointer E)) (hz : ao = none ∨ bo = none) (w : World) : (Op.equal tx (.pointer ao) (.pointer bo)).run P w = .ok (ao == bo) w := by
  have key : ∀ k, (Op.equalIn (k + 1) tx (.pointer ao) (.pointer bo)).run P w = .ok (ao == bo) w := by
    intro k
    simp only [Op.equalIn, Sem.run_bind, run_underlying hu, Result.andThen_ok]
    rcases hz with rfl | rfl
    · cases bo <;> rfl
    · cases ao <;> rfl
  exact key 9999
section
variable {w0 : World} {ds : List Deferred} {n : Nat} {e : Env} {Γ : List HProp} {K : Act → World → Prop} {l : List Oper} {i : Nat} {t : RT}
variable {d : Nat} {ty : TypeId} {pos : String} {af : Array Edge} {g : Option (Nat × Bool)}
theorem q_eqp {tx tz : TypeId} {x y : Operand} {ao bo : Option Addr} {E : TypeId} (ho : nthO l i = some ⟨some d, .binOp .eql tx x y tz, ty, pos, af, g⟩) (hg : gd l e g = some true) (hn : Nat.blt d n = true) (hx : ev e x = some (.pointer ao)) (hy : ev e y = some (.pointer bo)) (hu : P.underlying tx = some (.pointer E)) (hz : ao = none ∨ bo = none)
    (k : Le (St w0 ds n ((d, .bool (ao == bo)) :: e) Γ) (wpRT P r l.toArray K t)) : Le (St w0 ds n e Γ) (wpRT P r l.toArray K (.q i t)) :=
  q_pure ho hg rfl hn rfl (fun _ h => by cases h) (fun a w s w' => by
    simp only [execOp, s.ev hx, s.ev hy, eqGuard, Sem.run_bind]
    simp [binOp, run_equal_pn hu hz]) k
end
theorem set_same {α : Type} {M : List α} {j : Nat} {x : α} (h : M[j]? = some x) : M.set j x = M := by
  apply List.ext_getElem?
  intro q
  by_cases hq : q = j
  · subst hq; rw [List.getElem?_set_self (List.getElem?_eq_some_iff.1 h).1, h]
  · rw [List.getElem?_set_ne (Ne.symm hq)]
end Go.Ab
