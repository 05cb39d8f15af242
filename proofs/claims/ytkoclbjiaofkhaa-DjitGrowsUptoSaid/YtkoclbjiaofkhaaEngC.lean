/- The engine, part C: what is known of a frame's slots and of memory ('St'); the rules of code; the quiet operations. -/
import Derived.Test.YtkoclbjiaofkhaaEngB
import Derived.Laws.Cells
import Derived.Laws.Entries
import Derived.Laws.Rows
set_option linter.unusedVariables false
set_option linter.unusedSimpArgs false
namespace Go.Ab
open Go

abbrev Env := List (Nat × Value)
def look : Env → Nat → Option Value
  | [], _ => none
  | (k, v) :: e, t => bif Nat.beq k t then some v else look e t
def ev (e : Env) : Operand → Option Value
  | .tmp t => look e t
  | .const v => some v
  | .global g => some (.pointer (some ⟨g, 0, none⟩))
  | .func f => some (.func (.func f) #[] #[])
def evs (e : Env) : List Operand → Option (List Value)
  | [] => some []
  | x :: xs => match ev e x, evs e xs with
    | some v, some vs => some (v :: vs)
    | _, _ => none
def nthO : List Oper → Nat → Option Oper
  | [], _ => none
  | o :: _, 0 => some o
  | _ :: l, n + 1 => nthO l n
theorem nthO_eq (l : List Oper) : ∀ i, nthO l i = l[i]? := by
  induction l with
  | nil => intro i; cases i <;> rfl
  | cons o l ih => intro i; cases i with
    | zero => rfl
    | succ n => simpa [nthO] using ih n
/-- Is the operation wanted, by what is known of the slots? -/
def gd (l : List Oper) (e : Env) : Option (Nat × Bool) → Option Bool
  | none => some true
  | some (j, want) => match (nthO l j).bind (·.dst) with
    | some t => match look e t with
      | some (.bool b) => some (b == want)
      | some (.tuple _) => some false
      | _ => none
    | none => none

structure St (w0 : World) (ds : List Deferred) (n : Nat) (e : Env) (Γ : List HProp) (a : Act) (w : World) : Prop where
  defers : a.defers = ds
  size : a.tmps.size = n
  env : ∀ t v, look e t = some v → a.tmps.getD t undef = v
  heap : Sat Γ (lh w)
  amb : Amb w0 w
def Le (S X : Act → World → Prop) : Prop := ∀ a w, S a w → X a w

section
variable {w0 : World} {ds : List Deferred} {n : Nat} {e : Env} {Γ : List HProp} {a : Act} {w : World}
theorem St.ev (S : St w0 ds n e Γ a w) {x : Operand} {v : Value} (h : ev e x = some v) : a.eval x = v := by
  cases x with
  | tmp t => exact S.env t v h
  | const u => simp only [Ab.ev, Option.some.injEq] at h; exact h
  | global g => simp only [Ab.ev, Option.some.injEq] at h; exact h
  | func f => simp only [Ab.ev, Option.some.injEq] at h; exact h
theorem St.evs (S : St w0 ds n e Γ a w) : ∀ {xs : List Operand} {vs : List Value}, evs e xs = some vs → xs.map a.eval = vs
  | [], vs, h => by simp only [Ab.evs, Option.some.injEq] at h; subst h; rfl
  | x :: xs, vs, h => by
    simp only [Ab.evs] at h
    cases h1 : Ab.ev e x with
    | none => simp [h1] at h
    | some v =>
      cases h2 : Ab.evs e xs with
      | none => simp [h1, h2] at h
      | some us =>
        simp only [h1, h2, Option.some.injEq] at h
        subst h
        simp only [List.map_cons, S.ev h1, S.evs h2]
theorem St.put (S : St w0 ds n e Γ a w) {d : Nat} {v : Value} (hd : Nat.blt d n = true) : St w0 ds n ((d, v) :: e) Γ (a.put (some d) v) w := by
  have hd : d < n := by
    have : d + 1 ≤ n := by simpa [Nat.blt] using hd
    omega
  refine ⟨by rw [put_defers]; exact S.defers, by rw [put_size]; exact S.size, fun t u h => ?_, S.heap, S.amb⟩
  simp only [look] at h
  rw [Array.getD_eq_getD_getElem?, put_get]
  cases hb : Nat.beq d t with
  | true =>
    rw [hb] at h
    simp only [cond_true, Option.some.injEq] at h
    have : d = t := Nat.eq_of_beq_eq_true hb
    subst this; subst h
    rw [if_pos rfl, if_pos (by rw [S.size]; exact hd)]; rfl
  | false =>
    rw [hb] at h
    have hne : d ≠ t := Nat.ne_of_beq_eq_false hb
    rw [if_neg hne, ← Array.getD_eq_getD_getElem?]
    exact S.env t u h
theorem St.put_undef (S : St w0 ds n e Γ a w) {d : Nat} {v : Value} : St w0 ds n (e.filter fun p => !(Nat.beq p.1 d)) Γ (a.put (some d) v) w := by
  refine ⟨by rw [put_defers]; exact S.defers, by rw [put_size]; exact S.size, fun t u h => ?_, S.heap, S.amb⟩
  have key : ∀ (e : Env), look (e.filter fun p => !(Nat.beq p.1 d)) t = some u → d ≠ t ∧ look e t = some u := by
    intro e
    induction e with
    | nil => intro h; cases h
    | cons p e ih =>
      obtain ⟨k, v⟩ := p
      intro h
      simp only [List.filter_cons] at h
      cases hk : Nat.beq k d with
      | true =>
        simp only [hk, Bool.not_true, Bool.false_eq_true, if_false] at h
        obtain ⟨h1, h2⟩ := ih h
        refine ⟨h1, ?_⟩
        have : k = d := Nat.eq_of_beq_eq_true hk
        subst this
        simp only [look]
        have hb : Nat.beq k t = false := by
          cases hb : Nat.beq k t with
          | false => rfl
          | true => exact absurd (Nat.eq_of_beq_eq_true hb) h1
        rw [hb]; exact h2
      | false =>
        simp only [hk, Bool.not_false, if_true, look] at h
        cases hb : Nat.beq k t with
        | true =>
          rw [hb] at h
          have e1 : k = t := Nat.eq_of_beq_eq_true hb
          have e2 : k ≠ d := Nat.ne_of_beq_eq_false hk
          exact ⟨fun e3 => e2 (e1.trans e3.symm), by simp only [look, hb]; exact h⟩
        | false =>
          rw [hb] at h
          obtain ⟨h1, h2⟩ := ih h
          exact ⟨h1, by simp only [look, hb]; exact h2⟩
  obtain ⟨h1, h2⟩ := key e h
  rw [Array.getD_eq_getD_getElem?, put_get, if_neg h1, ← Array.getD_eq_getD_getElem?]
  exact S.env t u h2
theorem St.world {w' : World} {Γ' : List HProp} (S : St w0 ds n e Γ a w) (h : Sat Γ' (lh w')) (am : Amb w w') : St w0 ds n e Γ' a w' :=
  ⟨S.defers, S.size, S.env, h, S.amb.trans am⟩
theorem St.wanted {l : List Oper} {o : Oper} {b : Bool} (S : St w0 ds n e Γ a w) (h : gd l e o.guard = some b) : Region.wanted o (yielded l.toArray a.tmps) = b := by
  unfold Region.wanted
  cases hg : o.guard with
  | none => rw [hg] at h; simp only [gd, Option.some.injEq] at h; exact h
  | some g =>
    obtain ⟨j, want⟩ := g
    rw [hg] at h
    simp only [gd, nthO_eq] at h
    cases ht : (l[j]?).bind (·.dst) with
    | none => simp [ht] at h
    | some t =>
      simp only [ht] at h
      cases hl : look e t with
      | none => simp [hl] at h
      | some v =>
        have hv := S.env t v hl
        cases v <;> simp only [hl, Option.some.injEq] at h <;> try (cases h; done)
        case bool c =>
          have ht' : a.tmps[t]? = some (.bool c) := by
            rw [Array.getD_eq_getD_getElem?] at hv
            cases hh : a.tmps[t]? with
            | none => rw [hh] at hv; simp [undef] at hv
            | some x => rw [hh] at hv; simp at hv; rw [hv]
          simp only [yielded, List.getElem?_toArray, ht, Option.bind_some, ht']
          subst h
          cases c <;> cases want <;> rfl
        case tuple c =>
          have ht' : a.tmps[t]? = some (.tuple c) ∨ a.tmps[t]? = none := by
            rw [Array.getD_eq_getD_getElem?] at hv
            cases hh : a.tmps[t]? with
            | none => exact .inr rfl
            | some x => rw [hh] at hv; simp at hv; rw [hv]; exact .inl rfl
          simp only [yielded, List.getElem?_toArray, ht, Option.bind_some]
          rcases ht' with e | e <;> (rw [e]; subst h; rfl)
end

/-! ### The rules of code -/
section
variable {P : Program} {r : Option Nat} {Q : Exit → Act → World → Prop} {S : Act → World → Prop}
theorem Le.trans {S T X : Act → World → Prop} (h : Le S T) (k : Le T X) : Le S X := fun a w s => k a w (h a w s)
theorem c_seq {x y : Code} (h : Le S (x.wpIn (fz r) 0 P (Exit.then (y.wpIn (fz r) 0 P Q) Q))) : Le S ((Code.seq x y).wpIn (fz r) 0 P Q) := fun a w s => wpIn_seq (h a w s)
theorem c_block {id : Nat} {x : Code} (h : Le S (x.wpIn (fz r) 0 P (Exit.inBlock id Q))) : Le S ((Code.block id x).wpIn (fz r) 0 P Q) := fun a w s => wpIn_block (h a w s)
theorem c_skip (h : Le S (Q .normal)) : Le S (Code.skip.wpIn (fz r) 0 P Q) := fun a w s => wpIn_skip (h a w s)
theorem c_exit {id : Nat} (h : Le S (Q (.exit id))) : Le S ((Code.exit id).wpIn (fz r) 0 P Q) := fun a w s => wpIn_exit (h a w s)
theorem c_ret (h : Le S (Q .ret)) : Le S (Code.ret.wpIn (fz r) 0 P Q) := fun a w s => wpIn_ret (h a w s)
theorem k_then_n {K : Act → World → Prop} (h : Le S K) : Le S (Exit.then K Q .normal) := h
theorem k_then_ret {K : Act → World → Prop} (h : Le S (Q .ret)) : Le S (Exit.then K Q .ret) := h
theorem k_then_exit {K : Act → World → Prop} {id : Nat} (h : Le S (Q (.exit id))) : Le S (Exit.then K Q (.exit id)) := h
theorem k_blk_n {id : Nat} (h : Le S (Q .normal)) : Le S (Exit.inBlock id Q .normal) := h
theorem k_blk_ret {id : Nat} (h : Le S (Q .ret)) : Le S (Exit.inBlock id Q .ret) := h
theorem k_blk_here {id : Nat} (h : Le S (Q .normal)) : Le S (Exit.inBlock id Q (.exit id)) := fun a w s => by
  simp only [Exit.inBlock, if_true]; exact h a w s
theorem k_blk_out {id j : Nat} (hne : Nat.beq j id = false) (h : Le S (Q (.exit j))) : Le S (Exit.inBlock id Q (.exit j)) := fun a w s => by
  have : j ≠ id := Nat.ne_of_beq_eq_false hne
  simp only [Exit.inBlock, this, if_false]; exact h a w s
variable {w0 : World} {ds : List Deferred} {n : Nat} {e : Env} {Γ : List HProp}
theorem c_cond {c : Operand} {x y : Code} {b : Bool} (hc : ev e c = some (.bool b)) (ht : b = true → Le (St w0 ds n e Γ) (x.wpIn (fz r) 0 P Q)) (hf : b = false → Le (St w0 ds n e Γ) (y.wpIn (fz r) 0 P Q)) :
    Le (St w0 ds n e Γ) ((Code.cond c x y).wpIn (fz r) 0 P Q) := fun a w s => wpIn_cond_split (s.ev hc) (fun h => ht h a w s) (fun h => hf h a w s)
theorem c_cond_p {c : Operand} {x y : Code} {p : Prop} [Decidable p] (hc : ev e c = some (.bool (decide p))) (ht : p → Le (St w0 ds n e Γ) (x.wpIn (fz r) 0 P Q)) (hf : ¬ p → Le (St w0 ds n e Γ) (y.wpIn (fz r) 0 P Q)) :
    Le (St w0 ds n e Γ) ((Code.cond c x y).wpIn (fz r) 0 P Q) := c_cond hc (fun h => ht (of_decide_eq_true h)) (fun h => hf (of_decide_eq_false h))
theorem c_cond_t {c : Operand} {x y : Code} (hc : ev e c = some (.bool true)) (ht : Le (St w0 ds n e Γ) (x.wpIn (fz r) 0 P Q)) :
    Le (St w0 ds n e Γ) ((Code.cond c x y).wpIn (fz r) 0 P Q) := fun a w s => wpIn_cond_true (s.ev hc) (ht a w s)
theorem c_cond_f {c : Operand} {x y : Code} (hc : ev e c = some (.bool false)) (hf : Le (St w0 ds n e Γ) (y.wpIn (fz r) 0 P Q)) :
    Le (St w0 ds n e Γ) ((Code.cond c x y).wpIn (fz r) 0 P Q) := fun a w s => wpIn_cond_false (s.ev hc) (hf a w s)
theorem c_plain {id : Nat} {l : List Oper} (t : RT) (hc : chkLex 0 l.length t = true) (h : Le S (wpRT P r l.toArray (Q .normal) t)) : Le S ((Code.region id l.toArray false).wpIn (fz r) 0 P Q) :=
  fun a w s => wp_plain t (by simpa using hc) (h a w s)
theorem c_draw {id : Nat} {l : List Oper} (hm : P.follows .mixedOrders = true) (t : RT) (hc : chk l.toArray t = true) (h : Le (St w0 ds n e Γ) (wpRT P r l.toArray (Q .normal) t)) :
    Le (St w0 ds n e Γ) ((Code.region id l.toArray true).wpIn (fz r) 0 P Q) :=
  fun a w s => wp_draw hm t hc (h a _ ⟨s.defers, s.size, s.env, s.heap, ⟨s.amb.os, s.amb.tape, s.amb.output, s.amb.size⟩⟩)
/-- Fewer slots are kept in mind. -/
def EnvLe (e' e : Env) : Prop := ∀ t v, look e' t = some v → look e t = some v
theorem s_env {e' : Env} {X : Act → World → Prop} (h : EnvLe e' e) (k : Le (St w0 ds n e' Γ) X) : Le (St w0 ds n e Γ) X :=
  fun a w s => k a w ⟨s.defers, s.size, fun t v ht => s.env t v (h t v ht), s.heap, s.amb⟩
/-- A list of slots with what they hold. -/
def keepE (e : Env) : List Nat → Env
  | [] => []
  | t :: ts => match look e t with
    | some v => (t, v) :: keepE e ts
    | none => keepE e ts
theorem keepE_le (e : Env) : ∀ ts, EnvLe (keepE e ts) e
  | [], t, v, h => by cases h
  | k :: ts, t, v, h => by
    simp only [keepE] at h
    cases hk : look e k with
    | none => rw [hk] at h; exact keepE_le e ts t v h
    | some u =>
      simp only [hk, look] at h
      cases hb : Nat.beq k t with
      | true =>
        rw [hb] at h
        simp only [cond_true, Option.some.injEq] at h
        have := Nat.eq_of_beq_eq_true hb
        subst this; subst h; exact hk
      | false => rw [hb] at h; exact keepE_le e ts t v h
theorem s_keep {X : Act → World → Prop} (ts : List Nat) {e' : Env} (he : keepE e ts = e') (k : Le (St w0 ds n e' Γ) X) : Le (St w0 ds n e Γ) X :=
  s_env (he ▸ keepE_le e ts) k
theorem s_heap {Γ' : List HProp} {X : Act → World → Prop} (h : ∀ hp, Sat Γ hp → Sat Γ' hp) (k : Le (St w0 ds n e Γ') X) : Le (St w0 ds n e Γ) X :=
  fun a w s => k a w ⟨s.defers, s.size, s.env, h _ s.heap, s.amb⟩
theorem s_ex {α : Sort _} {A : α → HProp} {X : Act → World → Prop} (k : ∀ x, Le (St w0 ds n e (A x :: Γ)) X) : Le (St w0 ds n e ((fun h => ∃ x, A x h) :: Γ)) X :=
  fun a w s => by
    obtain ⟨h1, l1, ⟨x, a1⟩, s1⟩ := s.heap
    exact k x a w ⟨s.defers, s.size, s.env, ⟨h1, l1, a1, s1⟩, s.amb⟩
theorem s_pure {p : Prop} {A : HProp} {X : Act → World → Prop} (k : p → Le (St w0 ds n e (A :: Γ)) X) : Le (St w0 ds n e ((fun h => p ∧ A h) :: Γ)) X :=
  fun a w s => by
    obtain ⟨h1, l1, ⟨hp, a1⟩, s1⟩ := s.heap
    exact k hp a w ⟨s.defers, s.size, s.env, ⟨h1, l1, a1, s1⟩, s.amb⟩
theorem s_bun {Δ : List HProp} {X : Act → World → Prop} (k : Le (St w0 ds n e (Δ ++ Γ)) X) : Le (St w0 ds n e (Bun Δ :: Γ)) X := s_heap (fun _ h => Bun.unfold h) k
theorem s_fold {Δ : List HProp} {X : Act → World → Prop} (k : Le (St w0 ds n e (Bun Δ :: Γ)) X) : Le (St w0 ds n e (Δ ++ Γ)) X := s_heap (fun _ h => Bun.fold h) k
theorem s_take {Γ' : List HProp} {A : HProp} {X : Act → World → Prop} (t : Take Γ A Γ') (k : Le (St w0 ds n e (A :: Γ')) X) : Le (St w0 ds n e Γ) X := s_heap t k
/-- What the resources tell. -/
theorem s_know {p : Prop} {X : Act → World → Prop} (h : ∀ hp, Sat Γ hp → p) (k : p → Le (St w0 ds n e Γ) X) : Le (St w0 ds n e Γ) X := fun a w s => k (h _ s.heap) a w s
/-- A loop. -/
theorem c_loop {α : Type} {c : Code} (φ : α → Prop) (E : α → Env) (G : α → List HProp) (μ : α → Nat) (h0 : Le S (fun a w => ∃ x, φ x ∧ St w0 ds n (E x) (G x) a w))
    (round : ∀ x, φ x → Le (St w0 ds n (E x) (G x)) (c.wpIn (fz r) 0 P (Exit.then (fun a w => ∃ y, (φ y ∧ μ y < μ x) ∧ St w0 ds n (E y) (G y) a w) Q))) : Le S ((Code.loop c).wpIn (fz r) 0 P Q) := by
  intro a w s b k cs hro hb hr
  obtain ⟨x0, hx0, s0⟩ := h0 a w s
  have key : ∀ m x a w, μ x = m → φ x → St w0 ds n (E x) (G x) a w →
      ∃ e a' w', Q e a' w' ∧ ArrivesIn (Machine.fenced P (fz r)) P (lone (b.atR a (.code c :: .inLoop c :: k)) cs w) b k cs e a' w' := by
    intro m
    induction m using Nat.strongRecOn with
    | _ m ih =>
      intro x a w hm hx sx
      obtain ⟨ex, a₁, w₁, hq, harr⟩ := round x hx a w sx b (.inLoop c :: k) cs hro hb hr
      cases ex with
      | normal =>
        obtain ⟨y, ⟨hy, hlt⟩, sy⟩ := hq
        obtain ⟨e₂, a₂, w₂, hq₂, harr₂⟩ := ih (μ y) (hm ▸ hlt) y a₁ w₁ rfl hy sy
        exact ⟨e₂, a₂, w₂, hq₂, .of_steps (StepsIn.trans harr (.one (fenced_calm hb hr rfl) stepR_inLoop)) harr₂⟩
      | exit id => exact ⟨_, a₁, w₁, hq, .pass (x := .inLoop c) rfl (fun _ _ => .inl (by simp)) harr⟩
      | goto l => exact ⟨_, a₁, w₁, hq, .pass (x := .inLoop c) rfl (fun _ _ => .inl (by simp)) harr⟩
      | ret => exact ⟨_, a₁, w₁, hq, .pass (x := .inLoop c) rfl (fun _ _ => .inl (by simp)) harr⟩
      | panic ch => exact ⟨_, a₁, w₁, hq, .pass (x := .inLoop c) rfl (fun _ _ => .inl (by simp)) harr⟩
      | outgrown => exact ⟨_, a₁, w₁, hq, .pass (x := .inLoop c) rfl (fun _ _ => .inl (by simp)) harr⟩
  obtain ⟨e', a', w', hq, harr⟩ := key _ x0 a w rfl hx0 s0
  exact ⟨e', a', w', hq, .of_steps (.one (fenced_calm hb hr rfl) stepR_loop) harr⟩
end
end Go.Ab
