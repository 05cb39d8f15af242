/- The engine, part N: lists that lie apart: written full with marks of their own, grown, looked at. -/
import Derived.Test.YtkoclbjiaofkhaaEngM
set_option linter.unusedVariables false
set_option linter.unusedSimpArgs false
namespace Go.Ab
open Go

/-- A list that lies somewhere: where, how much room, what. -/
abbrev LstA (α : Type) := Option Addr × Nat × List α
def encH {α : Type} (x : LstA α) : List Value := [.slice x.1 x.2.2.length x.2.1]
theorem encH_len {α : Type} : ∀ x : LstA α, (encH x).length = 1 := fun _ => rfl
theorem encH_one {α : Type} : ∀ x : LstA α, (encH x).all Value.oneCell' = true := fun _ => rfl
/-- Marks in a row. -/
def mks {α : Type} (f : Nat → α) (n : Nat) : List α := (List.range n).map f
theorem mks_len {α : Type} (f : Nat → α) (n : Nat) : (mks f n).length = n := by simp [mks]
theorem mks_get {α : Type} (f : Nat → α) {n k : Nat} (h : k < n) : (mks f n)[k]? = some (f k) := by simp [mks, h]
theorem mks_next {α : Type} (f : Nat → α) (n : Nat) : mks f n ++ [f n] = mks f (n + 1) := by simp [mks, List.range_succ]
theorem mks_of {α : Type} {f : Nat → α} {n : Nat} {l : List α} (hl : l.length = n) (h : ∀ q, q < n → l[q]? = some (f q)) : l = mks f n := by
  apply List.ext_getElem?
  intro q
  by_cases hq : q < n
  · rw [h q hq, mks_get f hq]
  · rw [List.getElem?_eq_none (by omega), List.getElem?_eq_none (by rw [mks_len]; omega)]
theorem mk2_lo {α : Type} {f g : Nat → α} {n m k : Nat} (h : k < n) : (mks f n ++ mks g m)[k]? = some (f k) := by
  rw [List.getElem?_append_left (by rw [mks_len]; exact h), mks_get f h]
theorem mk2_hi {α : Type} {f g : Nat → α} {n m k : Nat} (h : n ≤ k) (h2 : k < n + m) : (mks f n ++ mks g m)[k]? = some (g (k - n)) := by
  rw [List.getElem?_append_right (by rw [mks_len]; exact h), mks_len, mks_get g (by omega)]
section
variable {α : Type} {sz : Nat} {enc : α → List Value}
abbrev owA (sz : Nat) (enc : α → List Value) (x : LstA α) : HProp := own sz enc x.1 x.2.1 x.2.2
/-- The lists ahead of i are written full. -/
structure WIA (wm : Nat → Nat → α) (T U : List (LstA α)) (i : Nat) : Prop where
  len : U.length = T.length
  same : ∀ (j : Nat) (x y : LstA α), T[j]? = some x → U[j]? = some y → y.1 = x.1 ∧ y.2.1 = x.2.1 ∧ y.2.2.length = x.2.2.length ∧ (j < i → y.2.2 = mks (wm j) x.2.2.length)
theorem wia_start (wm : Nat → Nat → α) (T : List (LstA α)) : WIA wm T T 0 := ⟨rfl, fun j x y h1 h2 => by rw [h1] at h2; cases h2; exact ⟨rfl, rfl, rfl, fun h => by omega⟩⟩
theorem wia_next {wm : Nat → Nat → α} {T U : List (LstA α)} {i : Nat} {x y : LstA α} (h : WIA wm T U i) (hx : T[i]? = some x) (hy : U[i]? = some y) (l : List α) (hl : l = mks (wm i) x.2.2.length) : WIA wm T (U.set i (y.1, y.2.1, l)) (i + 1) := by
  have hi : i < U.length := (List.getElem?_eq_some_iff.1 hy).1
  refine ⟨by rw [List.length_set]; exact h.len, fun j a b ha hb => ?_⟩
  by_cases hji : j = i
  · subst hji
    rw [List.getElem?_set_self hi] at hb; cases hb
    rw [hx] at ha; cases ha
    obtain ⟨h1, h2, h3, -⟩ := h.same j _ _ hx hy
    exact ⟨h1, h2, by rw [hl, mks_len], fun _ => hl⟩
  · rw [List.getElem?_set_ne (Ne.symm hji)] at hb
    obtain ⟨h1, h2, h3, h4⟩ := h.same j a b ha hb
    exact ⟨h1, h2, h3, fun hj => h4 (by omega)⟩
abbrev PLA (α : Type) := LstA α × LstA α
abbrev f2A (sz : Nat) (enc : α → List Value) (p : PLA α) : HProp := app2 sz enc p.1.1 p.1.2.1 p.1.2.2 p.2.1 p.2.2.1 p.2.2.2
theorem s_f2A {w0 : World} {ds : List Deferred} {n : Nat} {e : Env} {Γ Γ' : List HProp} {X : Act → World → Prop} {M : List (PLA α)} {p : Nat} {x : PLA α} (tk : Take Γ (bigS (f2A sz enc) M) Γ') (hx : M[p]? = some x) (hpre : x.2.2.2.take x.1.2.2.length = x.1.2.2)
    (k : ((x.2.1 = none → x.2.2.2 = []) ∧ (x.2.1 ≠ none → ∃ b off, x.2.1 = some ⟨b, off, none⟩)) ∧ ((x.1.1 = none → x.1.2.2 = []) ∧ (x.1.1 ≠ none → ∃ b off, x.1.1 = some ⟨b, off, none⟩)) → Le (St w0 ds n e Γ) X) : Le (St w0 ds n e Γ) X :=
  s_know (fun h s => app2_facts hpre (big_take (f := f2A sz enc) hx (tk h s))) k
/-- What has been grown. -/
structure MOA (wm wv : Nat → Nat → α) (R : Nat) (T : List (LstA α)) (M : List (PLA α)) (i : Nat) : Prop where
  len : M.length = i
  at_ : ∀ (j : Nat) (x : LstA α) (p : PLA α), T[j]? = some x → M[j]? = some p → p.1 = (x.1, x.2.1, mks (wm j) x.2.2.length) ∧ p.2.2.2 = mks (wm j) x.2.2.length ++ mks (wv j) R
theorem moa_next {wm wv : Nat → Nat → α} {R : Nat} {T : List (LstA α)} {M : List (PLA α)} {i : Nat} {x : LstA α} {p : PLA α} (h : MOA wm wv R T M i) (hx : T[i]? = some x) (h1 : p.1 = (x.1, x.2.1, mks (wm i) x.2.2.length)) (h2 : p.2.2.2 = mks (wm i) x.2.2.length ++ mks (wv i) R) : MOA wm wv R T (M ++ [p]) (i + 1) := by
  refine ⟨by rw [List.length_append, h.len]; rfl, fun j y q hy hq => ?_⟩
  by_cases hj : j < i
  · rw [List.getElem?_append_left (by rw [h.len]; exact hj)] at hq
    exact h.at_ j y q hy hq
  · rw [List.getElem?_append_right (by rw [h.len]; omega), h.len] at hq
    obtain rfl : j = i := by
      rcases Nat.lt_or_ge (j - i) 1 with h3 | h3
      · omega
      · rw [List.getElem?_eq_none (by simpa using h3)] at hq; cases hq
    simp at hq; subst hq
    rw [hx] at hy; cases hy
    exact ⟨h1, h2⟩
/-- Of two lists of lists the second place by place: fits the rows of the first. -/
theorem mks_take (f : Nat → α) (n : Nat) (l : List α) : (mks f n ++ l).take (mks f n).length = mks f n := by rw [List.take_left]
theorem big_split {β : Type} {f : β → HProp} {L : List β} {Γ : List HProp} {h : Hp} (s : Sat (L.map f ++ Γ) h) : Sat (bigS f L :: Γ) h := Bun.fold (Γ := L.map f) s
end
end Go.Ab
namespace Go.Ab
open Go
section
variable {α : Type} {sz : Nat} {enc : α → List Value}
theorem s_owA {w0 : World} {ds : List Deferred} {n : Nat} {e : Env} {Γ Γ' : List HProp} {X : Act → World → Prop} {T : List (LstA α)} {p : Nat} {x : LstA α} (tk : Take Γ (bigS (owA sz enc) T) Γ') (hx : T[p]? = some x)
    (k : (x.1 = none → x.2.2 = []) → (x.1 ≠ none → ∃ b off, x.1 = some ⟨b, off, none⟩) → Le (St w0 ds n e Γ) X) : Le (St w0 ds n e Γ) X :=
  s_know (p := (x.1 = none → x.2.2 = []) ∧ (x.1 ≠ none → ∃ b off, x.1 = some ⟨b, off, none⟩)) (fun h s => by
    obtain ⟨h1, h2, h3⟩ := own_le (big_take (f := owA sz enc) hx (tk h s))
    exact ⟨fun e => (h2 e).1, h3⟩) (fun h => k h.1 h.2)
theorem two_next {T : List (LstA α)} {k : Nat} {A B : List α} {a b : LstA α} (hl : T.length = 2 * k) (h : ∀ (j : Nat) (x : LstA α), T[j]? = some x → x.2.2 = if j % 2 = 0 then A else B) (ha : a.2.2 = A) (hb : b.2.2 = B) : ∀ (j : Nat) (x : LstA α), (T ++ [a, b])[j]? = some x → x.2.2 = if j % 2 = 0 then A else B := by
  intro j x hx
  by_cases hj : j < T.length
  · rw [List.getElem?_append_left hj] at hx; exact h j x hx
  · rw [List.getElem?_append_right (by omega), hl] at hx
    have hlt := (List.getElem?_eq_some_iff.1 hx).1
    simp at hlt
    rcases (show j = 2 * k ∨ j = 2 * k + 1 by omega) with e | e
    · subst e; rw [Nat.sub_self] at hx; simp at hx; subst hx; rw [ha, if_pos (by omega)]
    · subst e; rw [show 2 * k + 1 - 2 * k = 1 from by omega] at hx; simp at hx; subst hx; rw [hb, if_neg (by omega)]
end
end Go.Ab
namespace Go.Ab
open Go
/-! Bits. -/
def xorV (k : IntKind) (x y : Int) : Int := k.wrap ((BitVec.ofInt k.bits x ^^^ BitVec.ofInt k.bits y).toNat : Int)
def andV (k : IntKind) (x y : Int) : Int := k.wrap ((BitVec.ofInt k.bits x &&& BitVec.ofInt k.bits y).toNat : Int)
def orV (k : IntKind) (x y : Int) : Int := k.wrap ((BitVec.ofInt k.bits x ||| BitVec.ofInt k.bits y).toNat : Int)
section
variable {P : Program}
theorem b_xor (tx : TypeId) (k' : IntKind) (p q : Int) (w : World) : (binOp .xor tx (.int k' p) (.int k' q)).run P w = .ok (.int k' (xorV k' p q)) w := by simp [binOp, Op.intBits, xorV]
theorem b_and (tx : TypeId) (k' : IntKind) (p q : Int) (w : World) : (binOp .and tx (.int k' p) (.int k' q)).run P w = .ok (.int k' (andV k' p q)) w := by simp [binOp, Op.intBits, andV]
theorem b_or (tx : TypeId) (k' : IntKind) (p q : Int) (w : World) : (binOp .or tx (.int k' p) (.int k' q)).run P w = .ok (.int k' (orV k' p q)) w := by simp [binOp, Op.intBits, orV]
end
section
variable {w0 : World} {ds : List Deferred} {n : Nat} {e : Env} {Γ Γ' : List HProp} {X : Act → World → Prop}
/-- What each of many resources tells. -/
theorem big_all {β : Type} {f : β → HProp} {P : β → Prop} (hp : ∀ x h, f x h → P x) : ∀ (L : List β) (Γ : List HProp) (h : Hp), Sat (bigS f L :: Γ) h → ∀ x ∈ L, P x := fun L Γ h s x hx => by
  obtain ⟨i, hi⟩ := List.getElem?_of_mem hx
  obtain ⟨h1, l1, a1⟩ := (big_take hi s).head
  exact hp x h1 a1
theorem s_bigall {β : Type} {f : β → HProp} {L : List β} {P : β → Prop} (hp : ∀ x h, f x h → P x) (tk : Take Γ (bigS f L) Γ') (k : (∀ x ∈ L, P x) → Le (St w0 ds n e Γ) X) : Le (St w0 ds n e Γ) X :=
  s_know (fun h s => big_all hp L Γ' h (tk h s)) k
end
end Go.Ab
