/- The engine, part D: the quiet operations. -/
import Derived.Test.YtkoclbjiaofkhaaEngC
set_option linter.unusedVariables false
set_option linter.unusedSimpArgs false
namespace Go.Ab
open Go

section
variable {P : Program} {r : Option Nat} {w0 : World} {ds : List Deferred} {n : Nat} {e : Env} {Γ : List HProp} {K : Act → World → Prop} {l : List Oper} {i : Nat} {t : RT}

/-- A quiet operation that does not look into memory. -/
theorem q_pure {o : Oper} {d : Nat} {v : Value} (ho : nthO l i = some o) (hg : gd l e o.guard = some true) (hd : o.dst = some d) (hn : Nat.blt d n = true) (hr : reads o = false)
    (hnd : ∀ c, o.op ≠ .defer c) (hv : ∀ a w, St w0 ds n e Γ a w → ∀ w', (execOp a.eval o).run P w' = .ok (.value v) w')
    (k : Le (St w0 ds n ((d, v) :: e) Γ) (wpRT P r l.toArray K t)) : Le (St w0 ds n e Γ) (wpRT P r l.toArray K (.q i t)) := by
  intro a w s
  refine ⟨o, d, by simpa [nthO_eq] using ho, hd, ?_, .inl ⟨s.wanted hg, v, ?_, k _ _ (s.put hn)⟩⟩
  · have : d + 1 ≤ n := by simpa [Nat.blt] using hn
    rw [s.size]; exact this
  · unfold yq
    rw [if_neg (by simp [hr])]
    intro w'
    rw [Oper.semAt_eq _ _ _ hnd]
    exact hv a w s w'
/-- A quiet operation that looks into memory. -/
theorem q_read {o : Oper} {d : Nat} {v : Value} (ho : nthO l i = some o) (hg : gd l e o.guard = some true) (hd : o.dst = some d) (hn : Nat.blt d n = true) (hr : reads o = true)
    (hnd : ∀ c, o.op ≠ .defer c) (hv : ∀ a w, St w0 ds n e Γ a w → (execOp a.eval o).run P w = .ok (.value v) w)
    (k : Le (St w0 ds n ((d, v) :: e) Γ) (wpRT P r l.toArray K t)) : Le (St w0 ds n e Γ) (wpRT P r l.toArray K (.q i t)) := by
  intro a w s
  refine ⟨o, d, by simpa [nthO_eq] using ho, hd, ?_, .inl ⟨s.wanted hg, v, ?_, k _ _ (s.put hn)⟩⟩
  · have : d + 1 ≤ n := by simpa [Nat.blt] using hn
    rw [s.size]; exact this
  · unfold yq
    rw [if_pos hr, Oper.semAt_eq _ _ _ hnd]
    exact hv a w s
/-- An operation that is not wanted. -/
theorem q_skip {o : Oper} {d : Nat} (ho : nthO l i = some o) (hg : gd l e o.guard = some false) (hd : o.dst = some d) (hn : Nat.blt d n = true)
    (k : Le (St w0 ds n ((d, undef) :: e) Γ) (wpRT P r l.toArray K t)) : Le (St w0 ds n e Γ) (wpRT P r l.toArray K (.q i t)) := by
  intro a w s
  refine ⟨o, d, by simpa [nthO_eq] using ho, hd, ?_, .inr ⟨s.wanted hg, k _ _ (s.put hn)⟩⟩
  have : d + 1 ≤ n := by simpa [Nat.blt] using hn
  rw [s.size]; exact this
theorem l_skip {o : Oper} {d : Nat} {fl : List Nat} (ho : nthO l i = some o) (hg : gd l e o.guard = some false) (hd : o.dst = some d) (hn : Nat.blt d n = true)
    (k : Le (St w0 ds n ((d, undef) :: e) Γ) (wpRT P r l.toArray K t)) : Le (St w0 ds n e Γ) (wpRT P r l.toArray K (.l i fl t)) := by
  intro a w s
  refine ⟨o, by simpa [nthO_eq] using ho, .inr ⟨s.wanted hg, ?_⟩⟩
  rw [hd]; exact k _ _ (s.put hn)
theorem l_skip_n {o : Oper} {fl : List Nat} (ho : nthO l i = some o) (hg : gd l e o.guard = some false) (hd : o.dst = none)
    (k : Le (St w0 ds n e Γ) (wpRT P r l.toArray K t)) : Le (St w0 ds n e Γ) (wpRT P r l.toArray K (.l i fl t)) := by
  intro a w s
  refine ⟨o, by simpa [nthO_eq] using ho, .inr ⟨s.wanted hg, ?_⟩⟩
  rw [hd]; exact k _ _ s
theorem r_done (k : Le (St w0 ds n e Γ) K) : Le (St w0 ds n e Γ) (wpRT P r l.toArray K .done) := k
theorem r_alt {x y : RT} {S : Act → World → Prop} (h1 : Le S (wpRT P r l.toArray K x)) (h2 : Le S (wpRT P r l.toArray K y)) : Le S (wpRT P r l.toArray K (.alt x y)) := fun a w s => ⟨h1 a w s, h2 a w s⟩
/-- A slot holds a Bool that is not known: both ways. -/
theorem s_bool {X : Act → World → Prop} (d : Nat) {b : Bool} (h : look e d = some (.bool b)) (ht : b = true → Le (St w0 ds n ((d, .bool true) :: e) Γ) X) (hf : b = false → Le (St w0 ds n ((d, .bool false) :: e) Γ) X) : Le (St w0 ds n e Γ) X := by
  have key : ∀ c, b = c → EnvLe ((d, .bool c) :: e) e := by
    intro c hc t v hv
    simp only [look] at hv
    cases hb : Nat.beq d t with
    | true =>
      rw [hb] at hv
      have := Nat.eq_of_beq_eq_true hb
      subst this
      simp only [cond_true, Option.some.injEq] at hv
      rw [h, hc, hv]
    | false => rw [hb] at hv; exact hv
  cases b with
  | true => exact s_env (key true rfl) (ht rfl)
  | false => exact s_env (key false rfl) (hf rfl)
theorem s_bool_p {X : Act → World → Prop} (d : Nat) {p : Prop} [Decidable p] (h : look e d = some (.bool (decide p))) (ht : p → Le (St w0 ds n ((d, .bool true) :: e) Γ) X) (hf : ¬ p → Le (St w0 ds n ((d, .bool false) :: e) Γ) X) : Le (St w0 ds n e Γ) X :=
  s_bool d h (fun h => ht (of_decide_eq_true h)) (fun h => hf (of_decide_eq_false h))

variable {d : Nat} {ty : TypeId} {pos : String} {af : Array Edge} {g : Option (Nat × Bool)}
theorem q_move {x : Operand} {v : Value} (ho : nthO l i = some ⟨some d, .move x, ty, pos, af, g⟩) (hg : gd l e g = some true) (hn : Nat.blt d n = true) (hx : ev e x = some v)
    (k : Le (St w0 ds n ((d, v) :: e) Γ) (wpRT P r l.toArray K t)) : Le (St w0 ds n e Γ) (wpRT P r l.toArray K (.q i t)) :=
  q_pure ho hg rfl hn rfl (fun _ h => by cases h) (fun a w s w' => by simp only [execOp, s.ev hx]; rfl) k
theorem q_assign {x : Operand} {v : Value} (ho : nthO l i = some ⟨some d, .assign x, ty, pos, af, g⟩) (hg : gd l e g = some true) (hn : Nat.blt d n = true) (hx : ev e x = some v)
    (k : Le (St w0 ds n ((d, v) :: e) Γ) (wpRT P r l.toArray K t)) : Le (St w0 ds n e Γ) (wpRT P r l.toArray K (.q i t)) :=
  q_pure ho hg rfl hn rfl (fun _ h => by cases h) (fun a w s w' => by simp only [execOp, s.ev hx]; rfl) k
theorem q_pick_t {c x y : Operand} {v : Value} (ho : nthO l i = some ⟨some d, .pick c x y, ty, pos, af, g⟩) (hg : gd l e g = some true) (hn : Nat.blt d n = true) (hc : ev e c = some (.bool true)) (hx : ev e x = some v)
    (k : Le (St w0 ds n ((d, v) :: e) Γ) (wpRT P r l.toArray K t)) : Le (St w0 ds n e Γ) (wpRT P r l.toArray K (.q i t)) :=
  q_pure ho hg rfl hn rfl (fun _ h => by cases h) (fun a w s w' => by simp [execOp, s.ev hc, s.ev hx, asBool]) k
theorem q_pick_f {c x y : Operand} {v : Value} (ho : nthO l i = some ⟨some d, .pick c x y, ty, pos, af, g⟩) (hg : gd l e g = some true) (hn : Nat.blt d n = true) (hc : ev e c = some (.bool false)) (hx : ev e y = some v)
    (k : Le (St w0 ds n ((d, v) :: e) Γ) (wpRT P r l.toArray K t)) : Le (St w0 ds n e Γ) (wpRT P r l.toArray K (.q i t)) :=
  q_pure ho hg rfl hn rfl (fun _ h => by cases h) (fun a w s w' => by simp [execOp, s.ev hc, s.ev hx, asBool]) k
theorem q_nil_p {x : Operand} {p : Addr} (ho : nthO l i = some ⟨some d, .nilCheck x, ty, pos, af, g⟩) (hg : gd l e g = some true) (hn : Nat.blt d n = true) (hx : ev e x = some (.pointer (some p)))
    (k : Le (St w0 ds n ((d, .pointer (some p)) :: e) Γ) (wpRT P r l.toArray K t)) : Le (St w0 ds n e Γ) (wpRT P r l.toArray K (.q i t)) :=
  q_pure ho hg rfl hn rfl (fun _ h => by cases h) (fun a w s w' => by simp only [execOp, s.ev hx]; rfl) k
theorem q_nil_f {x : Operand} {f : FuncId} {fi ca : Array Value} (ho : nthO l i = some ⟨some d, .nilCheck x, ty, pos, af, g⟩) (hg : gd l e g = some true) (hn : Nat.blt d n = true) (hx : ev e x = some (.func (.func f) fi ca))
    (k : Le (St w0 ds n ((d, .func (.func f) fi ca) :: e) Γ) (wpRT P r l.toArray K t)) : Le (St w0 ds n e Γ) (wpRT P r l.toArray K (.q i t)) :=
  q_pure ho hg rfl hn rfl (fun _ h => by cases h) (fun a w s w' => by simp only [execOp, s.ev hx]; rfl) k
theorem q_not {x : Operand} {ty' : TypeId} {b : Bool} (ho : nthO l i = some ⟨some d, .unOp .not ty' x, ty, pos, af, g⟩) (hg : gd l e g = some true) (hn : Nat.blt d n = true) (hx : ev e x = some (.bool b))
    (k : Le (St w0 ds n ((d, .bool (!b)) :: e) Γ) (wpRT P r l.toArray K t)) : Le (St w0 ds n e Γ) (wpRT P r l.toArray K (.q i t)) :=
  q_pure ho hg rfl hn rfl (fun _ h => by cases h) (fun a w s w' => by simp [execOp, s.ev hx, Op.unary]) k
theorem q_neg {x : Operand} {ty' : TypeId} {k' : IntKind} {z : Int} (ho : nthO l i = some ⟨some d, .unOp .neg ty' x, ty, pos, af, g⟩) (hg : gd l e g = some true) (hn : Nat.blt d n = true) (hx : ev e x = some (.int k' z))
    (k : Le (St w0 ds n ((d, .int k' (k'.wrap (0 - z))) :: e) Γ) (wpRT P r l.toArray K t)) : Le (St w0 ds n e Γ) (wpRT P r l.toArray K (.q i t)) :=
  q_pure ho hg rfl hn rfl (fun _ h => by cases h) (fun a w s w' => by simp [execOp, s.ev hx, Op.unary, Op.intArith]) k
/-- Operations on two integers of one kind. -/
theorem q_int {op : BinOp} {x y : Operand} {tx tz : TypeId} {k' : IntKind} {p q : Int} {v : Value} (ho : nthO l i = some ⟨some d, .binOp op tx x y tz, ty, pos, af, g⟩) (hg : gd l e g = some true) (hn : Nat.blt d n = true)
    (hx : ev e x = some (.int k' p)) (hy : ev e y = some (.int k' q)) (hb : ∀ w, (binOp op tx (.int k' p) (.int k' q)).run P w = .ok v w)
    (k : Le (St w0 ds n ((d, v) :: e) Γ) (wpRT P r l.toArray K t)) : Le (St w0 ds n e Γ) (wpRT P r l.toArray K (.q i t)) :=
  q_pure ho hg rfl hn rfl (fun _ h => by cases h) (fun a w s w' => by
    simp only [execOp, s.ev hx, s.ev hy]
    have he : ∀ w, (eqGuard op tx x y (.int k' p) (.int k' q)).run P w = .ok () w := by
      intro w; unfold eqGuard; cases op <;> simp
    simp [he, hb]) k
theorem b_add (tx : TypeId) (k' : IntKind) (p q : Int) (w : World) : (binOp .add tx (.int k' p) (.int k' q)).run P w = .ok (.int k' (k'.wrap (p + q))) w := by simp [binOp, Op.intArith]
theorem b_sub (tx : TypeId) (k' : IntKind) (p q : Int) (w : World) : (binOp .sub tx (.int k' p) (.int k' q)).run P w = .ok (.int k' (k'.wrap (p - q))) w := by simp [binOp, Op.intArith]
theorem b_mul (tx : TypeId) (k' : IntKind) (p q : Int) (w : World) : (binOp .mul tx (.int k' p) (.int k' q)).run P w = .ok (.int k' (k'.wrap (p * q))) w := by simp [binOp, Op.intArith]
theorem b_eql (tx : TypeId) (k' : IntKind) (p q : Int) (w : World) : (binOp .eql tx (.int k' p) (.int k' q)).run P w = .ok (.bool (decide (p = q))) w := by
  have : (p == q) = decide (p = q) := by rw [Bool.eq_iff_iff]; simp
  simp [binOp, Op.intCmp, this]
theorem b_neq (tx : TypeId) (k' : IntKind) (p q : Int) (w : World) : (binOp .neq tx (.int k' p) (.int k' q)).run P w = .ok (.bool (decide (p ≠ q))) w := by
  have : (p != q) = decide (p ≠ q) := by rw [Bool.eq_iff_iff]; simp
  simp [binOp, Op.intCmp, this]
theorem b_lss (tx : TypeId) (k' : IntKind) (p q : Int) (w : World) : (binOp .lss tx (.int k' p) (.int k' q)).run P w = .ok (.bool (decide (p < q))) w := by simp [binOp, Op.intCmp]
theorem b_leq (tx : TypeId) (k' : IntKind) (p q : Int) (w : World) : (binOp .leq tx (.int k' p) (.int k' q)).run P w = .ok (.bool (decide (p ≤ q))) w := by simp [binOp, Op.intCmp]
theorem b_gtr (tx : TypeId) (k' : IntKind) (p q : Int) (w : World) : (binOp .gtr tx (.int k' p) (.int k' q)).run P w = .ok (.bool (decide (q < p))) w := by simp [binOp, Op.intCmp]
theorem b_geq (tx : TypeId) (k' : IntKind) (p q : Int) (w : World) : (binOp .geq tx (.int k' p) (.int k' q)).run P w = .ok (.bool (decide (q ≤ p))) w := by simp [binOp, Op.intCmp]

/-! Numbers that fit: no wrap. -/
def fits (k : IntKind) (z : Int) : Prop := k.min ≤ z ∧ z ≤ k.max
theorem wrap_fits {k : IntKind} {z : Int} (h : fits k z) : k.wrap z = z := by
  unfold fits at h
  unfold IntKind.wrap
  cases k <;> simp [IntKind.min, IntKind.max, IntKind.signed, IntKind.bits] at h ⊢ <;> omega
theorem fits_i64 {z : Int} (h1 : -9223372036854775808 ≤ z) (h2 : z ≤ 9223372036854775807) : fits .i64 z := by
  simp [fits, IntKind.min, IntKind.max, IntKind.signed, IntKind.bits]; omega
theorem fits_u64 {z : Int} (h1 : 0 ≤ z) (h2 : z ≤ 18446744073709551615) : fits .u64 z := by
  simp [fits, IntKind.min, IntKind.max, IntKind.signed, IntKind.bits]; omega
theorem fits_u32 {z : Int} (h1 : 0 ≤ z) (h2 : z ≤ 4294967295) : fits .u32 z := by
  simp [fits, IntKind.min, IntKind.max, IntKind.signed, IntKind.bits]; omega
theorem fits_u8 {z : Int} (h1 : 0 ≤ z) (h2 : z ≤ 255) : fits .u8 z := by
  simp [fits, IntKind.min, IntKind.max, IntKind.signed, IntKind.bits]; omega
theorem b_add' (tx : TypeId) {k' : IntKind} {p q : Int} (h : fits k' (p + q)) (w : World) : (binOp .add tx (.int k' p) (.int k' q)).run P w = .ok (.int k' (p + q)) w := by rw [b_add, wrap_fits h]
theorem b_sub' (tx : TypeId) {k' : IntKind} {p q : Int} (h : fits k' (p - q)) (w : World) : (binOp .sub tx (.int k' p) (.int k' q)).run P w = .ok (.int k' (p - q)) w := by rw [b_sub, wrap_fits h]
theorem b_mul' (tx : TypeId) {k' : IntKind} {p q : Int} (h : fits k' (p * q)) (w : World) : (binOp .mul tx (.int k' p) (.int k' q)).run P w = .ok (.int k' (p * q)) w := by rw [b_mul, wrap_fits h]
end
end Go.Ab
