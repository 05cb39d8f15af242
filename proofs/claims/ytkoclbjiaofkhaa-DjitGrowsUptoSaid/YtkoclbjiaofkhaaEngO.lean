/- The engine, part O: loops walked round by round. -/
import Derived.Test.YtkoclbjiaofkhaaEngN
import Derived.LoopNIn
set_option linter.unusedVariables false
namespace Go.Ab
open Go
variable {P : Program} {r : Option Nat} {c : Code} {S : Act → World → Prop} {Q : Exit → Act → World → Prop}
theorem c_unroll (m : Nat) (h : Le S (c.wpIn (fz r) 0 P (Exit.then (Code.roundsIn (fz r) 0 P c Q m) Q))) : Le S ((Code.loop c).wpIn (fz r) 0 P Q) := fun a w s => wpIn_loop_rounds (m + 1) (h a w s)
theorem c_round {m : Nat} (h : Le S (c.wpIn (fz r) 0 P (Exit.then (Code.roundsIn (fz r) 0 P c Q m) Q))) : Le S (Code.roundsIn (fz r) 0 P c Q (m + 1)) := h
/-- Are two pointers the same, one of which is nil? -/
theorem run_equal_pn {tx E : TypeId} {ao bo : Option Addr} (hu : P.underlying tx = some (.pointer E)) (hz : ao = none ∨ bo = none) (w : World) : (Op.equal tx (.pointer ao) (.pointer bo)).run P w = .ok (ao == bo) w := by
  have key : ∀ k, (Op.equalIn (k + 1) tx (.pointer ao) (.pointer bo)).run P w = .ok (ao == bo) w := by
    intro k
    simp only [Op.equalIn, Sem.run_bind, run_underlying hu, Result.andThen_ok]
    rcases hz with rfl | rfl
    · cases bo <;> rfl
    · cases ao <;> rfl
  exact key 9999
section
variable {w0 : World} {ds : List Deferred} {n : Nat} {e : Env} {Γ : List HProp} {K : Act → World → Prop} {l : List Oper} {i : Nat} {t : RT}
variable {d : Nat} {ty : TypeId} {pos : String} {af : Array Edge} {g : Option (Nat × Bool)}
theorem q_eqp {tx tz : TypeId} {x y : Operand} {ao bo : Option Addr} {E : TypeId} (ho : nthO l i = some ⟨some d, .binOp .eql tx x y tz, ty, pos, af, g⟩) (hg : gd l e g = some true) (hn : Nat.blt d n = true) (hx : ev e x = some (.pointer ao)) (hy : ev e y = some (.pointer bo)) (hu : P.underlying tx = some (.pointer E)) (hz : ao = none ∨ bo = none)
    (k : Le (St w0 ds n ((d, .bool (ao == bo)) :: e) Γ) (wpRT P r l.toArray K t)) : Le (St w0 ds n e Γ) (wpRT P r l.toArray K (.q i t)) :=
  q_pure ho hg rfl hn rfl (fun _ h => by cases h) (fun a w s w' => by
    simp only [execOp, s.ev hx, s.ev hy, eqGuard, Sem.run_bind]
    simp [binOp, run_equal_pn hu hz]) k
theorem q_nep {tx tz : TypeId} {x y : Operand} {ao bo : Option Addr} {E : TypeId} (ho : nthO l i = some ⟨some d, .binOp .neq tx x y tz, ty, pos, af, g⟩) (hg : gd l e g = some true) (hn : Nat.blt d n = true) (hx : ev e x = some (.pointer ao)) (hy : ev e y = some (.pointer bo)) (hu : P.underlying tx = some (.pointer E)) (hz : ao = none ∨ bo = none)
    (k : Le (St w0 ds n ((d, .bool (!(ao == bo))) :: e) Γ) (wpRT P r l.toArray K t)) : Le (St w0 ds n e Γ) (wpRT P r l.toArray K (.q i t)) :=
  q_pure ho hg rfl hn rfl (fun _ h => by cases h) (fun a w s w' => by
    simp only [execOp, s.ev hx, s.ev hy, eqGuard, Sem.run_bind]
    simp [binOp, run_equal_pn hu hz]) k
end
theorem set_same {α : Type} {M : List α} {j : Nat} {x : α} (h : M[j]? = some x) : M.set j x = M := by
  apply List.ext_getElem?
  intro q
  by_cases hq : q = j
  · subst hq; rw [List.getElem?_set_self (List.getElem?_eq_some_iff.1 h).1, h]
  · rw [List.getElem?_set_ne (Ne.symm hq)]
end Go.Ab
