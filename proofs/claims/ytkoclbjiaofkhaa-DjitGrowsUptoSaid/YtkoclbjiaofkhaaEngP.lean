/- The engine, part P: copy. -/
import Derived.Test.YtkoclbjiaofkhaaEngO
import Derived.Laws.Cells
import Derived.ControlIn
set_option linter.unusedVariables false
set_option linter.unusedSimpArgs false
namespace Go.Ab
open Go
section
variable {P : Program} {r : Option Nat} {w0 : World} {ds : List Deferred} {n : Nat} {e : Env} {Γ : List HProp} {K : Act → World → Prop} {l : List Oper} {i : Nat} {t : RT} {fl : List Nat}
variable {d : Nat} {ty : TypeId} {pos : String} {af : Array Edge} {g : Option (Nat × Bool)}
/-- copy into an owned slice, of what is read; no longer than it. -/
theorem run_copyR {α : Type} {T U E : TypeId} {bo ao : Option Addr} {cap sc sz : Nat} {enc : α → List Value} {xs ys : List α} {A : HProp} {Γ1 Γ2 : List HProp} {w : World}
    (hu : P.underlying T = some (.slice E)) (hE : ∀ w, (sizeOf E).run P w = .ok sz w) (hpos : 0 < sz) (hsz : ∀ x, (enc x).length = sz) (h1 : ∀ y, (enc y).all Value.oneCell' = true)
    (s1 : Sat (own sz enc ao cap xs :: Γ1) (lh w)) (tkA : Take Γ1 A Γ2) (hr : RdS A bo (ys.flatMap enc)) (hle : ys.length ≤ xs.length) :
    ∃ w', (Builtin.copy_ #[T, U] ty #[.slice ao xs.length cap, .slice bo ys.length sc]).run P w = .ok (goInt ys.length) w' ∧ Sat (own sz enc ao cap (ys ++ xs.drop ys.length) :: Γ1) (lh w') ∧ Amb w w' := by
  obtain ⟨hc, hn0, hs⟩ := own_le s1
  have hmin : Nat.min ys.length xs.length = ys.length := Nat.min_eq_left hle
  have hfl := flat_len hsz ys
  by_cases hy0 : ys.length = 0
  · obtain rfl := List.eq_nil_of_length_eq_zero hy0
    have hl : ∀ (x : Addr), (loadCells x 0).run P w = .ok #[] w := fun x => by simpa using run_loadCells_list (P := P) (w := w) x [] (by simp)
    have hm0 : Nat.min 0 xs.length = 0 := hmin
    refine ⟨w, ?_, by simpa using s1, Amb.refl w⟩
    cases ao <;> cases bo <;> simp [Builtin.copy_, run_underlying hu, hE, Builtin.lenOf, Builtin.firstCells, storeCells, hl, hm0]
  · rcases hr with hr | ⟨b2, o2, rfl, hrn⟩
    · rw [hr] at hfl
      have : ys.length * sz = 0 := hfl.symm
      rcases Nat.mul_eq_zero.1 this with h | h <;> omega
    · cases ao with
      | none => obtain ⟨h3, -⟩ := hn0 rfl; subst h3; simp at hle; simp [hle] at hy0
      | some p =>
        obtain ⟨b, off, hp⟩ := hs (by simp)
        cases hp
        obtain ⟨sp, hsp, s2⟩ := own_cells s1
        have hload := run_loadCells_list (P := P) (w := w) ⟨b2, o2, none⟩ (ys.flatMap enc) (fun j v hv => by rw [add_none]; exact (hrn j v hv).world (tkA _ s1.tail))
        rw [hfl] at hload
        have hall : (ys.flatMap enc).all Value.oneCell' = true := by rw [List.all_flatMap]; simp [h1]
        have hmle : ys.length * sz ≤ xs.length * sz := Nat.mul_le_mul_right _ hle
        obtain ⟨w', e1, e2, e3⟩ := run_storeSat (P := P) (ys.flatMap enc) 0 0 _ _ w s2 (by rw [hfl, List.length_append, flat_len hsz]; omega) hall
        rw [Nat.add_zero] at e1
        refine ⟨w', ?_, ?_, e3⟩
        · simp [Builtin.copy_, run_underlying hu, hE, Builtin.lenOf, Builtin.firstCells, hmin, hload, e1]
        · have e4 := setL_eq (ys.flatMap enc) [] ((xs.take ys.length).flatMap enc) ((xs.drop ys.length).flatMap enc ++ sp) (by rw [hfl, flat_len hsz, List.length_take, Nat.min_eq_left hle])
          rw [List.nil_append, ← List.append_assoc, ← List.flatMap_append, List.take_append_drop] at e4
          simp only [List.length_nil, List.nil_append] at e4
          rw [Nat.add_zero, e4] at e2
          refine own_mk (sp := sp) (by simp; omega) ?_ (by rw [List.flatMap_append, List.append_assoc]; exact e2)
          rw [hsp]
          congr 1
          rw [List.length_append, List.length_drop]; omega
theorem l_copy {α : Type} {T U E : TypeId} {x y : Operand} {bo ao : Option Addr} {len cap sl sc sz : Nat} {enc : α → List Value} {xs ys : List α} {A : HProp} {Γ1 Γ2 : List HProp} (ho : nthO l i = some ⟨some d, .call ⟨.builtin .copy, #[x, y], #[T, U]⟩, ty, pos, af, g⟩) (hg : gd l e g = some true) (hn : Nat.blt d n = true)
    (hx : ev e x = some (.slice ao len cap)) (hy : ev e y = some (.slice bo sl sc)) (hu : P.underlying T = some (.slice E)) (hE : ∀ w, (sizeOf E).run P w = .ok sz w) (hpos : 0 < sz) (hsz : ∀ x, (enc x).length = sz) (h1 : ∀ y, (enc y).all Value.oneCell' = true)
    (tk : Take Γ (own sz enc ao cap xs) Γ1) (tkA : Take Γ1 A Γ2) (hr : RdS A bo (ys.flatMap enc)) (hlen : xs.length = len) (hyl : ys.length = sl) (hle : sl ≤ len)
    (k : Le (St w0 ds n ((d, .int .i64 (sl : Int)) :: e) (own sz enc ao cap (ys ++ xs.drop sl) :: Γ1)) (AG P r l.toArray fl (wpRT P r l.toArray K t))) : Le (St w0 ds n e Γ) (wpRT P r l.toArray K (.l i fl t)) :=
  l_gen ho hg (fun _ h => by cases h) (fun a w s => by
    subst hlen hyl
    obtain ⟨w', e1, e2, e3⟩ := run_copyR (P := P) (U := U) (ty := ty) (sc := sc) hu hE hpos hsz h1 (tk _ s.heap) tkA hr hle
    have hr' : (execOp a.eval ⟨some d, .call ⟨.builtin .copy, #[x, y], #[T, U]⟩, ty, pos, af, g⟩).run P w = .ok (.value (goInt ys.length)) w' := by
      simp [execOp, resolve, invoke, builtin, s.ev hx, s.ev hy, e1]
    rw [hr']
    exact k _ _ ((s.world e2 e3).put hn))
end
/-! ### Ways that come together -/
section
variable {P : Program} {r : Option Nat} {w0 : World} {ds : List Deferred} {n : Nat} {e : Env} {Γ : List HProp} {Q : Exit → Act → World → Prop}
theorem c_seqJ {α : Type} {x y : Code} (φ : α → Prop) (Em : α → Env) (Gm : α → List HProp) (ks : List Nat) {er : Env} (her : keepE e ks = er) (Gt : List HProp) {Γr : List HProp} (hG : Takes Γ Gt Γr)
    (hx : Le (St w0 ds n e Γ) (x.wpIn (fz r) 0 P (Exit.then (fun a w => ∃ z, φ z ∧ St w0 ds n (Em z ++ er) (Gm z ++ Γr) a w) Q)))
    (hy : ∀ z, φ z → Le (St w0 ds n (Em z ++ er) (Gm z ++ Γr)) (y.wpIn (fz r) 0 P Q)) : Le (St w0 ds n e Γ) ((Code.seq x y).wpIn (fz r) 0 P Q) := fun a w s =>
  wpIn_seq (wpIn_mono (hx a w s) (fun ex a w h => by
    cases ex with
    | normal => obtain ⟨z, hz, hs⟩ := h; exact hy z hz a w hs
    | exit id => exact h
    | goto l => exact h
    | ret => exact h
    | panic ch => exact h
    | outgrown => exact h))
theorem join_next {α : Type} {φ : α → Prop} {E : α → Env} {G : α → List HProp} (z : α) (hz : φ z) (h1 : EnvIn (E z) e) (h2 : Takes Γ (G z) []) : Le (St w0 ds n e Γ) (fun a w => ∃ z, φ z ∧ St w0 ds n (E z) (G z) a w) :=
  fun a w s => ⟨z, hz, le_st h1 h2 a w s⟩
end
end Go.Ab
