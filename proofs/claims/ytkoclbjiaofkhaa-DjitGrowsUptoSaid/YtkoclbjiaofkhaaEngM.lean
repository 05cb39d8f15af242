/- The engine, part M: append of zeros; the least of three. -/
import Derived.Test.YtkoclbjiaofkhaaEngL
set_option linter.unusedVariables false
set_option linter.unusedSimpArgs false
namespace Go.Ab
open Go

theorem zeroCells_rep {α : Type} {enc : α → List Value} {z : Value} {x0 : α} (henc : enc x0 = z.cells.toList) (q : Nat) : (Builtin.zeroCells z.cells q).toList = (List.replicate q x0).flatMap enc := by
  rw [List.flatMap_def, List.map_replicate, henc]
  unfold Builtin.zeroCells
  exact zeros_list z.cells q
section
variable {P : Program} {r : Option Nat} {w0 : World} {ds : List Deferred} {n : Nat} {e : Env} {Γ : List HProp} {K : Act → World → Prop} {l : List Oper} {i : Nat} {t : RT} {fl : List Nat}
variable {d : Nat} {ty : TypeId} {pos : String} {af : Array Edge} {g : Option (Nat × Bool)}
theorem run_appendZ {α : Type} {T E U : TypeId} {sz m : Nat} {enc : α → List Value} {ao : Option Addr} {cap : Nat} {xs : List α} {x0 : α} {kU k1 : IntKind} {ti : TypeInfo} {z : Value} {w : World} (hu : P.underlying T = some (.slice E)) (hU : P.underlying U = some (.int kU)) (hti : ∀ w, (typeInfo E).run P w = .ok ti w)
    (hz : ti.zero = some z) (hzs : z.cells.size = sz) (hsi : ti.size = sz) (hsz : ∀ x, (enc x).length = sz) (hpos : 0 < sz) (h1 : ∀ y, (enc y).all Value.oneCell' = true) (henc : enc x0 = z.cells.toList)
    (s : Sat (own sz enc ao cap xs :: Γ) (lh w)) (h63 : xs.length + m ≤ 9223372036854775807) (hby : (xs.length + m) * ti.bytes ≤ 140737488355328) :
    ∃ ao' cap' w', (Builtin.append_ #[T, U] ty #[.slice ao xs.length cap, .int k1 (m : Int)]).run P w = .ok (.slice ao' (xs.length + m) cap') w' ∧ Sat (own sz enc ao' cap' (xs ++ List.replicate m x0) :: Γ) (lh w') ∧ Amb w w' := by
  have hi := info_of_run hti
  have hfl : ((List.replicate m x0).flatMap enc).length = m * sz := by rw [flat_len hsz, List.length_replicate]
  obtain ⟨hc, hn, hs⟩ := own_le s
  have hall : ((List.replicate m x0).flatMap enc).all Value.oneCell' = true := by
    rw [List.all_flatMap]; simp [h1]
  have hw : IntKind.i64.wrap (m : Int) = m := wrap_fits (fits_i64 (by omega) (by omega))
  have hm0 : ¬ ((m : Int) < 0) := by omega
  have hmb : m * ti.bytes ≤ 140737488355328 := Nat.le_trans (Nat.mul_le_mul_right _ (by omega)) hby
  have hmb' : ¬ (281474976710656 < (m : Int) * (ti.bytes : Int)) := by
    have : (m : Int) * (ti.bytes : Int) = ((m * ti.bytes : Nat) : Int) := by simp
    rw [this]; omega
  have hzr := zeroCells_rep (enc := enc) henc
  have happ : ∀ w : World, (if m * sz = 0 then (pure #[] : Sem (Array Value)) else do pure (Builtin.zeroCells (← zeroValue E).cells m)).run P w = .ok ((List.replicate m x0).flatMap enc).toArray w := by
    intro w
    by_cases h0 : m * sz = 0
    · have : m = 0 := by
        rcases Nat.mul_eq_zero.1 h0 with h | h
        · exact h
        · omega
      subst this
      simp
    · rw [if_neg h0]
      have h2 : (Builtin.zeroCells z.cells m) = ((List.replicate m x0).flatMap enc).toArray := by
        apply Array.ext'; rw [hzr]
      simp [zeroValue, hti, hz, h2]
  by_cases hroom : xs.length + m ≤ cap
  · cases ao with
    | none =>
      obtain ⟨rfl, rfl⟩ := hn rfl
      have hm0 : m = 0 := by simpa using hroom
      subst hm0
      refine ⟨none, 0, w, ?_, by simpa using s, Amb.refl w⟩
      have hw0 : IntKind.i64.wrap 0 = 0 := by decide
      simp [Builtin.append_, run_underlying hu, run_underlying hU, sizeOf, hti, asInt, asIntOf, hw0, hsi]
    | some p =>
      obtain ⟨b, off, hp⟩ := hs (by simp)
      cases hp
      obtain ⟨sp, hsp, s2⟩ := own_cells s
      have hlen : xs.length * sz + ((List.replicate m x0).flatMap enc).length ≤ (xs.flatMap enc ++ sp).length := by
        rw [List.length_append, flat_len hsz xs, hsp, hfl]
        have : (xs.length + m) * sz ≤ cap * sz := Nat.mul_le_mul_right _ hroom
        rw [Nat.add_mul] at this
        rw [Nat.sub_mul]
        have := Nat.mul_le_mul_right sz hc
        omega
      obtain ⟨w', e1, e2, e3⟩ := run_storeSat (P := P) ((List.replicate m x0).flatMap enc) (xs.length * sz) 0 _ _ w s2 (by simpa using hlen) hall
      refine ⟨some ⟨b, off, none⟩, cap, w', ?_, ?_, e3⟩
      · have happ' := happ w
        simp only [Builtin.append_, Sem.run_bind, List.getElem?_toArray, List.getElem?_cons_zero, List.getElem?_cons_succ, run_underlying hu, run_underlying hU, Result.andThen_ok, Sem.run_pure, sizeOf, hti, asInt, asIntOf, hw, hm0, if_false, if_true, hsi]
        try simp only [Sem.run_bind, Sem.run_pure, Result.andThen_ok, hw, hti, if_neg hm0]
        rw [if_neg (by simpa using hmb')]
        simp only [Sem.run_pure, Result.andThen_ok, Int.toNat_natCast, if_pos hroom, Sem.run_bind, Bool.not_true, Bool.false_eq_true, if_false]
        rw [happ']
        simp only [Result.andThen_ok, add_none, e1, Sem.run_bind, Sem.run_pure]
      · have hsl : sp.length = (cap - xs.length) * sz := hsp
        have hle : ((List.replicate m x0).flatMap enc).length ≤ sp.length := by
          rw [hfl, hsl]
          exact Nat.mul_le_mul_right _ (by omega)
        have hspl : sp = sp.take ((List.replicate m x0).flatMap enc).length ++ sp.drop ((List.replicate m x0).flatMap enc).length := (List.take_append_drop _ _).symm
        have e4 := setL_eq ((List.replicate m x0).flatMap enc) (xs.flatMap enc) (sp.take ((List.replicate m x0).flatMap enc).length) (sp.drop ((List.replicate m x0).flatMap enc).length) (by rw [List.length_take]; omega)
        rw [List.append_assoc, ← hspl, flat_len hsz] at e4
        rw [Nat.add_zero, e4] at e2
        refine own_mk (by simp; omega) ?_ (by rw [List.flatMap_append]; exact e2)
        rw [List.length_drop, hsl, hfl, List.length_append, List.length_replicate, ← Nat.sub_mul]
        congr 1
        omega
  · have hroom : cap < xs.length + m := by omega
    have hfit := growslice_fits (bytes := ti.bytes) hroom hby
    have hng : ¬ (xs.length + m ≤ cap) := by omega
    have h63' : ¬ (9223372036854775807 < ((xs.length : Int) + (m : Int))) := by omega
    have h48' : ¬ (281474976710656 < Builtin.nextslicecap (xs.length + m) cap * ti.bytes) := by omega
    have hgc := grownCap_ge w (xs.length + m) cap E
    have hold : (Builtin.firstCells sz xs.length (.slice ao xs.length cap)).run P w.drew = .ok (xs.flatMap enc).toArray w.drew := by
      have s3 : Sat (own sz enc ao cap xs :: Γ) (lh w.drew) := s
      exact run_first (rds_own hsz (fun h => (hn h).1) hs) (by rw [flat_len hsz]) s3
    have happ' := happ w.drew
    refine ⟨some ⟨w.heap.size, 0, none⟩, grownCap w (xs.length + m) cap E, w.drew.alloc (.cells ((xs.flatMap enc).toArray ++ ((List.replicate m x0).flatMap enc).toArray ++ Builtin.zeroCells z.cells (grownCap w (xs.length + m) cap E - (xs.length + m))) E), ?_, ?_, ⟨rfl, rfl, rfl, by simp⟩⟩
    · simp only [Builtin.append_, Sem.run_bind, List.getElem?_toArray, List.getElem?_cons_zero, List.getElem?_cons_succ, run_underlying hu, run_underlying hU, Result.andThen_ok, Sem.run_pure, sizeOf, hti, asInt, asIntOf, hw, if_true, hsi]
      simp only [Sem.run_bind, Sem.run_pure, Result.andThen_ok, hw, hti, if_neg hm0]
      rw [if_neg (by simpa using hmb')]
      simp only [Sem.run_pure, Result.andThen_ok, Int.toNat_natCast, if_neg hng, Sem.run_bind, Bool.not_true, Bool.false_eq_true, if_false, hti]
      rw [if_neg (by simp [IntKind.max, IntKind.signed, IntKind.bits]; omega)]
      simp only [Sem.run_pure, Result.andThen_ok, Sem.run_bind, hti]
      rw [if_neg (by simpa using h48')]
      simp only [Sem.run_pure, Result.andThen_ok, Sem.run_bind, hti]
      have hch : (choose (.appendCap (xs.length + m) cap E)).run P w = .ok (grownCap w (xs.length + m) cap E) w.drew := by
        simp [choose, Sem.run, Question.forced, grownCap]
      rw [hch]
      have happ2 : (if m * sz = 0 then (pure #[] : Sem (Array Value)) else do pure (Builtin.zeroCells (← zeroValue E).cells m)) = (if m * sz = 0 then (pure #[] : Sem (Array Value)) else do pure (Builtin.zeroCells (← zeroValue E).cells m)) := rfl
      simp only [Result.andThen_ok, Sem.run_bind, run_askRoom, hold]
      rw [happ']
      simp [zeroValue, hti, hz, newRow]
      congr 2
      apply Array.ext'
      simp
    · have s3 : Sat (own sz enc ao cap xs :: Γ) (lh w.drew) := s
      have s4 := s3.tail.newCells ((xs.flatMap enc).toArray ++ ((List.replicate m x0).flatMap enc).toArray ++ Builtin.zeroCells z.cells (grownCap w (xs.length + m) cap E - (xs.length + m))) E
      refine own_mk (sp := (Builtin.zeroCells z.cells (grownCap w (xs.length + m) cap E - (xs.length + m))).toList) (by simp; omega) ?_ (by rw [List.flatMap_append]; simpa using s4)
      rw [zeroCells_len, hzs, List.length_append, List.length_replicate]
theorem l_appendZ {α : Type} {T E U : TypeId} {x y : Operand} {sz : Nat} {enc : α → List Value} {ao : Option Addr} {m len cap : Nat} {zm : Int} {xs : List α} (x0 : α) {kU k1 : IntKind} {ti : TypeInfo} {z : Value} {Γ1 : List HProp} (ho : nthO l i = some ⟨some d, .call ⟨.builtin .append, #[x, y], #[T, U]⟩, ty, pos, af, g⟩) (hg : gd l e g = some true) (hn : Nat.blt d n = true)
    (hx : ev e x = some (.slice ao len cap)) (hy : ev e y = some (.int k1 zm)) (hu : P.underlying T = some (.slice E)) (hU : P.underlying U = some (.int kU)) (hti : ∀ w, (typeInfo E).run P w = .ok ti w) (hz : ti.zero = some z) (hzs : z.cells.size = sz) (hsi : ti.size = sz) (hpos : 0 < sz)
    (tk : Take Γ (own sz enc ao cap xs) Γ1) (hlen : xs.length = len) (hm : zm = (m : Int)) (henc : enc x0 = z.cells.toList) (hsz : ∀ x, (enc x).length = sz) (h1 : ∀ y, (enc y).all Value.oneCell' = true)
    (h63 : len + m ≤ 9223372036854775807) (hby : (len + m) * ti.bytes ≤ 140737488355328)
    (k : ∀ ao' cap', Le (St w0 ds n ((d, .slice ao' (len + m) cap') :: e) (own sz enc ao' cap' (xs ++ List.replicate m x0) :: Γ1)) (AG P r l.toArray fl (wpRT P r l.toArray K t))) : Le (St w0 ds n e Γ) (wpRT P r l.toArray K (.l i fl t)) :=
  l_gen ho hg (fun _ h => by cases h) (fun a w s => by
    subst hlen hm
    obtain ⟨ao', cap', w', e1, e2, e3⟩ := run_appendZ (P := P) (ty := ty) (k1 := k1) (m := m) hu hU hti hz hzs hsi hsz hpos h1 henc (tk _ s.heap) h63 hby
    have hr' : (execOp a.eval ⟨some d, .call ⟨.builtin .append, #[x, y], #[T, U]⟩, ty, pos, af, g⟩).run P w = .ok (.value (.slice ao' (xs.length + m) cap')) w' := by
      simp [execOp, resolve, invoke, builtin, s.ev hx, s.ev hy, e1]
    rw [hr']
    exact k ao' cap' _ _ ((s.world e2 e3).put hn))
theorem q_min3 {x y y2 : Operand} {ts : Array TypeId} {k' : IntKind} {p q q2 : Int} (ho : nthO l i = some ⟨some d, .call ⟨.builtin .min, #[x, y, y2], ts⟩, ty, pos, af, g⟩) (hg : gd l e g = some true) (hn : Nat.blt d n = true)
    (hx : ev e x = some (.int k' p)) (hy : ev e y = some (.int k' q)) (hy2 : ev e y2 = some (.int k' q2))
    (k : Le (St w0 ds n ((d, .int k' (min (min p q) q2)) :: e) Γ) (wpRT P r l.toArray K t)) : Le (St w0 ds n e Γ) (wpRT P r l.toArray K (.q i t)) :=
  q_read ho hg rfl hn rfl (fun _ h => by cases h) (fun a w s => by
    have h : ∀ p q : Int, (if q < p then q else p) = min p q := fun p q => by rw [Int.min_def]; split <;> split <;> omega
    simp [execOp, resolve, invoke, builtin, s.ev hx, s.ev hy, s.ev hy2, Builtin.min_, Builtin.min2, h]) k
theorem q_max3 {x y y2 : Operand} {ts : Array TypeId} {k' : IntKind} {p q q2 : Int} (ho : nthO l i = some ⟨some d, .call ⟨.builtin .max, #[x, y, y2], ts⟩, ty, pos, af, g⟩) (hg : gd l e g = some true) (hn : Nat.blt d n = true)
    (hx : ev e x = some (.int k' p)) (hy : ev e y = some (.int k' q)) (hy2 : ev e y2 = some (.int k' q2))
    (k : Le (St w0 ds n ((d, .int k' (max (max p q) q2)) :: e) Γ) (wpRT P r l.toArray K t)) : Le (St w0 ds n e Γ) (wpRT P r l.toArray K (.q i t)) :=
  q_read ho hg rfl hn rfl (fun _ h => by cases h) (fun a w s => by
    have h : ∀ p q : Int, (if p < q then q else p) = max p q := fun p q => by rw [Int.max_def]; split <;> split <;> omega
    simp [execOp, resolve, invoke, builtin, s.ev hx, s.ev hy, s.ev hy2, Builtin.max_, Builtin.max2, h]) k
end
end Go.Ab
