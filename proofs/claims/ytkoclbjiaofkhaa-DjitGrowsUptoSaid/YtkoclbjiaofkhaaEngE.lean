/- The engine, part E: operations on memory. -/
import Derived.Test.YtkoclbjiaofkhaaEngD
import Derived.Laws.CopyRow
set_option linter.unusedVariables false
set_option linter.unusedSimpArgs false
namespace Go.Ab
open Go

def RdN (A : HProp) (b o : Nat) (vs : List Value) : Prop := ∀ (i : Nat) v, vs[i]? = some v → Rd A b (o + i) v
theorem rdn_cells {b off : Nat} {vs : List Value} : RdN (cells b off vs) b off vs := fun i v h => rd_cells h
theorem rd_c {b off : Nat} {vs : List Value} (i : Nat) {v : Value} (h : vs[i]? = some v) : Rd (cells b off vs) b (off + i) v := rd_cells h
theorem rd_c0 {b off : Nat} {vs : List Value} {v : Value} : Rd (cells b off (v :: vs)) b off v := rd_cells (i := 0) rfl
theorem rdn_one {A : HProp} {b o : Nat} {v : Value} (h : RdN A b o [v]) : Rd A b o v := h 0 v rfl
/-- Values of some kind laid one behind the other. -/
def arr {α : Type} (b off : Nat) (enc : α → List Value) (xs : List α) : HProp := cells b off (xs.flatMap enc)
theorem flat_get {α : Type} {enc : α → List Value} {sz : Nat} (hsz : ∀ x, (enc x).length = sz) : ∀ (xs : List α) (k j : Nat) (x : α) (v : Value), xs[k]? = some x → (enc x)[j]? = some v → (xs.flatMap enc)[k * sz + j]? = some v
  | [], k, j, x, v, h, _ => by simp at h
  | y :: ys, 0, j, x, v, h, hv => by
    simp only [List.getElem?_cons_zero, Option.some.injEq] at h
    subst h
    have hj : j < (enc y).length := by
      rcases Nat.lt_or_ge j (enc y).length with h' | h'
      · exact h'
      · rw [List.getElem?_eq_none h'] at hv; cases hv
    rw [List.flatMap_cons, Nat.zero_mul, Nat.zero_add, List.getElem?_append_left hj]
    exact hv
  | y :: ys, k + 1, j, x, v, h, hv => by
    have h' : ys[k]? = some x := by simpa using h
    have ih := flat_get hsz ys k j x v h' hv
    rw [List.flatMap_cons, List.getElem?_append_right (by rw [hsz, Nat.succ_mul]; omega), hsz]
    rw [show (k + 1) * sz + j - sz = k * sz + j from by rw [Nat.succ_mul]; omega]
    exact ih
theorem flat_len {α : Type} {enc : α → List Value} {sz : Nat} (hsz : ∀ x, (enc x).length = sz) : ∀ (xs : List α), (xs.flatMap enc).length = xs.length * sz
  | [] => by simp
  | x :: xs => by rw [List.flatMap_cons, List.length_append, hsz, flat_len hsz xs, List.length_cons, Nat.succ_mul]; omega
theorem rdn_arr {α : Type} {b off : Nat} {enc : α → List Value} {xs : List α} {sz k : Nat} {x : α} (hsz : ∀ x, (enc x).length = sz) (h : xs[k]? = some x) : RdN (arr b off enc xs) b (off + k * sz) (enc x) := fun j v hv => by
  rw [Nat.add_assoc]
  exact rd_cells (flat_get hsz xs k j x v h hv)
theorem rd_arr1 {α : Type} {b off : Nat} {enc : α → List Value} {xs : List α} {k : Nat} {x : α} {v : Value} (hv : enc x = [v]) (hsz : ∀ x, (enc x).length = 1) (h : xs[k]? = some x) : Rd (arr b off enc xs) b (off + k) v := by
  have := rdn_arr (b := b) (off := off) hsz h
  rw [hv, Nat.mul_one] at this
  exact rdn_one this

/-- Those of the list still yield what they yielded. -/
def AG (P : Program) (r : Option Nat) (ops : Array Oper) (fl : List Nat) (X : Act → World → Prop) : Act → World → Prop := fun a w => (∀ j ∈ fl, again P r ops a w j) ∧ X a w
theorem ag_nil {P : Program} {r : Option Nat} {ops : Array Oper} {S X : Act → World → Prop} (h : Le S X) : Le S (AG P r ops [] X) := fun a w s => ⟨fun _ hj => (by cases hj), h a w s⟩

section
variable {P : Program} {r : Option Nat} {w0 : World} {ds : List Deferred} {n : Nat} {e : Env} {Γ : List HProp} {K : Act → World → Prop} {l : List Oper} {i : Nat} {t : RT} {fl : List Nat}
theorem ag_cons {j : Nat} {X : Act → World → Prop} {o : Oper} {d : Nat} {v : Value} (ho : nthO l j = some o) (hd : o.dst = some d) (hl : look e d = some v) (hnd : ∀ c, o.op ≠ .defer c)
    (hv : ∀ a w, St w0 ds n e Γ a w → (execOp a.eval o).run P w = .ok (.value v) w) (k : Le (St w0 ds n e Γ) (AG P r l.toArray fl X)) : Le (St w0 ds n e Γ) (AG P r l.toArray (j :: fl) X) := by
  intro a w s
  refine ⟨fun i hi => ?_, (k a w s).2⟩
  rcases List.mem_cons.1 hi with rfl | hi
  · intro o' ho' hw
    rw [nthO_eq] at ho
    rw [List.getElem?_toArray, ho] at ho'
    cases ho'
    refine ⟨d, hd, ?_⟩
    rw [Oper.semAt_eq _ _ _ hnd, hv a w s, s.env d v hl]
  · exact (k a w s).1 i hi
/-- An operation that was not wanted needs nothing. -/
theorem ag_skip {j : Nat} {X : Act → World → Prop} {o : Oper} (ho : nthO l j = some o) (hg : gd l e o.guard = some false) (k : Le (St w0 ds n e Γ) (AG P r l.toArray fl X)) : Le (St w0 ds n e Γ) (AG P r l.toArray (j :: fl) X) := by
  intro a w s
  refine ⟨fun i hi => ?_, (k a w s).2⟩
  rcases List.mem_cons.1 hi with rfl | hi
  · intro o' ho' hw
    rw [nthO_eq] at ho
    rw [List.getElem?_toArray, ho] at ho'
    cases ho'
    rw [s.wanted hg] at hw; cases hw
  · exact (k a w s).1 i hi

/-- A loud operation with a slot of its own. -/
theorem l_gen {o : Oper} (ho : nthO l i = some o) (hg : gd l e o.guard = some true) (hnd : ∀ c, o.op ≠ .defer c)
    (h : ∀ a w, St w0 ds n e Γ a w → opUp P r o a (AG P r l.toArray fl (wpRT P r l.toArray K t)) ((execOp a.eval o).run P w)) : Le (St w0 ds n e Γ) (wpRT P r l.toArray K (.l i fl t)) := by
  intro a w s
  refine ⟨o, by simpa [nthO_eq] using ho, .inl ⟨s.wanted hg, ?_⟩⟩
  unfold opW
  rw [Oper.semAt_eq _ _ _ hnd]
  exact h a w s

variable {d : Nat} {ty : TypeId} {pos : String} {af : Array Edge} {g : Option (Nat × Bool)}

/-! ### Loads -/
theorem run_load1 {T : TypeId} {b o : Nat} {v : Value} (hA : ∀ w, (isAgg T).run P w = .ok false w) {w : World} (h : w.cell? ⟨b, o, none⟩ = some v) : (Instr.loadAt T (.pointer (some ⟨b, o, none⟩))).run P w = .ok v w := by
  simp [Instr.loadAt, Instr.sureAddr, loadVar, hA, h]
theorem run_loadN {T : TypeId} {b o : Nat} {vs : List Value} (hA : ∀ w, (isAgg T).run P w = .ok true w) (hs : ∀ w, (sizeOf T).run P w = .ok vs.length w) {w : World} (h : ∀ j v, vs[j]? = some v → w.cell? ⟨b, o + j, none⟩ = some v) :
    (Instr.loadAt T (.pointer (some ⟨b, o, none⟩))).run P w = .ok (.agg vs.toArray) w := by
  have hl := run_loadCells_list (P := P) w ⟨b, o, none⟩ vs (fun j v hv => by
    have := h j v hv
    unfold Addr.add
    split
    · rename_i h0; subst h0; simpa using this
    · exact this)
  simp [Instr.loadAt, Instr.sureAddr, loadVar, hA, hs, hl]
theorem St.rd {A : HProp} {Γ' : List HProp} {a : Act} {w : World} {b o : Nat} {v : Value} (s : St w0 ds n e Γ a w) (tk : Take Γ A Γ') (hr : Rd A b o v) : w.cell? ⟨b, o, none⟩ = some v := hr.world (tk _ s.heap)
theorem q_load {T : TypeId} {x : Operand} {b o : Nat} {v : Value} {A : HProp} {Γ' : List HProp} (ho : nthO l i = some ⟨some d, .load T x, ty, pos, af, g⟩) (hg : gd l e g = some true) (hn : Nat.blt d n = true)
    (hx : ev e x = some (.pointer (some ⟨b, o, none⟩))) (hA : ∀ w, (isAgg T).run P w = .ok false w) (tk : Take Γ A Γ') (hr : Rd A b o v)
    (k : Le (St w0 ds n ((d, v) :: e) Γ) (wpRT P r l.toArray K t)) : Le (St w0 ds n e Γ) (wpRT P r l.toArray K (.q i t)) :=
  q_read ho hg rfl hn rfl (fun _ h => by cases h) (fun a w s => by simp [execOp, s.ev hx, run_load1 hA (s.rd tk hr)]) k
theorem q_loadN {T : TypeId} {x : Operand} {b o : Nat} {vs : List Value} {A : HProp} {Γ' : List HProp} (ho : nthO l i = some ⟨some d, .load T x, ty, pos, af, g⟩) (hg : gd l e g = some true) (hn : Nat.blt d n = true)
    (hx : ev e x = some (.pointer (some ⟨b, o, none⟩))) (hA : ∀ w, (isAgg T).run P w = .ok true w) {sz : Nat} (hs : ∀ w, (sizeOf T).run P w = .ok sz w) (tk : Take Γ A Γ') (hr : RdN A b o vs) (hsz : vs.length = sz)
    (k : Le (St w0 ds n ((d, .agg vs.toArray) :: e) Γ) (wpRT P r l.toArray K t)) : Le (St w0 ds n e Γ) (wpRT P r l.toArray K (.q i t)) :=
  q_read ho hg rfl hn rfl (fun _ h => by cases h) (fun a w s => by simp [execOp, s.ev hx, run_loadN hA (by rw [hsz]; exact hs) (fun j v hv => s.rd tk (hr j v hv))]) k
theorem ag_load {j : Nat} {T : TypeId} {x : Operand} {b o : Nat} {v : Value} {A : HProp} {Γ' : List HProp} {X : Act → World → Prop} (ho : nthO l j = some ⟨some d, .load T x, ty, pos, af, g⟩)
    (hx : ev e x = some (.pointer (some ⟨b, o, none⟩))) (hl : look e d = some v) (hA : ∀ w, (isAgg T).run P w = .ok false w) (tk : Take Γ A Γ') (hr : Rd A b o v)
    (k : Le (St w0 ds n e Γ) (AG P r l.toArray fl X)) : Le (St w0 ds n e Γ) (AG P r l.toArray (j :: fl) X) :=
  ag_cons ho rfl hl (fun _ h => by cases h) (fun a w s => by simp [execOp, s.ev hx, run_load1 hA (s.rd tk hr)]) k
theorem ag_loadN {j : Nat} {T : TypeId} {x : Operand} {b o : Nat} {vs : List Value} {A : HProp} {Γ' : List HProp} {X : Act → World → Prop} (ho : nthO l j = some ⟨some d, .load T x, ty, pos, af, g⟩)
    (hx : ev e x = some (.pointer (some ⟨b, o, none⟩))) (hl : look e d = some (.agg vs.toArray)) (hA : ∀ w, (isAgg T).run P w = .ok true w) {sz : Nat} (hs : ∀ w, (sizeOf T).run P w = .ok sz w) (tk : Take Γ A Γ') (hr : RdN A b o vs) (hsz : vs.length = sz)
    (k : Le (St w0 ds n e Γ) (AG P r l.toArray fl X)) : Le (St w0 ds n e Γ) (AG P r l.toArray (j :: fl) X) :=
  ag_cons ho rfl hl (fun _ h => by cases h) (fun a w s => by simp [execOp, s.ev hx, run_loadN hA (by rw [hsz]; exact hs) (fun j v hv => s.rd tk (hr j v hv))]) k

/-! ### Addresses -/
theorem add_none (b o k : Nat) : Addr.add ⟨b, o, none⟩ k = ⟨b, o + k, none⟩ := by
  unfold Addr.add; split
  · rename_i h; subst h; rfl
  · rfl
theorem run_fieldAt {T : TypeId} {fs : Array Field} {f : Nat} {fd : Field} {b o sz : Nat} (hu : P.underlying T = some (.struct fs)) (hf : fs[f]? = some fd) (hs : ∀ w, (sizeOf fd.type).run P w = .ok (sz + 1) w) (w : World) :
    (Instr.fieldAt T (.pointer (some ⟨b, o, none⟩)) f).run P w = .ok (.pointer (some ⟨b, o + fd.offset, none⟩)) w := by
  simp [Instr.fieldAt, run_underlying hu, hf, Instr.sureAddr, fieldPlace, hs, add_none]
theorem q_field {T : TypeId} {x : Operand} {f : Nat} {fs : Array Field} {fd : Field} {b o sz k : Nat} (ho : nthO l i = some ⟨some d, .fieldAddr T x f, ty, pos, af, g⟩) (hg : gd l e g = some true) (hn : Nat.blt d n = true)
    (hx : ev e x = some (.pointer (some ⟨b, o, none⟩))) (hu : P.underlying T = some (.struct fs)) (hf : fs[f]? = some fd) (hs : ∀ w, (sizeOf fd.type).run P w = .ok (sz + 1) w) (hk : fd.offset = k)
    (kk : Le (St w0 ds n ((d, .pointer (some ⟨b, o + k, none⟩)) :: e) Γ) (wpRT P r l.toArray K t)) : Le (St w0 ds n e Γ) (wpRT P r l.toArray K (.q i t)) := by
  subst hk
  exact q_pure ho hg rfl hn rfl (fun _ h => by cases h) (fun a w s w' => by simp [execOp, s.ev hx, run_fieldAt hu hf hs]) kk
theorem run_indexAt {T E : TypeId} {b o len cap sz : Nat} {k' : IntKind} {ix : Int} (hu : P.underlying T = some (.slice E)) (hs : ∀ w, (sizeOf E).run P w = .ok sz w) (h0 : 0 ≤ ix) (h1 : ix < len) (w : World) :
    (Instr.indexAt T (.slice (some ⟨b, o, none⟩) len cap) (.int k' ix)).run P w = .ok (.pointer (some ⟨b, o + ix.toNat * sz, none⟩)) w := by
  have h2 : 0 ≤ ix ∧ ix < len := ⟨h0, h1⟩
  simp [Instr.indexAt, asIntOf, run_underlying hu, hs, h2, add_none]
/-- The address of an element: of a slice that is not nil. -/
theorem q_idx {T E : TypeId} {x y : Operand} {ao : Option Addr} {len cap sz k : Nat} {k' : IntKind} {ix : Int} (ho : nthO l i = some ⟨some d, .indexAddr T x y, ty, pos, af, g⟩) (hg : gd l e g = some true) (hn : Nat.blt d n = true)
    (hx : ev e x = some (.slice ao len cap)) (hy : ev e y = some (.int k' ix)) (hu : P.underlying T = some (.slice E)) (hs : ∀ w, (sizeOf E).run P w = .ok sz w) (hi : ix = (k : Int)) (h1 : k < len) (hne : ∃ b o, ao = some ⟨b, o, none⟩)
    (kk : ∀ b o, ao = some ⟨b, o, none⟩ → Le (St w0 ds n ((d, .pointer (some ⟨b, o + k * sz, none⟩)) :: e) Γ) (wpRT P r l.toArray K t)) : Le (St w0 ds n e Γ) (wpRT P r l.toArray K (.q i t)) := by
  obtain ⟨b, o, rfl⟩ := hne
  subst hi
  exact q_pure ho hg rfl hn rfl (fun _ h => by cases h) (fun a w s w' => by simp [execOp, s.ev hx, s.ev hy, run_indexAt hu hs (by omega) (by omega : (k : Int) < len)]) (kk b o rfl)
theorem q_idx1 {T E : TypeId} {x y : Operand} {ao : Option Addr} {len cap k : Nat} {k' : IntKind} {ix : Int} (ho : nthO l i = some ⟨some d, .indexAddr T x y, ty, pos, af, g⟩) (hg : gd l e g = some true) (hn : Nat.blt d n = true)
    (hx : ev e x = some (.slice ao len cap)) (hy : ev e y = some (.int k' ix)) (hu : P.underlying T = some (.slice E)) (hs : ∀ w, (sizeOf E).run P w = .ok 1 w) (hi : ix = (k : Int)) (h1 : k < len) (hne : ∃ b o, ao = some ⟨b, o, none⟩)
    (kk : ∀ b o, ao = some ⟨b, o, none⟩ → Le (St w0 ds n ((d, .pointer (some ⟨b, o + k, none⟩)) :: e) Γ) (wpRT P r l.toArray K t)) : Le (St w0 ds n e Γ) (wpRT P r l.toArray K (.q i t)) :=
  q_idx ho hg hn hx hy hu hs hi h1 hne (fun b o h => by rw [Nat.mul_one]; exact kk b o h)

/-! ### Struct values -/
theorem run_field {T : TypeId} {fs : Array Field} {f : Nat} {fd : Field} {cs : List Value} {v : Value} (hu : P.underlying T = some (.struct fs)) (hf : fs[f]? = some fd) (hA : ∀ w, (isAgg fd.type).run P w = .ok false w) (hv : cs[fd.offset]? = some v) (w : World) :
    (Instr.field T (.agg cs.toArray) f).run P w = .ok v w := by
  simp [Instr.field, run_underlying hu, hf, asAgg, part, hA, hv]
theorem q_fld {T : TypeId} {x : Operand} {f : Nat} {fs : Array Field} {fd : Field} {cs : List Value} {v : Value} (ho : nthO l i = some ⟨some d, .field T x f, ty, pos, af, g⟩) (hg : gd l e g = some true) (hn : Nat.blt d n = true)
    (hx : ev e x = some (.agg cs.toArray)) (hu : P.underlying T = some (.struct fs)) (hf : fs[f]? = some fd) (hA : ∀ w, (isAgg fd.type).run P w = .ok false w) (hv : cs[fd.offset]? = some v)
    (k : Le (St w0 ds n ((d, v) :: e) Γ) (wpRT P r l.toArray K t)) : Le (St w0 ds n e Γ) (wpRT P r l.toArray K (.q i t)) :=
  q_pure ho hg rfl hn rfl (fun _ h => by cases h) (fun a w s w' => by simp [execOp, s.ev hx, run_field hu hf hA hv]) k
theorem q_extract {x : Operand} {ix : Nat} {vs : List Value} {v : Value} (ho : nthO l i = some ⟨some d, .extract x ix, ty, pos, af, g⟩) (hg : gd l e g = some true) (hn : Nat.blt d n = true)
    (hx : ev e x = some (.tuple vs.toArray)) (hv : vs[ix]? = some v)
    (k : Le (St w0 ds n ((d, v) :: e) Γ) (wpRT P r l.toArray K t)) : Le (St w0 ds n e Γ) (wpRT P r l.toArray K (.q i t)) :=
  q_pure ho hg rfl hn rfl (fun _ h => by cases h) (fun a w s w' => by simp [execOp, s.ev hx, Instr.extract, hv]) k
theorem q_func {fn : Fn} {fi ca : List Operand} {us vs : List Value} (ho : nthO l i = some ⟨some d, .makeFunc fn fi.toArray ca.toArray, ty, pos, af, g⟩) (hg : gd l e g = some true) (hn : Nat.blt d n = true)
    (h1 : evs e fi = some us) (h2 : evs e ca = some vs)
    (k : Le (St w0 ds n ((d, .func fn us.toArray vs.toArray) :: e) Γ) (wpRT P r l.toArray K t)) : Le (St w0 ds n e Γ) (wpRT P r l.toArray K (.q i t)) :=
  q_pure ho hg rfl hn rfl (fun _ h => by cases h) (fun a w s w' => by simp [execOp, Instr.makeFunc, s.evs h1, s.evs h2]) k
/-- A struct put together out of parts. -/
theorem q_build {T : TypeId} {ps : List (Nat × Operand)} {us vs : List Value} (ho : nthO l i = some ⟨some d, .build T ps.toArray, ty, pos, af, g⟩) (hg : gd l e g = some true) (hn : Nat.blt d n = true)
    (h1 : evs e (ps.map (·.2)) = some us) (hb : ∀ w, (Instr.build T ((ps.map (·.1)).zip us).toArray).run P w = .ok (.agg vs.toArray) w)
    (k : Le (St w0 ds n ((d, .agg vs.toArray) :: e) Γ) (wpRT P r l.toArray K t)) : Le (St w0 ds n e Γ) (wpRT P r l.toArray K (.q i t)) :=
  q_pure ho hg rfl hn rfl (fun _ h => by cases h) (fun a w s w' => by
    have h2 := s.evs h1
    have : (List.map (fun x : Nat × Operand => match x with | (i, x) => (i, a.eval x)) ps) = (ps.map (·.1)).zip us := by
      rw [← h2]
      clear ho hb h1 h2
      induction ps with
      | nil => rfl
      | cons p ps ih => simp [ih]
    simp [execOp, this, hb]) k
/-! ### Lengths and cuts of slices -/
theorem q_len {T : TypeId} {x : Operand} {E : TypeId} {ao : Option Addr} {len cap : Nat} (ho : nthO l i = some ⟨some d, .call ⟨.builtin .len, #[x], #[T]⟩, ty, pos, af, g⟩) (hg : gd l e g = some true) (hn : Nat.blt d n = true)
    (hx : ev e x = some (.slice ao len cap)) (hu : P.underlying T = some (.slice E))
    (k : Le (St w0 ds n ((d, .int .i64 (len : Int)) :: e) Γ) (wpRT P r l.toArray K t)) : Le (St w0 ds n e Γ) (wpRT P r l.toArray K (.q i t)) :=
  q_read ho hg rfl hn rfl (fun _ h => by cases h) (fun a w s => by simp [execOp, resolve, invoke, builtin, s.ev hx, Builtin.len_, run_underlying hu, goInt]) k
theorem ag_len {j : Nat} {T : TypeId} {x : Operand} {E : TypeId} {ao : Option Addr} {len cap : Nat} {X : Act → World → Prop} (ho : nthO l j = some ⟨some d, .call ⟨.builtin .len, #[x], #[T]⟩, ty, pos, af, g⟩)
    (hx : ev e x = some (.slice ao len cap)) (hl : look e d = some (.int .i64 (len : Int))) (hu : P.underlying T = some (.slice E))
    (k : Le (St w0 ds n e Γ) (AG P r l.toArray fl X)) : Le (St w0 ds n e Γ) (AG P r l.toArray (j :: fl) X) :=
  ag_cons ho rfl hl (fun _ h => by cases h) (fun a w s => by simp [execOp, resolve, invoke, builtin, s.ev hx, Builtin.len_, run_underlying hu, goInt]) k
theorem q_len_str {T : TypeId} {x : Operand} {b : ByteArray} (ho : nthO l i = some ⟨some d, .call ⟨.builtin .len, #[x], #[T]⟩, ty, pos, af, g⟩) (hg : gd l e g = some true) (hn : Nat.blt d n = true)
    (hx : ev e x = some (.string b)) (hu : P.underlying T = some .string)
    (k : Le (St w0 ds n ((d, .int .i64 (b.size : Int)) :: e) Γ) (wpRT P r l.toArray K t)) : Le (St w0 ds n e Γ) (wpRT P r l.toArray K (.q i t)) :=
  q_read ho hg rfl hn rfl (fun _ h => by cases h) (fun a w s => by simp [execOp, resolve, invoke, builtin, s.ev hx, Builtin.len_, run_underlying hu, goInt]) k
theorem q_min {x y : Operand} {ts : Array TypeId} {k' : IntKind} {p q : Int} (ho : nthO l i = some ⟨some d, .call ⟨.builtin .min, #[x, y], ts⟩, ty, pos, af, g⟩) (hg : gd l e g = some true) (hn : Nat.blt d n = true)
    (hx : ev e x = some (.int k' p)) (hy : ev e y = some (.int k' q))
    (k : Le (St w0 ds n ((d, .int k' (min p q)) :: e) Γ) (wpRT P r l.toArray K t)) : Le (St w0 ds n e Γ) (wpRT P r l.toArray K (.q i t)) :=
  q_read ho hg rfl hn rfl (fun _ h => by cases h) (fun a w s => by
    have : (if q < p then q else p) = min p q := by rw [Int.min_def]; split <;> split <;> omega
    simp [execOp, resolve, invoke, builtin, s.ev hx, s.ev hy, Builtin.min_, Builtin.min2, this]) k
theorem q_max {x y : Operand} {ts : Array TypeId} {k' : IntKind} {p q : Int} (ho : nthO l i = some ⟨some d, .call ⟨.builtin .max, #[x, y], ts⟩, ty, pos, af, g⟩) (hg : gd l e g = some true) (hn : Nat.blt d n = true)
    (hx : ev e x = some (.int k' p)) (hy : ev e y = some (.int k' q))
    (k : Le (St w0 ds n ((d, .int k' (max p q)) :: e) Γ) (wpRT P r l.toArray K t)) : Le (St w0 ds n e Γ) (wpRT P r l.toArray K (.q i t)) :=
  q_read ho hg rfl hn rfl (fun _ h => by cases h) (fun a w s => by
    have : (if p < q then q else p) = max p q := by rw [Int.max_def]; split <;> split <;> omega
    simp [execOp, resolve, invoke, builtin, s.ev hx, s.ev hy, Builtin.max_, Builtin.max2, this]) k
/-- x[lo:hi] of a slice. -/
theorem run_sliceAt {T E : TypeId} {ao : Option Addr} {len cap sz : Nat} {lo hi : Option (IntKind × Int)} (hu : P.underlying T = some (.slice E)) (hs : ∀ w, (sizeOf E).run P w = .ok sz w) (h h' : Nat)
    (hlo : ∀ k z, lo = some (k, z) → z = (h : Int)) (hlo' : lo = none → h = 0) (hhi : ∀ k z, hi = some (k, z) → z = (h' : Int)) (hhi' : hi = none → h' = len) (hle : h ≤ h') (hcap : h' ≤ cap) (w : World) :
    (Instr.sliceAt T (.slice ao len cap) (lo.map fun p => .int p.1 p.2) (hi.map fun p => .int p.1 p.2) none).run P w = .ok (.slice (if cap = h then ao else ao.map (·.add (h * sz))) (h' - h) (cap - h)) w := by
  cases lo with
  | none =>
    obtain rfl := hlo' rfl
    cases hi with
    | none => obtain rfl := hhi' rfl; simp [Instr.sliceAt, Instr.slice, Instr.sliceBounds, run_underlying hu, hs]
    | some p =>
      obtain ⟨k, z⟩ := p
      obtain rfl := hhi k z rfl
      have h2 : (0 : Int) ≤ (h' : Int) ∧ (h' : Int) ≤ (cap : Int) := by omega
      have h3 : h' ≤ cap := hcap
      simp [Instr.sliceAt, Instr.slice, Instr.sliceBounds, Instr.sliceBound, asIntOf, run_underlying hu, hs, h3]
  | some q =>
    obtain ⟨k1, z1⟩ := q
    obtain rfl := hlo k1 z1 rfl
    cases hi with
    | none =>
      obtain rfl := hhi' rfl
      simp [Instr.sliceAt, Instr.slice, Instr.sliceBounds, Instr.sliceBound, asIntOf, run_underlying hu, hs, hle]
    | some p =>
      obtain ⟨k, z⟩ := p
      obtain rfl := hhi k z rfl
      simp [Instr.sliceAt, Instr.slice, Instr.sliceBounds, Instr.sliceBound, asIntOf, run_underlying hu, hs, hle, hcap]
end
end Go.Ab
