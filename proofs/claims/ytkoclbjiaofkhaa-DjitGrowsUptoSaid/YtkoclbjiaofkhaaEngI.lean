/- The engine, part I: division, conversion, structs and slices put together, equality of structs, results in cells, clear. -/
import Derived.Test.YtkoclbjiaofkhaaEngH
import Derived.Laws.StructEq
import Derived.Laws.Cover3
set_option linter.unusedVariables false
set_option linter.unusedSimpArgs false
namespace Go.Ab
open Go

section
variable {P : Program} {r : Option Nat} {w0 : World} {ds : List Deferred} {n : Nat} {e : Env} {Γ : List HProp} {K : Act → World → Prop} {l : List Oper} {i : Nat} {t : RT} {fl : List Nat}
variable {d : Nat} {ty : TypeId} {pos : String} {af : Array Edge} {g : Option (Nat × Bool)}

theorem rdn_part {A : HProp} {b o sz : Nat} {vs us : List Value} (h : RdN A b o vs) (j : Nat) (hu : (vs.drop j).take sz = us) : RdN A b (o + j) us := fun q v hq => by
  rw [← hu, List.getElem?_take] at hq
  split at hq
  · rw [List.getElem?_drop] at hq; rw [Nat.add_assoc]; exact h _ v hq
  · cases hq
theorem rdn_sub {α : Type} {A : HProp} {b o k sz : Nat} {enc : α → List Value} {xs : List α} {x : α} (h : RdN A b o (xs.flatMap enc)) (hsz : ∀ x, (enc x).length = sz) (hx : xs[k]? = some x) : RdN A b (o + k * sz) (enc x) := fun i v hv => by
  rw [Nat.add_assoc]
  exact h _ v (flat_get hsz xs k i x v hx hv)
theorem rds_get {α : Type} {A : HProp} {bo : Option Addr} {enc : α → List Value} {sz : Nat} {xs : List α} {k : Nat} {x : α} (h : RdS A bo (xs.flatMap enc)) (hsz : ∀ x, (enc x).length = sz + 1) (hx : xs[k]? = some x) : ∃ b o, bo = some ⟨b, o, none⟩ ∧ RdN A b o (xs.flatMap enc) := by
  rcases h with h | h
  · have hk : k < xs.length := (List.getElem?_eq_some_iff.1 hx).1
    have := flat_len hsz xs
    rw [h] at this
    have h2 := Nat.mul_pos (Nat.lt_of_le_of_lt (Nat.zero_le _) hk) (Nat.succ_pos sz)
    rw [List.length_nil] at this
    rw [← this] at h2
    exact absurd h2 (Nat.lt_irrefl 0)
  · exact h
theorem rd_flat1 {α : Type} {A : HProp} {b o k : Nat} {enc : α → List Value} {xs : List α} {x : α} {v : Value} (h : RdN A b o (xs.flatMap enc)) (hsz : ∀ x, (enc x).length = 1) (hx : xs[k]? = some x) (hv : enc x = [v]) : Rd A b (o + k) v := by
  have := rdn_sub h hsz hx
  rw [hv, Nat.mul_one] at this
  exact rdn_one this
theorem get_lt {α : Type} {l : List α} {i : Nat} (h : i < l.length) : ∃ x, l[i]? = some x := ⟨l[i], List.getElem?_eq_getElem h⟩

/-! ### Numbers -/
theorem b_quo (tx : TypeId) {k' : IntKind} {p q : Int} (h0 : 0 ≤ p) (h1 : 0 < q) (hf : fits k' (p / q)) (w : World) : (binOp .quo tx (.int k' p) (.int k' q)).run P w = .ok (.int k' (p / q)) w := by
  have h2 : ¬ q = 0 := by omega
  have h3 : p.tdiv q = p / q := Int.tdiv_eq_ediv_of_nonneg h0
  simp [binOp, Op.intDiv, h2, h3, wrap_fits hf]
theorem b_rem (tx : TypeId) {k' : IntKind} {p q : Int} (h0 : 0 ≤ p) (h1 : 0 < q) (w : World) : (binOp .rem tx (.int k' p) (.int k' q)).run P w = .ok (.int k' (p % q)) w := by
  have h2 : ¬ q = 0 := by omega
  have h3 : p.tmod q = p % q := Int.tmod_eq_emod_of_nonneg h0
  simp [binOp, Op.intDiv, h2, h3]
theorem b_quoT (tx : TypeId) {k' : IntKind} {p q : Int} (h1 : q ≠ 0) (w : World) : (binOp .quo tx (.int k' p) (.int k' q)).run P w = .ok (.int k' (k'.wrap (p.tdiv q))) w := by
  simp [binOp, Op.intDiv, h1]
theorem b_remT (tx : TypeId) {k' : IntKind} {p q : Int} (h1 : q ≠ 0) (w : World) : (binOp .rem tx (.int k' p) (.int k' q)).run P w = .ok (.int k' (p.tmod q)) w := by
  simp [binOp, Op.intDiv, h1]
theorem b_shr (tx : TypeId) {k' : IntKind} {p : Int} {q : Nat} (h : q ≤ k'.bits) (w : World) : (binOp .shr tx (.int k' p) (.int k' (q : Int))).run P w = .ok (.int k' (p / 2 ^ q)) w := by
  have h1 : ¬ ((q : Int) < 0) := by omega
  have h2 : min q k'.bits = q := Nat.min_eq_left h
  have h3 : p.fdiv (2 ^ q) = p / 2 ^ q := Int.fdiv_eq_ediv_of_nonneg _ (Int.le_of_lt (Int.pow_pos (by decide)))
  simp [binOp, Op.shift, h1, h2, h3]
theorem b_shl (tx : TypeId) {k' : IntKind} {p : Int} {q : Nat} (h : q ≤ k'.bits) (w : World) : (binOp .shl tx (.int k' p) (.int k' (q : Int))).run P w = .ok (.int k' (k'.wrap (p * 2 ^ q))) w := by
  have h1 : ¬ ((q : Int) < 0) := by omega
  have h2 : min q k'.bits = q := Nat.min_eq_left h
  simp [binOp, Op.shift, h1, h2]
theorem q_conv {T U : TypeId} {x : Operand} {k1 k2 : IntKind} {z : Int} {du : TypeDesc} (ho : nthO l i = some ⟨some d, .convert U T x, ty, pos, af, g⟩) (hg : gd l e g = some true) (hn : Nat.blt d n = true) (hx : ev e x = some (.int k1 z)) (hT : P.underlying T = some (.int k2)) (hU : P.underlying U = some (.int k1))
    (k : Le (St w0 ds n ((d, .int k2 (k2.wrap z)) :: e) Γ) (wpRT P r l.toArray K t)) : Le (St w0 ds n e Γ) (wpRT P r l.toArray K (.q i t)) :=
  q_pure ho hg rfl hn rfl (fun _ h => by cases h) (fun a w s w' => by simp [execOp, s.ev hx, convert, run_underlying hT, run_underlying hU, Conv.intToInt]) k
theorem q_conv' {T U : TypeId} {x : Operand} {k1 k2 : IntKind} {z : Int} (ho : nthO l i = some ⟨some d, .convert U T x, ty, pos, af, g⟩) (hg : gd l e g = some true) (hn : Nat.blt d n = true) (hx : ev e x = some (.int k1 z)) (hT : P.underlying T = some (.int k2)) (hU : P.underlying U = some (.int k1)) (hf : fits k2 z)
    (k : Le (St w0 ds n ((d, .int k2 z) :: e) Γ) (wpRT P r l.toArray K t)) : Le (St w0 ds n e Γ) (wpRT P r l.toArray K (.q i t)) :=
  q_conv (du := .bool) ho hg hn hx hT hU (by rw [wrap_fits hf]; exact k)

/-! ### Texts -/
theorem q_str {op : BinOp} {x y : Operand} {tx tz : TypeId} {p q : ByteArray} {v : Value} (ho : nthO l i = some ⟨some d, .binOp op tx x y tz, ty, pos, af, g⟩) (hg : gd l e g = some true) (hn : Nat.blt d n = true)
    (hx : ev e x = some (.string p)) (hy : ev e y = some (.string q)) (hb : ∀ w, (binOp op tx (.string p) (.string q)).run P w = .ok v w)
    (k : Le (St w0 ds n ((d, v) :: e) Γ) (wpRT P r l.toArray K t)) : Le (St w0 ds n e Γ) (wpRT P r l.toArray K (.q i t)) :=
  q_pure ho hg rfl hn rfl (fun _ h => by cases h) (fun a w s w' => by
    simp only [execOp, s.ev hx, s.ev hy]
    have he : (eqGuard op tx x y (.string p) (.string q)) = pure () := eqGuard_at_string _ _ _ _ _ _
    simp [he, hb]) k
theorem b_slss (tx : TypeId) (p q : ByteArray) (w : World) : (binOp .lss tx (.string p) (.string q)).run P w = .ok (.bool (Op.bytesLess p.toList q.toList)) w := by simp [binOp, Op.stringOp]
theorem b_seql (tx : TypeId) (p q : ByteArray) (w : World) : (binOp .eql tx (.string p) (.string q)).run P w = .ok (.bool (p.toList == q.toList)) w := by simp [binOp, Op.stringOp]
theorem b_sneq (tx : TypeId) (p q : ByteArray) (w : World) : (binOp .neq tx (.string p) (.string q)).run P w = .ok (.bool (!(p.toList == q.toList))) w := by simp [binOp, Op.stringOp]

/-! ### Equality -/
theorem q_eqb {x y : Operand} {tx tz : TypeId} {p q : Bool} (ho : nthO l i = some ⟨some d, .binOp .eql tx x y tz, ty, pos, af, g⟩) (hg : gd l e g = some true) (hn : Nat.blt d n = true) (hx : ev e x = some (.bool p)) (hy : ev e y = some (.bool q)) (hu : P.underlying tx = some .bool)
    (k : Le (St w0 ds n ((d, .bool (p == q)) :: e) Γ) (wpRT P r l.toArray K t)) : Le (St w0 ds n e Γ) (wpRT P r l.toArray K (.q i t)) :=
  q_pure ho hg rfl hn rfl (fun _ h => by cases h) (fun a w s w' => by
    have h1 : (Op.equal tx (.bool p) (.bool q)).run P w' = .ok (p == q) w' := run_equalIn_bool' w' 9999 tx p q hu
    simp [execOp, s.ev hx, s.ev hy, eqGuard_at_bool, binOp, h1]) k
theorem q_neb {x y : Operand} {tx tz : TypeId} {p q : Bool} (ho : nthO l i = some ⟨some d, .binOp .neq tx x y tz, ty, pos, af, g⟩) (hg : gd l e g = some true) (hn : Nat.blt d n = true) (hx : ev e x = some (.bool p)) (hy : ev e y = some (.bool q)) (hu : P.underlying tx = some .bool)
    (k : Le (St w0 ds n ((d, .bool (p != q)) :: e) Γ) (wpRT P r l.toArray K t)) : Le (St w0 ds n e Γ) (wpRT P r l.toArray K (.q i t)) :=
  q_pure ho hg rfl hn rfl (fun _ h => by cases h) (fun a w s w' => by
    have h1 : (Op.equal tx (.bool p) (.bool q)).run P w' = .ok (p == q) w' := run_equalIn_bool' w' 9999 tx p q hu
    have h2 : (!(p == q)) = (p != q) := rfl
    simp [execOp, s.ev hx, s.ev hy, eqGuard_at_bool, binOp, h1, h2]) k
theorem q_eq_nils {x : Operand} {tx tz E : TypeId} {ao : Option Addr} {len cap : Nat} (ho : nthO l i = some ⟨some d, .binOp .eql tx x (.const (.slice none 0 0)) tz, ty, pos, af, g⟩) (hg : gd l e g = some true) (hn : Nat.blt d n = true) (hx : ev e x = some (.slice ao len cap)) (hu : P.underlying tx = some (.slice E))
    (k : Le (St w0 ds n ((d, .bool ao.isNone) :: e) Γ) (wpRT P r l.toArray K t)) : Le (St w0 ds n e Γ) (wpRT P r l.toArray K (.q i t)) :=
  q_pure ho hg rfl hn rfl (fun _ h => by cases h) (fun a w s w' => by
    have h1 := run_equal_slice_nil (P := P) w' tx E ao len cap hu
    simp [execOp, s.ev hx, eval_const, eqGuard_at_slice, binOp, h1]) k
theorem q_eq_nilm {x : Operand} {tx tz kk E : TypeId} {m : Option Nat} (ho : nthO l i = some ⟨some d, .binOp .eql tx x (.const (.map none)) tz, ty, pos, af, g⟩) (hg : gd l e g = some true) (hn : Nat.blt d n = true) (hx : ev e x = some (.map m)) (hu : P.underlying tx = some (.map kk E))
    (k : Le (St w0 ds n ((d, .bool m.isNone) :: e) Γ) (wpRT P r l.toArray K t)) : Le (St w0 ds n e Γ) (wpRT P r l.toArray K (.q i t)) :=
  q_pure ho hg rfl hn rfl (fun _ h => by cases h) (fun a w s w' => by
    have h1 := run_equal_map_nil (P := P) w' tx kk E m hu
    simp [execOp, s.ev hx, eval_const, eqGuard_at_map, binOp, h1]) k
/-- Two values of the type are told equal or not. -/
def EqC (P : Program) (d : Nat) (T : TypeId) (x y : Value) (b : Bool) : Prop := ∀ w, (Op.equalIn (d + 1) T x y).run P w = .ok b w
def EqF (P : Program) (d : Nat) (xs ys : List Value) (fs : List Field) (b : Bool) : Prop := ∀ w, (Op.eqFields (d + 1) xs.toArray ys.toArray fs).run P w = .ok b w
theorem eqc_int {T : TypeId} {k k' : IntKind} {p q : Int} {m : Nat} (hu : P.underlying T = some (.int k')) : EqC P m T (.int k p) (.int k q) (decide (p = q)) := fun w => by
  have : (p == q) = decide (p = q) := by rw [Bool.eq_iff_iff]; simp
  rw [run_equalIn_int w m T k k' p q hu, this]
theorem eqc_bool {T : TypeId} {p q : Bool} {m : Nat} (hu : P.underlying T = some .bool) : EqC P m T (.bool p) (.bool q) (p == q) := fun w => run_equalIn_bool' w m T p q hu
theorem eqc_string {T : TypeId} {p q : ByteArray} {m : Nat} (hu : P.underlying T = some .string) : EqC P m T (.string p) (.string q) (p == q) := fun w => by
  rw [run_equalIn_string w m T p q hu, beq_toListBytes]
theorem eqf_nil {m : Nat} {xs ys : List Value} : EqF P m xs ys [] true := fun w => rfl
theorem eqf_cons {m : Nat} {xs ys : List Value} {f : Field} {fs : List Field} {u v : Value} {b b' : Bool} (hn : (f.name != "_") = true) (hA : ∀ w, (isAgg f.type).run P w = .ok false w) (hx : xs[f.offset]? = some u) (hy : ys[f.offset]? = some v) (h : EqC P m f.type u v b) (h' : EqF P m xs ys fs b') : EqF P m xs ys (f :: fs) (b && b') := fun w => by
  have hn' : f.name ≠ "_" := by simpa using hn
  have hx' : xs.toArray[f.offset]? = some u := by simpa using hx
  have hy' : ys.toArray[f.offset]? = some v := by simpa using hy
  simp only [Op.eqFields, if_pos hn', Sem.run_bind, part, hA, Result.andThen_ok, Bool.false_eq_true, if_false, hx', hy', Sem.run_pure, h w]
  cases b with
  | false => simp
  | true => simpa using h' w
theorem eqf_last {m : Nat} {xs ys : List Value} {f : Field} {u v : Value} {b : Bool} (hn : (f.name != "_") = true) (hA : ∀ w, (isAgg f.type).run P w = .ok false w) (hx : xs[f.offset]? = some u) (hy : ys[f.offset]? = some v) (h : EqC P m f.type u v b) : EqF P m xs ys [f] b := by
  have := eqf_cons hn hA hx hy h (eqf_nil (P := P) (m := m))
  rwa [Bool.and_true] at this
theorem eqc_struct {T : TypeId} {fs : List Field} {xs ys : List Value} {m : Nat} {b : Bool} (hu : P.underlying T = some (.struct fs.toArray)) (hp : P.stoodInHeld T = false) (h : EqF P m xs ys fs b) : EqC P (m + 1) T (.agg xs.toArray) (.agg ys.toArray) b := fun w => by
  have hf : P.fieldsOf T = fs.toArray := by simp [Program.fieldsOf, hu]
  rw [run_equalIn_struct w (m + 1) T _ _ (by rw [hf]; exact hu) hp, hf]
  exact h w
theorem q_eqS {x y : Operand} {tx tz : TypeId} {xs ys : List Value} {b : Bool} (ho : nthO l i = some ⟨some d, .binOp .eql tx x y tz, ty, pos, af, g⟩) (hg : gd l e g = some true) (hn : Nat.blt d n = true) (hx : ev e x = some (.agg xs.toArray)) (hy : ev e y = some (.agg ys.toArray)) (hm : P.eqGuardType P.depth tx = false) (h : EqC P 9999 tx (.agg xs.toArray) (.agg ys.toArray) b)
    (k : Le (St w0 ds n ((d, .bool b) :: e) Γ) (wpRT P r l.toArray K t)) : Le (St w0 ds n e Γ) (wpRT P r l.toArray K (.q i t)) :=
  q_pure ho hg rfl hn rfl (fun _ h => by cases h) (fun a w s w' => by
    have h1 := run_eqGuard_agg (P := P) w' .eql tx x y xs.toArray ys.toArray hm
    simp only [execOp, s.ev hx, s.ev hy, Sem.run_bind, h1, Result.andThen_ok, run_eql_struct, h w', Sem.run_pure]) k
theorem q_neS {x y : Operand} {tx tz : TypeId} {xs ys : List Value} {b : Bool} (ho : nthO l i = some ⟨some d, .binOp .neq tx x y tz, ty, pos, af, g⟩) (hg : gd l e g = some true) (hn : Nat.blt d n = true) (hx : ev e x = some (.agg xs.toArray)) (hy : ev e y = some (.agg ys.toArray)) (hm : P.eqGuardType P.depth tx = false) (h : EqC P 9999 tx (.agg xs.toArray) (.agg ys.toArray) b)
    (k : Le (St w0 ds n ((d, .bool (!b)) :: e) Γ) (wpRT P r l.toArray K t)) : Le (St w0 ds n e Γ) (wpRT P r l.toArray K (.q i t)) :=
  q_pure ho hg rfl hn rfl (fun _ h => by cases h) (fun a w s w' => by
    have h1 := run_eqGuard_agg (P := P) w' .neq tx x y xs.toArray ys.toArray hm
    simp only [execOp, s.ev hx, s.ev hy, Sem.run_bind, h1, Result.andThen_ok, run_neq_struct, h w', Sem.run_pure]) k

/-! ### Put together -/
/-- The sizes of fields. -/
def SzL (P : Program) : List Field → List (Nat × Nat) → Prop
  | [], [] => True
  | f :: fs, p :: ps => f.offset = p.1 ∧ (∀ w, (sizeOf f.type).run P w = .ok p.2 w) ∧ SzL P fs ps
  | _, _ => False
theorem run_szl : ∀ (fs : List Field) (ps : List (Nat × Nat)) (w : World), SzL P fs ps → (fs.mapM fun f => Prod.mk f.offset <$> sizeOf f.type).run P w = .ok ps w
  | [], [], w, h => by simp
  | [], p :: ps, w, h => h.elim
  | f :: fs, [], w, h => h.elim
  | f :: fs, p :: ps, w, ⟨h1, h2, h3⟩ => by
    simp [List.mapM_cons, h2, run_szl fs ps w h3, h1]
/-- Parts laid into a list of cells. -/
def fillV (place : Nat → Option (Nat × Nat)) : List Value → List (Nat × Value) → Option (List Value)
  | cs, [] => some cs
  | cs, (i, v) :: rest => match place i with
    | none => none
    | some (off, size) => cond (Nat.beq v.cells.toList.length size && Nat.ble (off + size) cs.length) (fillV place (setL cs off v.cells.toList) rest) none
theorem foldl_setL : ∀ (us : List Value) (cs : Array Value) (off k : Nat), ((us.zipIdx k).foldl (fun cs (c, j) => cs.setIfInBounds (off + j) c) cs).toList = setL cs.toList (off + k) us
  | [], cs, off, k => rfl
  | u :: us, cs, off, k => by
    rw [List.zipIdx_cons, List.foldl_cons, foldl_setL us, Array.toList_setIfInBounds, setL, Nat.add_assoc]
theorem fill_of_fillV {place : Nat → Option (Nat × Nat)} : ∀ (parts : List (Nat × Value)) (cs : Array Value) (vs : List Value), fillV place cs.toList parts = some vs → Instr.fill place cs parts = some vs.toArray
  | [], cs, vs, h => by simp only [fillV, Option.some.injEq] at h; subst h; rfl
  | (i, v) :: rest, cs, vs, h => by
    simp only [fillV] at h
    cases hp : place i with
    | none => simp [hp] at h
    | some p =>
      obtain ⟨off, size⟩ := p
      simp only [hp] at h
      cases h1 : Nat.beq v.cells.toList.length size with
      | false => simp only [h1, Bool.false_and, cond_false] at h; cases h
      | true =>
        cases h2 : Nat.ble (off + size) cs.toList.length with
        | false => simp only [h1, h2, Bool.and_false, cond_false] at h; cases h
        | true =>
          simp only [h1, h2, Bool.and_true, cond_true] at h
          have e1 : v.cells.size = size := by rw [← Array.length_toList]; exact Nat.eq_of_beq_eq_true h1
          have e2 : off + size ≤ cs.size := by rw [← Array.length_toList]; exact Nat.le_of_ble_eq_true h2
          have e3 : (v.cells.zipIdx.foldl (fun cs (c, j) => cs.setIfInBounds (off + j) c) cs).toList = setL cs.toList off v.cells.toList := by
            have := foldl_setL v.cells.toList cs off 0
            rw [Nat.add_zero] at this
            rw [← this, ← Array.foldl_toList, Array.toList_zipIdx]
          simp only [Instr.fill, hp]
          rw [if_neg (by simp; omega)]
          exact fill_of_fillV rest _ vs (by rw [e3]; exact h)
theorem run_buildS {T : TypeId} {fs : List Field} {ps : List (Nat × Nat)} {z : Value} {parts : List (Nat × Value)} {vs : List Value} (hu : P.underlying T = some (.struct fs.toArray)) (hz : ∀ w, (zeroValue T).run P w = .ok z w) (hs : SzL P fs ps)
    (hf : fillV (fun i => ps[i]?) z.cells.toList parts = some vs) (w : World) : (Instr.build T parts.toArray).run P w = .ok (.agg vs.toArray) w := by
  have hf := fill_of_fillV parts z.cells vs hf
  simp [Instr.build, run_underlying hu, hz, Array.mapM_eq_mapM_toList, run_szl _ _ w hs, hf]
theorem zeros_list (z : Array Value) : ∀ k : Nat, ((Array.range (k * z.size)).map fun x => z[x % z.size]!).toList = (List.replicate k z.toList).flatten := by
  intro k
  rw [Array.toList_map, Array.toList_range]
  induction k with
  | zero => simp
  | succ k ih =>
    rw [List.replicate_succ', List.flatten_concat, ← ih, Nat.succ_mul]
    rw [List.range_add, List.map_append]
    congr 1
    apply List.ext_getElem?
    intro j
    simp only [List.map_map, List.getElem?_map, List.getElem?_range]
    by_cases hj : j < z.size
    · rw [List.getElem?_range hj]
      have : (k * z.size + j) % z.size = j := by rw [Nat.mul_comm, Nat.mul_add_mod]; exact Nat.mod_eq_of_lt hj
      simp [this, hj]
    · rw [List.getElem?_eq_none (by simpa using hj)]
      simp [Nat.le_of_not_lt hj]
theorem run_buildSl {T E : TypeId} {m sz : Nat} {z : Value} {parts : List (Nat × Value)} {vs : List Value} (hu : P.underlying T = some (.slice E)) (hs : ∀ w, (sizeOf E).run P w = .ok sz w) (hz : ∀ w, (zeroValue E).run P w = .ok z w) (h1 : Nat.blt 0 (m * sz) = true) (h2 : Nat.ble (m * sz) 16777216 = true) (h3 : z.cells.size = sz)
    (hf : fillV (fun i => some (i * sz, sz)) (List.replicate m z.cells.toList).flatten parts = some vs) (w : World) :
    (Instr.buildSlice T m parts.toArray).run P w = .ok (.slice (some ⟨w.heap.size, 0, none⟩) m m) (w.alloc (.cells vs.toArray E)) := by
  have h1' : ¬ m * sz = 0 := by
    have : 1 ≤ m * sz := Nat.le_of_ble_eq_true h1
    omega
  have h2' : ¬ 16777216 < m * sz := by
    have := Nat.le_of_ble_eq_true h2
    omega
  have hf : Instr.fill (fun i => some (i * sz, sz)) ((Array.range (m * sz)).map (z.cells[· % z.cells.size]!)) parts = some vs.toArray := by
    refine fill_of_fillV _ _ _ ?_
    rw [← hf, ← h3, zeros_list]
  simp only [Instr.buildSlice, Sem.run_bind, run_underlying hu, hs, Result.andThen_ok, if_neg h1']
  rw [if_neg (by omega)]
  simp only [Sem.run_bind, Sem.run_pure, hz, Result.andThen_ok]
  simp [hf, newRow]

/-- A slice of no elements. -/
theorem l_buildSlice0 {T E : TypeId} {sz : Nat} (ho : nthO l i = some ⟨some d, .buildSlice T 0 #[], ty, pos, af, g⟩) (hg : gd l e g = some true) (hn : Nat.blt d n = true) (hu0 : (0 : Nat) = 0) (hu : P.underlying T = some (.slice E)) (hs : ∀ w, (sizeOf E).run P w = .ok sz w)
    (k : ∀ b, Le (St w0 ds n ((d, .slice (some ⟨b, 0, none⟩) 0 0) :: e) (cells b 0 [] :: Γ)) (AG P r l.toArray fl (wpRT P r l.toArray K t))) : Le (St w0 ds n e Γ) (wpRT P r l.toArray K (.l i fl t)) :=
  l_buildSlice (E := E) (ps := []) (us := []) (vs := []) ho hg hn rfl (fun w => by
    have h0 : ∀ f : Nat → Value, (Array.range 0).map f = #[] := fun f => by apply Array.ext'; simp
    simp [Instr.buildSlice, run_underlying hu, hs, Instr.fill, newRow, h0]) k
theorem own_fc {α : Type} {sz : Nat} {enc : α → List Value} {ao : Option Addr} {cap : Nat} {xs : List α} {X : Act → World → Prop} (k : xs.length ≤ cap → (ao = none → xs = [] ∧ cap = 0) → (ao ≠ none → ∃ b off, ao = some ⟨b, off, none⟩) → Le (St w0 ds n e (own sz enc ao cap xs :: Γ)) X) : Le (St w0 ds n e (own sz enc ao cap xs :: Γ)) X := fun a w s => by
  obtain ⟨h1, h2, h3⟩ := own_le s.heap
  exact k h1 h2 h3 a w s

/-! ### Results that lie in cells -/
def ResV (P : Program) (n : Nat) (e : Env) (Γ : List HProp) (v : ResultVar) (u : Value) : Prop := ∀ a w w0, St w0 [] n e Γ a w → (match v with
  | .tmp t => (pure (a.tmps.getD t undef) : Sem Value)
  | .cell p t => do loadVar t (← asAddr (a.tmps.getD p undef))).run P w = .ok u w
def ResL (P : Program) (n : Nat) (e : Env) (Γ : List HProp) : List ResultVar → List Value → Prop
  | [], [] => True
  | v :: vs, u :: us => ResV P n e Γ v u ∧ ResL P n e Γ vs us
  | _, _ => False
theorem rv_tmp {k : Nat} {u : Value} (h : look e k = some u) : ResV P n e Γ (.tmp k) u := fun a w w0 s => by simp only [Sem.run_pure, s.env k u h]
theorem rv_cell1 {k : Nat} {T : TypeId} {b o off j : Nat} {u : Value} {vs : List Value} {Γ' : List HProp} (h : look e k = some (.pointer (some ⟨b, o, none⟩))) (hA : ∀ w, (isAgg T).run P w = .ok false w) (tk : Take Γ (cells b off vs) Γ') (hj : o = off + j) (hv : vs[j]? = some u) : ResV P n e Γ (.cell k T) u := fun a w w0 s => by
  subst hj
  have h1 := (rd_c (b := b) (off := off) j hv).world (tk _ s.heap)
  simp [s.env k _ h, asAddr, loadVar, hA, h1]
theorem rv_cellN {k : Nat} {T : TypeId} {b o off sz : Nat} {vs us : List Value} {Γ' : List HProp} (h : look e k = some (.pointer (some ⟨b, o, none⟩))) (hA : ∀ w, (isAgg T).run P w = .ok true w) (hs : ∀ w, (sizeOf T).run P w = .ok sz w) (tk : Take Γ (cells b off vs) Γ') (j : Nat) (hj : o = off + j) (hu : (vs.drop j).take sz = us) (hl : us.length = sz) : ResV P n e Γ (.cell k T) (.agg us.toArray) := fun a w w0 s => by
  subst hj
  have h1 := run_loadN (P := P) (T := T) (b := b) (o := off + j) (vs := us) (w := w) hA (by rw [hl]; exact hs) (fun q v hq => by
    rw [Nat.add_assoc]
    rw [← hu, List.getElem?_take] at hq
    split at hq
    · rw [List.getElem?_drop] at hq; exact (rd_c (b := b) (off := off) (j + q) hq).world (tk _ s.heap)
    · cases hq)
  simp only [Instr.loadAt, Instr.sureAddr] at h1
  simp [s.env k _ h, asAddr]
  simpa using h1
theorem run_resL {a : Act} {w : World} (s : St w0 [] n e Γ a w) : ∀ (rs : List ResultVar) (us : List Value), ResL P n e Γ rs us → (rs.mapM (fun v : ResultVar => match v with
  | .tmp t => (pure (a.tmps.getD t undef) : Sem Value)
  | .cell p t => do loadVar t (← asAddr (a.tmps.getD p undef)))).run P w = .ok us w
  | [], [], h => by simp
  | [], _ :: _, h => h.elim
  | _ :: _, [], h => h.elim
  | v :: vs, u :: us, ⟨h1, h2⟩ => by
    have h3 := h1 a w w0 s
    have h4 := run_resL s vs us h2
    simp only [List.mapM_cons, Sem.run_bind, h3, h4, Result.andThen_ok, Sem.run_pure]
def tup : List Value → Value
  | [u] => u
  | us => .tuple us.toArray
theorem retL {α : Type} {Γ0 : List HProp} {v : α → Value} {φ : α → Prop} {Δ' : α → List HProp} {fn : Func} {rs : List ResultVar} {us : List Value} (hf : fn.results = rs.toArray) (hl : ResL P n e Γ rs us) (x : α) (hu : tup us = v x) (hx : φ x) (hΓ : Takes Γ (Δ' x) Γ0) :
    Le (St w0 [] n e Γ) (bodyPost P fn (postR w0 Γ0 v φ Δ') .ret) := ret_gen (fun a w s => by
      have h1 := run_resL s rs us hl
      have h2 : (results fn a.tmps).run P w = .ok (tup us) w := by
        have h3 : (fn.results.mapM (fun v : ResultVar => match v with
            | .tmp t => (pure (a.tmps.getD t undef) : Sem Value)
            | .cell p t => do loadVar t (← asAddr (a.tmps.getD p undef)))).run P w = .ok us.toArray w := by
          rw [hf, Array.mapM_eq_mapM_toList]
          simp only [map_eq_pure_bind, Sem.run_bind, h1, Result.andThen_ok, Sem.run_pure]
        unfold results
        rw [Sem.run_bind]
        refine Eq.trans (congrArg (fun x => Result.andThen x _) h3) ?_
        simp only [Result.andThen_ok, Sem.run_pure]
        match us with
        | [] => rfl
        | [u] => rfl
        | u :: v :: us => simp [tup]
      exact h2) x hu hx hΓ

/-! ### clear, on an owned slice (or its end) -/
theorem l_clear {α : Type} {T E : TypeId} {x : Operand} {bo ao : Option Addr} {m c len cap h sz : Nat} {enc : α → List Value} {xs : List α} {z : Value} {Γ' : List HProp} (x0 : α) (ho : nthO l i = some ⟨none, .call ⟨.builtin .clear, #[x], #[T]⟩, ty, pos, af, g⟩) (hg : gd l e g = some true)
    (hx : ev e x = some (.slice bo m c)) (hbo : bo = cutA ao cap h sz) (hm : m = len - h) (hu : P.underlying T = some (.slice E)) (hz : ∀ w, (zeroValue E).run P w = .ok z w) (henc : enc x0 = z.cells.toList) (hsz : ∀ x, (enc x).length = sz) (h1 : (enc x0).all Value.oneCell' = true)
    (tk : Take Γ (own sz enc ao cap xs) Γ') (hlen : xs.length = len) (hle : h ≤ len)
    (k : Le (St w0 ds n e (own sz enc ao cap (xs.take h ++ List.replicate (len - h) x0) :: Γ')) (AG P r l.toArray fl (wpRT P r l.toArray K t))) : Le (St w0 ds n e Γ) (wpRT P r l.toArray K (.l i fl t)) :=
  l_gen ho hg (fun _ h => by cases h) (fun a w s => by
    subst hlen
    have s1 := tk _ s.heap
    obtain ⟨hc, hn, hs⟩ := own_le s1
    have hzs : z.cells.size = sz := by rw [← Array.length_toList, ← henc, hsz]
    by_cases hm0 : m = 0
    · have hh : h = xs.length := by omega
      have hr : (execOp a.eval ⟨none, .call ⟨.builtin .clear, #[x], #[T]⟩, ty, pos, af, g⟩).run P w = .ok (.value (.tuple #[])) w := by
        subst hm0
        cases bo <;> simp [execOp, resolve, invoke, builtin, s.ev hx, Builtin.clear_, run_underlying hu]
      rw [hr]
      refine k _ _ (s.world ?_ (Amb.refl w))
      rw [hh, List.take_length, Nat.sub_self, List.replicate_zero, List.append_nil]
      exact s1
    · have hlt : h < xs.length := by omega
      have hlc : h < cap := by omega
      cases ao with
      | none => obtain ⟨h3, -⟩ := hn rfl; subst h3; simp at hlt
      | some p =>
        obtain ⟨b, off, hp⟩ := hs (by simp)
        cases hp
        rw [cutA_lt hlc] at hbo
        subst hbo
        obtain ⟨sp, hsp, s2⟩ := own_cells s1
        have hzl : (Builtin.zeroCells z.cells m).toList = (List.replicate m x0).flatMap enc := by
          have h3 : ∀ q : Nat, (Builtin.zeroCells z.cells q).toList = (List.replicate q x0).flatMap enc := by
            intro q
            rw [List.flatMap_def, List.map_replicate, henc]
            unfold Builtin.zeroCells
            rw [Array.toList_map, Array.toList_range]
            induction q with
            | zero => simp
            | succ q ih =>
              rw [List.replicate_succ', List.flatten_concat, ← ih, Nat.succ_mul, List.range_add, List.map_append]
              congr 1
              apply List.ext_getElem?
              intro j
              simp only [List.map_map, List.getElem?_map, List.getElem?_range]
              by_cases hj : j < z.cells.size
              · rw [List.getElem?_range hj]
                have : (q * z.cells.size + j) % z.cells.size = j := by rw [Nat.mul_comm, Nat.mul_add_mod]; exact Nat.mod_eq_of_lt hj
                simp [this, hj]
              · rw [List.getElem?_eq_none (by simpa using hj)]
                simp [Nat.le_of_not_lt hj]
          exact h3 m
        have hzlen : ((List.replicate m x0).flatMap enc).length = m * sz := by rw [flat_len hsz, List.length_replicate]
        have hall : ((List.replicate m x0).flatMap enc).all Value.oneCell' = true := by
          rw [List.all_flatMap, List.all_replicate]; simp [h1]
        have hmle : h * sz + m * sz ≤ xs.length * sz := by rw [← Nat.add_mul]; exact Nat.mul_le_mul_right _ (by omega)
        obtain ⟨w', e1, e2, e3⟩ := run_storeSat (P := P) ((List.replicate m x0).flatMap enc) (h * sz) 0 _ _ w s2 (by rw [hzlen, List.length_append, flat_len hsz]; omega) hall
        have hr : (execOp a.eval ⟨none, .call ⟨.builtin .clear, #[x], #[T]⟩, ty, pos, af, g⟩).run P w = .ok (.value (.tuple #[])) w' := by
          obtain ⟨m, rfl⟩ := Nat.exists_eq_succ_of_ne_zero hm0
          simp [execOp, resolve, invoke, builtin, s.ev hx, Builtin.clear_, run_underlying hu, hz]
          rw [hzl]
          simp [e1]
        rw [hr]
        refine k _ _ (s.world ?_ e3)
        have e4 := setL_eq ((List.replicate m x0).flatMap enc) ((xs.take h).flatMap enc) ((xs.drop h).flatMap enc) sp (by rw [hzlen, flat_len hsz, List.length_drop, hm])
        rw [← List.flatMap_append, List.take_append_drop, flat_len hsz, List.length_take, Nat.min_eq_left hle] at e4
        rw [Nat.add_zero, e4] at e2
        subst hm
        refine own_mk (sp := sp) (by simp; omega) ?_ (by rw [List.flatMap_append]; exact e2)
        rw [hsp]
        congr 2
        simp; omega)
end
end Go.Ab
