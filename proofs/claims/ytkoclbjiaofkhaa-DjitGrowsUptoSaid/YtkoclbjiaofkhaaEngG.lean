/- The engine, part G: contracts, calls, a function's head and end; loads by the kind of resource; cuts, makes, copies. -/
import Derived.Test.YtkoclbjiaofkhaaEngF
set_option linter.unusedVariables false
set_option linter.unusedSimpArgs false
namespace Go.Ab
open Go

/-- A contract: with the resources Δ (and whatever else), the call returns v x for some x that meets φ, with the resources Δ' x (and whatever else). -/
def Spec (P : Program) (f : FuncId) (args : List Value) (Δ : List HProp) {α : Type} (v : α → Value) (φ : α → Prop) (Δ' : α → List HProp) : Prop :=
  ∀ (Γ : List HProp) (w : World), Sat (Δ ++ Γ) (lh w) → Calls P f args.toArray w fun e w' => ∃ x, e = .returned (v x) ∧ φ x ∧ Sat (Δ' x ++ Γ) (lh w') ∧ Amb w w'
/-- What a body owes. -/
def postR (w0 : World) (Γ : List HProp) {α : Type} (v : α → Value) (φ : α → Prop) (Δ' : α → List HProp) : Ending → World → Prop :=
  fun e w' => ∃ x, e = .returned (v x) ∧ φ x ∧ Sat (Δ' x ++ Γ) (lh w') ∧ Amb w0 w'
theorem Spec.conseq {P : Program} {f : FuncId} {args : List Value} {Δ : List HProp} {α β : Type} {v : α → Value} {φ : α → Prop} {Δ' : α → List HProp} {v2 : β → Value} {φ2 : β → Prop} {Δ2 Δ2' : _}
    (h : Spec P f args Δ v φ Δ') (k : ∀ Γ hp, Sat (Δ2 ++ Γ) hp → Sat (Δ ++ Γ) hp) (k' : ∀ x, φ x → ∃ y : β, v x = v2 y ∧ φ2 y ∧ ∀ Γ hp, Sat (Δ' x ++ Γ) hp → Sat (Δ2' y ++ Γ) hp) : Spec P f args Δ2 v2 φ2 Δ2' :=
  fun Γ w s => (h Γ w (k Γ _ s)).mono fun e w' ⟨x, e1, hx, s', a⟩ => by
    obtain ⟨y, e2, hy, k2⟩ := k' x hx
    exact ⟨y, by rw [e1, e2], hy, k2 Γ _ s', a⟩
/-- The first slots. -/
def argE : Nat → List Value → Env
  | _, [] => []
  | i, v :: vs => (i, v) :: argE (i + 1) vs
theorem look_argE : ∀ (vs : List Value) (i t : Nat) (v : Value), look (argE i vs) t = some v → i ≤ t ∧ vs[t - i]? = some v
  | [], i, t, v, h => by cases h
  | u :: vs, i, t, v, h => by
    simp only [argE, look] at h
    cases hb : Nat.beq i t with
    | true =>
      rw [hb] at h
      have := Nat.eq_of_beq_eq_true hb
      subst this
      simp only [cond_true, Option.some.injEq] at h
      exact ⟨Nat.le_refl _, by simpa using h⟩
    | false =>
      rw [hb] at h
      obtain ⟨h1, h2⟩ := look_argE vs (i + 1) t v h
      refine ⟨by omega, ?_⟩
      rw [show t - i = (t - (i + 1)) + 1 from by omega]
      simpa using h2
theorem spec_mk {P : Program} {f : FuncId} {args : List Value} {Δ : List HProp} {α : Type} {v : α → Value} {φ : α → Prop} {Δ' : α → List HProp} {fn : Func} {c : Code} {n : Nat} (hf : P.funcs[f]? = some fn) (hb : fn.body = some c) (hn : fn.ntmps = n) (hle : Nat.ble args.length n = true)
    (h : ∀ Γ w0, Le (St w0 [] n (argE 0 args) (Δ ++ Γ)) (c.wpIn (fz none) 0 P (bodyPost P fn (postR w0 Γ v φ Δ')))) : Spec P f args Δ v φ Δ' := by
  intro Γ w s
  have hle : args.length ≤ n := Nat.le_of_ble_eq_true hle
  refine calls_of_wp hf hb ?_
  refine (wpIn_wide (n := 0)).1 (h Γ w _ _ ⟨rfl, by simp [hn]; omega, fun t u ht => ?_, s, Amb.refl w⟩)
  obtain ⟨-, h2⟩ := look_argE args 0 t u ht
  have hlt : t < args.length := by
    rcases Nat.lt_or_ge t args.length with h' | h'
    · exact h'
    · rw [Nat.sub_zero, List.getElem?_eq_none h'] at h2; cases h2
  rw [Nat.sub_zero] at h2
  simp only [Array.getD_eq_getD_getElem?]
  rw [Array.getElem?_append_left (by simpa using hlt)]
  simp [h2]

section
variable {P : Program} {r : Option Nat} {w0 : World} {ds : List Deferred} {n : Nat} {e : Env} {Γ : List HProp} {K : Act → World → Prop} {l : List Oper} {i : Nat} {t : RT} {fl : List Nat}
variable {d : Nat} {ty : TypeId} {pos : String} {af : Array Edge} {g : Option (Nat × Bool)}

/-! ### A function's end -/
theorem ret_gen {α : Type} {Γ0 : List HProp} {v : α → Value} {φ : α → Prop} {Δ' : α → List HProp} {fn : Func} {u : Value} (hr : ∀ a w, St w0 [] n e Γ a w → (results fn a.tmps).run P w = .ok u w) (x : α) (hu : u = v x) (hx : φ x) (hΓ : Takes Γ (Δ' x) Γ0) :
    Le (St w0 [] n e Γ) (bodyPost P fn (postR w0 Γ0 v φ Δ') .ret) := fun a w s => ⟨s.defers, u, hr a w s, x, by rw [hu], hx, hΓ _ s.heap, s.amb⟩
theorem ret_end {α : Type} {Γ0 : List HProp} {v : α → Value} {φ : α → Prop} {Δ' : α → List HProp} {fn : Func} (h : Le (St w0 [] n e Γ) (bodyPost P fn (postR w0 Γ0 v φ Δ') .ret)) :
    Le (St w0 [] n e Γ) (bodyPost P fn (postR w0 Γ0 v φ Δ') .normal) := h
theorem ret0 {α : Type} {Γ0 : List HProp} {v : α → Value} {φ : α → Prop} {Δ' : α → List HProp} {fn : Func} (hf : fn.results = #[]) (x : α) (hu : .tuple #[] = v x) (hx : φ x) (hΓ : Takes Γ (Δ' x) Γ0) :
    Le (St w0 [] n e Γ) (bodyPost P fn (postR w0 Γ0 v φ Δ') .ret) := ret_gen (fun a w s => results_none hf _ _ _) x hu hx hΓ
theorem ret1 {α : Type} {Γ0 : List HProp} {v : α → Value} {φ : α → Prop} {Δ' : α → List HProp} {fn : Func} {k : Nat} {u : Value} (hf : fn.results = #[.tmp k]) (hl : look e k = some u) (x : α) (hu : u = v x) (hx : φ x) (hΓ : Takes Γ (Δ' x) Γ0) :
    Le (St w0 [] n e Γ) (bodyPost P fn (postR w0 Γ0 v φ Δ') .ret) := ret_gen (fun a w s => by rw [results_tmp hf, s.env k u hl]) x hu hx hΓ
theorem ret2 {α : Type} {Γ0 : List HProp} {v : α → Value} {φ : α → Prop} {Δ' : α → List HProp} {fn : Func} {k k2 : Nat} {u u2 : Value} (hf : fn.results = #[.tmp k, .tmp k2]) (hl : look e k = some u) (hl2 : look e k2 = some u2) (x : α) (hu : .tuple #[u, u2] = v x) (hx : φ x) (hΓ : Takes Γ (Δ' x) Γ0) :
    Le (St w0 [] n e Γ) (bodyPost P fn (postR w0 Γ0 v φ Δ') .ret) := ret_gen (fun a w s => by rw [results_tmp2 hf, s.env k u hl, s.env k2 u2 hl2]) x hu hx hΓ
theorem takes_drop {A : HProp} {Γ Γ0 : List HProp} (h : Takes Γ [] Γ0) : Takes (A :: Γ) [] Γ0 := fun hp s => h hp s.tail

/-! ### Calls -/
theorem l_call {fo : Operand} {xs : List Operand} {ts : Array TypeId} {f : FuncId} {fi ca vs full : List Value} {Δ Γ' : List HProp} {α : Type} {v : α → Value} {φ : α → Prop} {Δ' : α → List HProp}
    (ho : nthO l i = some ⟨some d, .call ⟨.value fo, xs.toArray, ts⟩, ty, pos, af, g⟩) (hg : gd l e g = some true) (hn : Nat.blt d n = true) (hf : ev e fo = some (.func (.func f) fi.toArray ca.toArray)) (hxs : evs e xs = some vs) (hfull : fi ++ vs ++ ca = full)
    (hc : ∀ args w, (callFunc f args).run P w = .ok (.enter f args) w) (hs : Spec P f full Δ v φ Δ') (tk : Takes Γ Δ Γ')
    (k : ∀ x, φ x → Le (St w0 ds n ((d, v x) :: e) (Δ' x ++ Γ')) (AG P r l.toArray fl (wpRT P r l.toArray K t))) : Le (St w0 ds n e Γ) (wpRT P r l.toArray K (.l i fl t)) :=
  l_gen ho hg (fun _ h => by cases h) (fun a w s => by
    have hargs : Array.map a.eval xs.toArray = vs.toArray := by rw [List.map_toArray, s.evs hxs]
    have hr : (execOp a.eval ⟨some d, .call ⟨.value fo, xs.toArray, ts⟩, ty, pos, af, g⟩).run P w = .ok (.enter f full.toArray) w := by
      subst hfull
      simp only [execOp, resolve, hargs, s.ev hf, Deferred.ofValue, invoke, Sem.run_bind, Sem.run_pure, Result.andThen_ok, hc]
      simp
    rw [hr]
    refine (hs Γ' w (tk _ s.heap)).mono ?_
    rintro e' w' ⟨x, rfl, hx, s', am⟩
    exact ⟨_, rfl, k x hx _ _ ((s.world s' am).put hn)⟩)
theorem l_call_n {fo : Operand} {xs : List Operand} {ts : Array TypeId} {f : FuncId} {fi ca vs full : List Value} {Δ Γ' : List HProp} {α : Type} {v : α → Value} {φ : α → Prop} {Δ' : α → List HProp}
    (ho : nthO l i = some ⟨none, .call ⟨.value fo, xs.toArray, ts⟩, ty, pos, af, g⟩) (hg : gd l e g = some true) (hf : ev e fo = some (.func (.func f) fi.toArray ca.toArray)) (hxs : evs e xs = some vs) (hfull : fi ++ vs ++ ca = full)
    (hc : ∀ args w, (callFunc f args).run P w = .ok (.enter f args) w) (hs : Spec P f full Δ v φ Δ') (tk : Takes Γ Δ Γ')
    (k : ∀ x, φ x → Le (St w0 ds n e (Δ' x ++ Γ')) (AG P r l.toArray fl (wpRT P r l.toArray K t))) : Le (St w0 ds n e Γ) (wpRT P r l.toArray K (.l i fl t)) :=
  l_gen ho hg (fun _ h => by cases h) (fun a w s => by
    have hargs : Array.map a.eval xs.toArray = vs.toArray := by rw [List.map_toArray, s.evs hxs]
    have hr : (execOp a.eval ⟨none, .call ⟨.value fo, xs.toArray, ts⟩, ty, pos, af, g⟩).run P w = .ok (.enter f full.toArray) w := by
      subst hfull
      simp only [execOp, resolve, hargs, s.ev hf, Deferred.ofValue, invoke, Sem.run_bind, Sem.run_pure, Result.andThen_ok, hc]
      simp
    rw [hr]
    refine (hs Γ' w (tk _ s.heap)).mono ?_
    rintro e' w' ⟨x, rfl, hx, s', am⟩
    exact ⟨_, rfl, k x hx _ _ (s.world s' am)⟩)

/-! ### Loads by the kind of resource -/
theorem q_load_c {T : TypeId} {x : Operand} {b o off j : Nat} {v : Value} {vs : List Value} {Γ' : List HProp} (ho : nthO l i = some ⟨some d, .load T x, ty, pos, af, g⟩) (hg : gd l e g = some true) (hn : Nat.blt d n = true)
    (hx : ev e x = some (.pointer (some ⟨b, o, none⟩))) (hA : ∀ w, (isAgg T).run P w = .ok false w) (tk : Take Γ (cells b off vs) Γ') (hj : o = off + j) (hv : vs[j]? = some v)
    (k : Le (St w0 ds n ((d, v) :: e) Γ) (wpRT P r l.toArray K t)) : Le (St w0 ds n e Γ) (wpRT P r l.toArray K (.q i t)) :=
  q_load ho hg hn hx hA tk (hj ▸ rd_cells hv) k
theorem q_load_o {α : Type} {T : TypeId} {x : Operand} {b o off j k' cap sz : Nat} {enc : α → List Value} {xs : List α} {p : α} {v : Value} {Γ' : List HProp} (ho : nthO l i = some ⟨some d, .load T x, ty, pos, af, g⟩) (hg : gd l e g = some true) (hn : Nat.blt d n = true)
    (hx : ev e x = some (.pointer (some ⟨b, o, none⟩))) (hA : ∀ w, (isAgg T).run P w = .ok false w) (tk : Take Γ (own sz enc (some ⟨b, off, none⟩) cap xs) Γ') (hsz : ∀ x, (enc x).length = sz) (hj : o = off + k' * sz + j) (hp : xs[k']? = some p) (hv : (enc p)[j]? = some v)
    (k : Le (St w0 ds n ((d, v) :: e) Γ) (wpRT P r l.toArray K t)) : Le (St w0 ds n e Γ) (wpRT P r l.toArray K (.q i t)) :=
  q_load ho hg hn hx hA tk (hj ▸ rd_ownF hsz hp hv) k
theorem q_loadN_o {α : Type} {T : TypeId} {x : Operand} {b o off k' cap sz : Nat} {enc : α → List Value} {xs : List α} {p : α} {vs : List Value} {Γ' : List HProp} (ho : nthO l i = some ⟨some d, .load T x, ty, pos, af, g⟩) (hg : gd l e g = some true) (hn : Nat.blt d n = true)
    (hx : ev e x = some (.pointer (some ⟨b, o, none⟩))) (hA : ∀ w, (isAgg T).run P w = .ok true w) (hs : ∀ w, (sizeOf T).run P w = .ok sz w) (tk : Take Γ (own sz enc (some ⟨b, off, none⟩) cap xs) Γ') (hsz : ∀ x, (enc x).length = sz) (hj : o = off + k' * sz) (hp : xs[k']? = some p) (hv : enc p = vs)
    (k : Le (St w0 ds n ((d, .agg vs.toArray) :: e) Γ) (wpRT P r l.toArray K t)) : Le (St w0 ds n e Γ) (wpRT P r l.toArray K (.q i t)) :=
  q_loadN ho hg hn hx hA hs tk (hv ▸ hj ▸ rdn_own hsz hp) (by rw [← hv, hsz]) k
theorem q_loadN_c {T : TypeId} {x : Operand} {b o off sz : Nat} {vs : List Value} {Γ' : List HProp} (ho : nthO l i = some ⟨some d, .load T x, ty, pos, af, g⟩) (hg : gd l e g = some true) (hn : Nat.blt d n = true)
    (hx : ev e x = some (.pointer (some ⟨b, o, none⟩))) (hA : ∀ w, (isAgg T).run P w = .ok true w) (hs : ∀ w, (sizeOf T).run P w = .ok sz w) (tk : Take Γ (cells b off vs) Γ') (j : Nat) {us : List Value} (hj : o = off + j) (hu : (vs.drop j).take sz = us) (hl : us.length = sz)
    (k : Le (St w0 ds n ((d, .agg us.toArray) :: e) Γ) (wpRT P r l.toArray K t)) : Le (St w0 ds n e Γ) (wpRT P r l.toArray K (.q i t)) :=
  q_loadN ho hg hn hx hA hs tk (fun q v hq => by
    subst hj
    rw [Nat.add_assoc]
    refine rd_cells ?_
    rw [← hu, List.getElem?_take] at hq
    split at hq
    · rw [List.getElem?_drop] at hq; exact hq
    · cases hq) hl k

/-! ### Cuts -/
def cutA (ao : Option Addr) (cap h sz : Nat) : Option Addr := if cap = h then ao else ao.map (·.add (h * sz))
theorem cutA_zero (ao : Option Addr) (cap sz : Nat) (h : ∀ p, ao = some p → p.spot = none) : cutA ao cap 0 sz = ao := by
  unfold cutA
  split
  · rfl
  · cases ao with
    | none => rfl
    | some p => simp [Addr.add]
theorem cutA_lt {b o cap h sz : Nat} (hlt : h < cap) : cutA (some ⟨b, o, none⟩) cap h sz = some ⟨b, o + h * sz, none⟩ := by
  unfold cutA
  rw [if_neg (by omega)]
  simp [add_none]
/-- x[:hi] -/
theorem q_cut_hi {T E : TypeId} {x y : Operand} {ao : Option Addr} {len cap sz h' : Nat} {k' : IntKind} {z : Int} (ho : nthO l i = some ⟨some d, .slice T x none (some y) none, ty, pos, af, g⟩) (hg : gd l e g = some true) (hn : Nat.blt d n = true)
    (hx : ev e x = some (.slice ao len cap)) (hy : ev e y = some (.int k' z)) (hu : P.underlying T = some (.slice E)) (hs : ∀ w, (sizeOf E).run P w = .ok sz w) (hz : z = (h' : Int)) (hcap : h' ≤ cap)
    (k : Le (St w0 ds n ((d, .slice ao h' cap) :: e) Γ) (wpRT P r l.toArray K t)) : Le (St w0 ds n e Γ) (wpRT P r l.toArray K (.q i t)) :=
  q_pure ho hg rfl hn rfl (fun _ h => by cases h) (fun a w s w' => by
    have h1 := run_sliceAt (P := P) (T := T) (E := E) (ao := ao) (len := len) (cap := cap) (sz := sz) (lo := none) (hi := some (k', z)) hu hs 0 h' (by simp) (by simp) (by simp [hz]) (by simp) (Nat.zero_le _) hcap w'
    have h2 : (if cap = 0 then ao else ao.map (·.add (0 * sz))) = ao := by
      split
      · rfl
      · cases ao <;> simp [Addr.add]
    rw [h2] at h1
    simp only [Option.map_none, Option.map_some, Nat.sub_zero] at h1
    simp [execOp, s.ev hx, s.ev hy, h1]) k
/-- x[lo:] -/
theorem q_cut_lo {T E : TypeId} {x y : Operand} {ao : Option Addr} {len cap sz h : Nat} {k' : IntKind} {z : Int} (ho : nthO l i = some ⟨some d, .slice T x (some y) none none, ty, pos, af, g⟩) (hg : gd l e g = some true) (hn : Nat.blt d n = true)
    (hx : ev e x = some (.slice ao len cap)) (hy : ev e y = some (.int k' z)) (hu : P.underlying T = some (.slice E)) (hs : ∀ w, (sizeOf E).run P w = .ok sz w) (hz : z = (h : Int)) (hle : h ≤ len) (hcap : len ≤ cap)
    (k : Le (St w0 ds n ((d, .slice (cutA ao cap h sz) (len - h) (cap - h)) :: e) Γ) (wpRT P r l.toArray K t)) : Le (St w0 ds n e Γ) (wpRT P r l.toArray K (.q i t)) :=
  q_pure ho hg rfl hn rfl (fun _ h => by cases h) (fun a w s w' => by
    have h1 := run_sliceAt (P := P) (T := T) (E := E) (ao := ao) (len := len) (cap := cap) (sz := sz) (lo := some (k', z)) (hi := none) hu hs h len (by simp [hz]) (by simp) (by simp) (by simp) hle hcap w'
    simp only [Option.map_none, Option.map_some] at h1
    simp [execOp, s.ev hx, s.ev hy, h1, cutA]) k
/-- x[lo:hi] -/
theorem q_cut {T E : TypeId} {x y y2 : Operand} {ao : Option Addr} {len cap sz h h' : Nat} {k' k2 : IntKind} {z z2 : Int} (ho : nthO l i = some ⟨some d, .slice T x (some y) (some y2) none, ty, pos, af, g⟩) (hg : gd l e g = some true) (hn : Nat.blt d n = true)
    (hx : ev e x = some (.slice ao len cap)) (hy : ev e y = some (.int k' z)) (hy2 : ev e y2 = some (.int k2 z2)) (hu : P.underlying T = some (.slice E)) (hs : ∀ w, (sizeOf E).run P w = .ok sz w) (hz : z = (h : Int)) (hz2 : z2 = (h' : Int)) (hle : h ≤ h') (hcap : h' ≤ cap)
    (k : Le (St w0 ds n ((d, .slice (cutA ao cap h sz) (h' - h) (cap - h)) :: e) Γ) (wpRT P r l.toArray K t)) : Le (St w0 ds n e Γ) (wpRT P r l.toArray K (.q i t)) :=
  q_pure ho hg rfl hn rfl (fun _ h => by cases h) (fun a w s w' => by
    have h1 := run_sliceAt (P := P) (T := T) (E := E) (ao := ao) (len := len) (cap := cap) (sz := sz) (lo := some (k', z)) (hi := some (k2, z2)) hu hs h h' (by simp [hz]) (by simp) (by simp [hz2]) (by simp) hle hcap w'
    simp only [Option.map_some] at h1
    simp [execOp, s.ev hx, s.ev hy, s.ev hy2, h1, cutA]) k
/-- Of an owned slice the beginning: the rest is spare room. -/
theorem own_take {α : Type} {sz : Nat} {enc : α → List Value} {ao : Option Addr} {cap : Nat} {xs : List α} (hsz : ∀ x, (enc x).length = sz) (m : Nat) {h : Hp} (s : Sat (own sz enc ao cap xs :: Γ) h) : Sat (own sz enc ao cap (xs.take m) :: Γ) h := by
  refine Sat.head_mono ?_ s
  rintro h1 ⟨hc, h2⟩
  refine ⟨by rw [List.length_take]; omega, ?_⟩
  rcases h2 with h2 | ⟨b, off, sp, h3, h4, h5⟩
  · exact .inl h2
  · refine .inr ⟨b, off, (xs.drop m).flatMap enc ++ sp, h3, ?_, ?_⟩
    · rw [List.length_append, flat_len hsz, h4, List.length_drop, List.length_take, ← Nat.add_mul]
      congr 1
      omega
    · rw [← List.append_assoc, ← List.flatMap_append, List.take_append_drop]
      exact h5

/-! ### append, make, copy, clear -/
theorem l_append {α : Type} {T E : TypeId} {x y : Operand} {sz : Nat} {enc : α → List Value} {ao bo : Option Addr} {m c len cap : Nat} {xs ys : List α} {A : HProp} {ti : TypeInfo} {z : Value} {Γ1 Γ2 : List HProp} (ho : nthO l i = some ⟨some d, .call ⟨.builtin .append, #[x, y], #[T, T]⟩, ty, pos, af, g⟩) (hg : gd l e g = some true) (hn : Nat.blt d n = true)
    (hx : ev e x = some (.slice ao len cap)) (hy : ev e y = some (.slice bo m c)) (hu : P.underlying T = some (.slice E)) (hti : ∀ w, (typeInfo E).run P w = .ok ti w) (hz : ti.zero = some z) (hzs : z.cells.size = sz) (hsi : ti.size = sz) (hpos : 0 < sz)
    (tk : Take Γ (own sz enc ao cap xs) Γ1) (tk2 : Take Γ1 A Γ2) (hlen : xs.length = len) {us : List Value} (hr : RdS A bo us) (hus : ys.flatMap enc = us) (hm : ys.length = m) (hsz : ∀ x, (enc x).length = sz) (h1 : ∀ y, (enc y).all Value.oneCell' = true)
    (h63 : len + m ≤ 9223372036854775807) (hby : (len + m) * ti.bytes ≤ 140737488355328)
    (k : ∀ ao' cap', Le (St w0 ds n ((d, .slice ao' (len + m) cap') :: e) (own sz enc ao' cap' (xs ++ ys) :: A :: Γ2)) (AG P r l.toArray fl (wpRT P r l.toArray K t))) : Le (St w0 ds n e Γ) (wpRT P r l.toArray K (.l i fl t)) :=
  l_gen ho hg (fun _ h => by cases h) (fun a w s => by
    subst hlen
    subst hus
    have s1 : Sat (own sz enc ao cap xs :: A :: Γ2) (lh w) := Sat.cons_mono tk2 (tk _ s.heap)
    obtain ⟨ao', cap', w', e1, e2, e3⟩ := run_append (P := P) (ty := ty) (c := c) hu hti hz hzs hsi hsz hpos h1 s1 hr hm h63 hby
    have hr' : (execOp a.eval ⟨some d, .call ⟨.builtin .append, #[x, y], #[T, T]⟩, ty, pos, af, g⟩).run P w = .ok (.value (.slice ao' (xs.length + m) cap')) w' := by
      simp [execOp, resolve, invoke, builtin, s.ev hx, s.ev hy, e1]
    rw [hr']
    exact k ao' cap' _ _ ((s.world e2 e3).put hn))
theorem run_make {T E : TypeId} {len cap : Nat} {k1 k2 : IntKind} {ti : TypeInfo} {z : Value} (hu : P.underlying T = some (.slice E)) (hti : ∀ w, (typeInfo E).run P w = .ok ti w) (hz : ti.zero = some z) (hzs : z.cells.size = ti.size) (hle : len ≤ cap) (hcap : cap ≤ 9223372036854775807) (hby : ti.bytes * cap ≤ 281474976710656) (hpos : 0 < ti.size) (w : World) :
    ∃ cs : Array Value, cs.toList = (List.replicate cap z.cells.toList).flatten ∧ (Instr.makeSlice T (.int k1 (len : Int)) (.int k2 (cap : Int))).run P w = .ok (.slice (some ⟨w.heap.size, 0, none⟩) len cap) (w.alloc (.cells cs E)) := by
  refine ⟨(Array.range (cap * ti.size)).map fun x => z.cells[x % z.cells.size]!, ?_, ?_⟩
  · have : ∀ k : Nat, (List.range (k * z.cells.size)).map (fun x => z.cells[x % z.cells.size]!) = (List.replicate k z.cells.toList).flatten := by
      intro k
      induction k with
      | zero => simp
      | succ k ih =>
        rw [List.replicate_succ', List.flatten_concat, ← ih, Nat.succ_mul]
        rw [List.range_add, List.map_append]
        congr 1
        apply List.ext_getElem?
        intro j
        simp only [List.map_map, List.getElem?_map, List.getElem?_range]
        by_cases hj : j < z.cells.size
        · rw [List.getElem?_range hj]
          have : (k * z.cells.size + j) % z.cells.size = j := by rw [Nat.mul_comm, Nat.mul_add_mod]; exact Nat.mod_eq_of_lt hj
          simp [this, hj]
        · rw [List.getElem?_eq_none (by simpa using hj)]
          simp [Nat.le_of_not_lt hj]
    rw [Array.toList_map, Array.toList_range, ← hzs]
    exact this cap
  · have w1 : IntKind.i64.wrap (len : Int) = len := wrap_fits (fits_i64 (by omega) (by omega))
    have w2 : IntKind.i64.wrap (cap : Int) = cap := wrap_fits (fits_i64 (by omega) (by omega))
    have h1 : ¬ ((cap : Int) < 0) := by omega
    have h2 : ¬ ((ti.bytes : Int) * (cap : Int) > 2 ^ 48) := by
      have : (ti.bytes : Int) * (cap : Int) = ((ti.bytes * cap : Nat) : Int) := by simp
      rw [this]; omega
    have h3 : ¬ ((len : Int) < 0) := by omega
    have h4 : ¬ ((len : Int) > (cap : Int)) := by omega
    have hs : ∀ w, (sizeOf E).run P w = .ok ti.size w := fun w => by simp [sizeOf, hti]
    have hzv : ∀ w, (zeroValue E).run P w = .ok z w := fun w => by simp [zeroValue, hti, hz]
    simp only [Instr.makeSlice, Sem.run_bind, run_underlying hu, Result.andThen_ok, asInt, asIntOf, Sem.run_pure, hti, w1, w2]
    rw [if_neg (by simp; omega)]
    simp only [Sem.run_bind, run_askRoom, Result.andThen_ok, hs, Int.toNat_natCast]
    by_cases hc : cap * ti.size = 0
    · rw [if_pos hc]
      have : cap = 0 := by
        rcases Nat.mul_eq_zero.1 hc with h | h
        · exact h
        · omega
      subst this
      have h0 : ∀ f : Nat → Value, (Array.range 0).map f = #[] := fun f => by apply Array.ext'; simp
      simp [newRow, h0]
    · rw [if_neg hc]
      simp [hzv, newRow]
/-- A slice that is made: all its elements are x0, laid as the zero value. -/
theorem l_make {α : Type} {T E : TypeId} {x y : Operand} {enc : α → List Value} {len cap sz : Nat} {k1 k2 : IntKind} {z1 z2 : Int} {ti : TypeInfo} {z : Value} (x0 : α) (ho : nthO l i = some ⟨some d, .makeSlice T x y, ty, pos, af, g⟩) (hg : gd l e g = some true) (hn : Nat.blt d n = true)
    (hx : ev e x = some (.int k1 z1)) (hy : ev e y = some (.int k2 z2)) (hz1 : z1 = (len : Int)) (hz2 : z2 = (cap : Int)) (hu : P.underlying T = some (.slice E)) (hti : ∀ w, (typeInfo E).run P w = .ok ti w) (hz : ti.zero = some z) (hzs : z.cells.size = sz) (hsi : ti.size = sz) (hpos : 0 < sz)
    (hle : len ≤ cap) (hcap : cap ≤ 9223372036854775807) (hby : ti.bytes * cap ≤ 281474976710656) (henc : enc x0 = z.cells.toList) (hsz : ∀ x, (enc x).length = sz)
    (k : ∀ b, Le (St w0 ds n ((d, .slice (some ⟨b, 0, none⟩) len cap) :: e) (own sz enc (some ⟨b, 0, none⟩) cap (List.replicate len x0) :: Γ)) (AG P r l.toArray fl (wpRT P r l.toArray K t))) : Le (St w0 ds n e Γ) (wpRT P r l.toArray K (.l i fl t)) :=
  l_gen ho hg (fun _ h => by cases h) (fun a w s => by
    subst hz1 hz2
    obtain ⟨cs, hcs, e1⟩ := run_make (P := P) (k1 := k1) (k2 := k2) hu hti hz (by rw [hzs, hsi]) hle hcap hby (by rw [hsi]; exact hpos) w
    have hr' : (execOp a.eval ⟨some d, .makeSlice T x y, ty, pos, af, g⟩).run P w = .ok (.value (.slice (some ⟨w.heap.size, 0, none⟩) len cap)) (w.alloc (.cells cs E)) := by
      simp [execOp, s.ev hx, s.ev hy, e1]
    rw [hr']
    have s1 := s.heap.newCells cs E
    have s2 : Sat (own sz enc (some ⟨w.heap.size, 0, none⟩) cap (List.replicate len x0) :: Γ) (lh (w.alloc (.cells cs E))) := by
      refine own_mk (xs := List.replicate len x0) (sp := (List.replicate (cap - len) z.cells.toList).flatten) (by simpa using hle) ?_ ?_
      · rw [List.length_replicate]
        have : ∀ k : Nat, (List.replicate k z.cells.toList).flatten.length = k * sz := fun k => by
          simp [hzs]
        exact this _
      · have : (List.replicate len x0).flatMap enc ++ (List.replicate (cap - len) z.cells.toList).flatten = cs.toList := by
          rw [hcs, List.flatMap_def, List.map_replicate, henc, ← List.flatten_append, List.replicate_append_replicate]
          congr 2
          omega
        rw [this]; exact s1
    exact k _ _ _ ((s.world s2 ⟨rfl, rfl, rfl, by simp⟩).put hn))
end
end Go.Ab
