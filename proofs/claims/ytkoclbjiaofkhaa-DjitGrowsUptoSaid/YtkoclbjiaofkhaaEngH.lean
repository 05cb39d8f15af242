/- The engine, part H: cuts in the middle of a region, moves that come in their turn, loops' ends. -/
import Derived.Test.YtkoclbjiaofkhaaEngG
set_option linter.unusedVariables false
set_option linter.unusedSimpArgs false
namespace Go.Ab
open Go

theorem wpRT_mono {P : Program} {r : Option Nat} {ops : Array Oper} {K K' : Act → World → Prop} (h : ∀ a w, K a w → K' a w) : ∀ (t : RT) (a : Act) (w : World), wpRT P r ops K t a w → wpRT P r ops K' t a w
  | .done, a, w, hw => h a w hw
  | .q i k, a, w, hw => by
    obtain ⟨o, d, h1, h2, h3, h4⟩ := hw
    refine ⟨o, d, h1, h2, h3, ?_⟩
    rcases h4 with ⟨x, v, y, z⟩ | ⟨x, z⟩
    · exact .inl ⟨x, v, y, wpRT_mono h k _ _ z⟩
    · exact .inr ⟨x, wpRT_mono h k _ _ z⟩
  | .l i fl k, a, w, hw => by
    obtain ⟨o, h1, h4⟩ := hw
    refine ⟨o, h1, ?_⟩
    rcases h4 with ⟨x, z⟩ | ⟨x, z⟩
    · exact .inl ⟨x, opUp_mono (fun v w hh => ⟨hh.1, wpRT_mono h k _ _ hh.2⟩) z⟩
    · exact .inr ⟨x, wpRT_mono h k _ _ z⟩
  | .alt x y, a, w, hw => ⟨wpRT_mono h x _ _ hw.1, wpRT_mono h y _ _ hw.2⟩

def EnvIn : Env → Env → Prop
  | [], _ => True
  | (k, v) :: e', e => look e k = some v ∧ EnvIn e' e
theorem envLe_of_in {e : Env} : ∀ {e' : Env}, EnvIn e' e → EnvLe e' e
  | [], _, t, v, h => by cases h
  | (k, u) :: e', ⟨h1, h2⟩, t, v, h => by
    simp only [look] at h
    cases hb : Nat.beq k t with
    | true =>
      rw [hb] at h
      have := Nat.eq_of_beq_eq_true hb
      subst this
      simp only [cond_true, Option.some.injEq] at h
      rw [h1, h]
    | false => rw [hb] at h; exact envLe_of_in h2 t v h

section
variable {P : Program} {r : Option Nat} {w0 : World} {ds : List Deferred} {n : Nat} {e : Env} {Γ : List HProp} {K : Act → World → Prop} {l : List Oper} {i : Nat} {t : RT} {fl : List Nat}
variable {d : Nat} {ty : TypeId} {pos : String} {af : Array Edge} {g : Option (Nat × Bool)}
/-- A region whose outcome is one value in one slot. -/
theorem rt_res (k : Nat) (v : Value) (h1 : Le (St w0 ds n e Γ) (wpRT P r l.toArray (St w0 ds n ((k, v) :: e) Γ) t)) (h2 : Le (St w0 ds n ((k, v) :: e) Γ) K) : Le (St w0 ds n e Γ) (wpRT P r l.toArray K t) :=
  fun a w s => wpRT_mono h2 t a w (h1 a w s)
/-- A cut anywhere. -/
theorem rt_cut {S T : Act → World → Prop} (h1 : Le S (wpRT P r l.toArray T t)) (h2 : Le T K) : Le S (wpRT P r l.toArray K t) := fun a w s => wpRT_mono h2 t a w (h1 a w s)
theorem c_cut {S : Act → World → Prop} {c : Code} {Q : Exit → Act → World → Prop} (T : Act → World → Prop) (h1 : Le S (c.wpIn (fz r) 0 P (fun x a w => (x = .normal ∧ T a w) ∨ (x ≠ .normal ∧ Q x a w)))) (h2 : Le T (Q .normal)) : Le S (c.wpIn (fz r) 0 P Q) :=
  fun a w s => wpIn_mono (h1 a w s) (fun x a w hx => by
    rcases hx with ⟨rfl, ht⟩ | ⟨-, hq⟩
    · exact h2 a w ht
    · exact hq)
theorem k_cut_n {S T : Act → World → Prop} {Q : Exit → Act → World → Prop} (h : Le S T) : Le S ((fun x a w => (x = .normal ∧ T a w) ∨ (x ≠ .normal ∧ Q x a w)) Exit.normal) := fun a w s => .inl ⟨rfl, h a w s⟩
theorem k_cut_ret {S T : Act → World → Prop} {Q : Exit → Act → World → Prop} (h : Le S (Q .ret)) : Le S ((fun x a w => (x = .normal ∧ T a w) ∨ (x ≠ .normal ∧ Q x a w)) Exit.ret) := fun a w s => .inr ⟨by simp, h a w s⟩
theorem k_cut_exit {S T : Act → World → Prop} {Q : Exit → Act → World → Prop} {id : Nat} (h : Le S (Q (.exit id))) : Le S ((fun x a w => (x = .normal ∧ T a w) ∨ (x ≠ .normal ∧ Q x a w)) (Exit.exit id)) := fun a w s => .inr ⟨by simp, h a w s⟩
/-- What is known is enough. -/
theorem le_st {e' : Env} {Γ' : List HProp} (h1 : EnvIn e' e) (h2 : Takes Γ Γ' []) : Le (St w0 ds n e Γ) (St w0 ds n e' Γ') := fun a w s =>
  ⟨s.defers, s.size, fun t v ht => s.env t v (envLe_of_in h1 t v ht), by have := h2 _ s.heap; rwa [List.append_nil] at this, s.amb⟩
/-- ... for a state that is told by something unknown. -/
theorem le_ex {α : Type} {φ : α → Prop} {E : α → Env} {G : α → List HProp} (x : α) (hx : φ x) (h1 : EnvIn (E x) e) (h2 : Takes Γ (G x) []) : Le (St w0 ds n e Γ) (fun a w => ∃ y, φ y ∧ St w0 ds n (E y) (G y) a w) := fun a w s => ⟨x, hx, le_st h1 h2 a w s⟩
theorem loop_next {α : Type} {φ : α → Prop} {E : α → Env} {G : α → List HProp} {μ : α → Nat} {x : α} (y : α) (hy : φ y) (hlt : μ y < μ x) (h1 : EnvIn (E y) e) (h2 : Takes Γ (G y) []) : Le (St w0 ds n e Γ) (fun a w => ∃ y, (φ y ∧ μ y < μ x) ∧ St w0 ds n (E y) (G y) a w) :=
  fun a w s => ⟨y, ⟨hy, hlt⟩, le_st h1 h2 a w s⟩
theorem takes_fin {Γ Δ : List HProp} {Γ' : List HProp} (h : Takes Γ Δ Γ') : Takes Γ Δ [] := fun hp s => by
  have := Sat.drop_right (h hp s)
  rwa [List.append_nil]
/-- The slot t holds another spelling of its value. -/
theorem s_eq {X : Act → World → Prop} (k : Nat) {v v' : Value} (hl : look e k = some v) (hv : v = v') (h : Le (St w0 ds n ((k, v') :: e) Γ) X) : Le (St w0 ds n e Γ) X := by
  subst hv
  refine s_env (fun t u ht => ?_) h
  simp only [look] at ht
  cases hb : Nat.beq k t with
  | true =>
    rw [hb] at ht
    have := Nat.eq_of_beq_eq_true hb
    subst this
    simp only [cond_true, Option.some.injEq] at ht
    rw [hl, ht]
  | false => rw [hb] at ht; exact ht
theorem l_assign {x : Operand} {v : Value} (ho : nthO l i = some ⟨some d, .assign x, ty, pos, af, g⟩) (hg : gd l e g = some true) (hn : Nat.blt d n = true) (hx : ev e x = some v)
    (k : Le (St w0 ds n ((d, v) :: e) Γ) (AG P r l.toArray fl (wpRT P r l.toArray K t))) : Le (St w0 ds n e Γ) (wpRT P r l.toArray K (.l i fl t)) :=
  l_gen ho hg (fun _ h => by cases h) (fun a w s => by
    have hr : (execOp a.eval ⟨some d, .assign x, ty, pos, af, g⟩).run P w = .ok (.value v) w := by simp [execOp, s.ev hx]
    rw [hr]
    exact k _ _ (s.put hn))
theorem q_pick_or {c y : Operand} {b b2 : Bool} (ho : nthO l i = some ⟨some d, .pick c (.const (.bool true)) y, ty, pos, af, g⟩) (hg : gd l e g = some true) (hn : Nat.blt d n = true) (hc : ev e c = some (.bool b)) (hy : ev e y = some (.bool b2))
    (k : Le (St w0 ds n ((d, .bool (b || b2)) :: e) Γ) (wpRT P r l.toArray K t)) : Le (St w0 ds n e Γ) (wpRT P r l.toArray K (.q i t)) :=
  q_pure ho hg rfl hn rfl (fun _ h => by cases h) (fun a w s w' => by
    have hk : a.eval (.const (.bool true)) = .bool true := rfl
    cases b <;> simp [execOp, s.ev hc, s.ev hy, asBool, hk]) k
theorem run_equal_ptr {tx E : TypeId} {ao : Option Addr} (hu : P.underlying tx = some (.pointer E)) (w : World) : (Op.equal tx (.pointer ao) (.pointer none)).run P w = .ok ao.isNone w := by
  have key : ∀ k, (Op.equalIn (k + 1) tx (.pointer ao) (.pointer none)).run P w = .ok ao.isNone w := by
    intro k
    simp only [Op.equalIn, Sem.run_bind, run_underlying hu, Result.andThen_ok]
    cases ao <;> rfl
  exact key 9999
theorem run_equal_f0 {tx : TypeId} {fn : Fn} {fi ca : Array Value} {p1 p2 : Array TypeId} {vr : Bool} (hu : P.underlying tx = some (.func p1 p2 vr)) (w : World) : (Op.equal tx (.func fn fi ca) .nilFunc).run P w = .ok false w := by
  have key : ∀ k, (Op.equalIn (k + 1) tx (.func fn fi ca) .nilFunc).run P w = .ok false w := by
    intro k
    simp only [Op.equalIn, Sem.run_bind, run_underlying hu, Result.andThen_ok, Sem.run_pure]
  exact key 9999
theorem run_equal_f1 {tx : TypeId} {p1 p2 : Array TypeId} {vr : Bool} (hu : P.underlying tx = some (.func p1 p2 vr)) (w : World) : (Op.equal tx .nilFunc .nilFunc).run P w = .ok true w := by
  have key : ∀ k, (Op.equalIn (k + 1) tx .nilFunc .nilFunc).run P w = .ok true w := by
    intro k
    simp only [Op.equalIn, Sem.run_bind, run_underlying hu, Result.andThen_ok, Sem.run_pure]
  exact key 9999
theorem eval_const {a : Act} {v : Value} : a.eval (.const v) = v := rfl
/-- Is a pointer nil? -/
theorem q_eq_nil {tx tz : TypeId} {x : Operand} {ao : Option Addr} {E : TypeId} (ho : nthO l i = some ⟨some d, .binOp .eql tx x (.const (.pointer none)) tz, ty, pos, af, g⟩) (hg : gd l e g = some true) (hn : Nat.blt d n = true) (hx : ev e x = some (.pointer ao)) (hu : P.underlying tx = some (.pointer E))
    (k : Le (St w0 ds n ((d, .bool ao.isNone) :: e) Γ) (wpRT P r l.toArray K t)) : Le (St w0 ds n e Γ) (wpRT P r l.toArray K (.q i t)) :=
  q_pure ho hg rfl hn rfl (fun _ h => by cases h) (fun a w s w' => by
    simp only [execOp, s.ev hx, eval_const, eqGuard, Sem.run_bind]
    simp [binOp, run_equal_ptr hu]) k
theorem q_ne_nil {tx tz : TypeId} {x : Operand} {ao : Option Addr} {E : TypeId} (ho : nthO l i = some ⟨some d, .binOp .neq tx x (.const (.pointer none)) tz, ty, pos, af, g⟩) (hg : gd l e g = some true) (hn : Nat.blt d n = true) (hx : ev e x = some (.pointer ao)) (hu : P.underlying tx = some (.pointer E))
    (k : Le (St w0 ds n ((d, .bool (!ao.isNone)) :: e) Γ) (wpRT P r l.toArray K t)) : Le (St w0 ds n e Γ) (wpRT P r l.toArray K (.q i t)) :=
  q_pure ho hg rfl hn rfl (fun _ h => by cases h) (fun a w s w' => by
    simp only [execOp, s.ev hx, eval_const, eqGuard, Sem.run_bind]
    simp [binOp, run_equal_ptr hu]) k
/-- Is a function value nil? -/
theorem q_eq_nilf {tx tz : TypeId} {x : Operand} {fn : Fn} {fi ca : Array Value} {p1 p2 : Array TypeId} {vr : Bool} (ho : nthO l i = some ⟨some d, .binOp .eql tx x (.const .nilFunc) tz, ty, pos, af, g⟩) (hg : gd l e g = some true) (hn : Nat.blt d n = true) (hx : ev e x = some (.func fn fi ca)) (hu : P.underlying tx = some (.func p1 p2 vr))
    (k : Le (St w0 ds n ((d, .bool false) :: e) Γ) (wpRT P r l.toArray K t)) : Le (St w0 ds n e Γ) (wpRT P r l.toArray K (.q i t)) :=
  q_pure ho hg rfl hn rfl (fun _ h => by cases h) (fun a w s w' => by
    simp only [execOp, s.ev hx, eval_const, eqGuard, Sem.run_bind]
    simp [binOp, run_equal_f0 hu]) k
theorem q_eq_nilf' {tx tz : TypeId} {x : Operand} {p1 p2 : Array TypeId} {vr : Bool} (ho : nthO l i = some ⟨some d, .binOp .eql tx x (.const .nilFunc) tz, ty, pos, af, g⟩) (hg : gd l e g = some true) (hn : Nat.blt d n = true) (hx : ev e x = some .nilFunc) (hu : P.underlying tx = some (.func p1 p2 vr))
    (k : Le (St w0 ds n ((d, .bool true) :: e) Γ) (wpRT P r l.toArray K t)) : Le (St w0 ds n e Γ) (wpRT P r l.toArray K (.q i t)) :=
  q_pure ho hg rfl hn rfl (fun _ h => by cases h) (fun a w s w' => by
    simp only [execOp, s.ev hx, eval_const, eqGuard, Sem.run_bind]
    simp [binOp, run_equal_f1 hu]) k

theorem c_loop2 {α : Type} {c : Code} {Q : Exit → Act → World → Prop} (φ : α → Prop) (Em : α → Env) (Gm : α → List HProp) (μ : α → Nat) (ks : List Nat) {er : Env} (her : keepE e ks = er) {Γr : List HProp} (x0 : α) (h0 : φ x0) (hE : EnvIn (Em x0) e) (hG : Takes Γ (Gm x0) Γr)
    (round : ∀ x, φ x → Le (St w0 ds n (Em x ++ er) (Gm x ++ Γr)) (c.wpIn (fz r) 0 P (Exit.then (fun a w => ∃ y, (φ y ∧ μ y < μ x) ∧ St w0 ds n (Em y ++ er) (Gm y ++ Γr) a w) Q))) : Le (St w0 ds n e Γ) ((Code.loop c).wpIn (fz r) 0 P Q) := by
  refine c_loop φ (fun x => Em x ++ er) (fun x => Gm x ++ Γr) μ (fun a w s => ⟨x0, h0, s.defers, s.size, fun t v ht => ?_, hG _ s.heap, s.amb⟩) round
  have h1 := envLe_of_in hE
  have h2 : EnvLe er e := her ▸ keepE_le e ks
  have key : ∀ (e1 : Env) t v, look (e1 ++ er) t = some v → look e1 t = some v ∨ look er t = some v := by
    intro e1
    induction e1 with
    | nil => intro t v h; exact .inr h
    | cons p e1 ih =>
      obtain ⟨k, u⟩ := p
      intro t v h
      simp only [List.cons_append, look] at h ⊢
      cases hb : Nat.beq k t with
      | true => rw [hb] at h; exact .inl h
      | false => rw [hb] at h; exact ih t v h
  rcases key _ _ _ ht with h | h
  · exact s.env t v (h1 t v h)
  · exact s.env t v (h2 t v h)
theorem takes_drop2 {A : HProp} {Γ Δ Γ' : List HProp} (h : Takes Γ Δ Γ') : Takes (A :: Γ) Δ Γ' := fun hp s => h hp s.tail

theorem own_facts {α : Type} {sz : Nat} {enc : α → List Value} {ao : Option Addr} {cap : Nat} {xs : List α} {Γ' : List HProp} (tk : Take Γ (own sz enc ao cap xs) Γ') : ∀ hp, Sat Γ hp → (xs.length ≤ cap ∧ (ao = none → xs = [] ∧ cap = 0) ∧ (ao ≠ none → ∃ b off, ao = some ⟨b, off, none⟩)) := fun hp s => own_le (tk hp s)
theorem own_some {α : Type} {sz : Nat} {enc : α → List Value} {ao : Option Addr} {cap : Nat} {xs : List α} {Γ' : List HProp} {k : Nat} {x : α} {X : Act → World → Prop} (tk : Take Γ (own sz enc ao cap xs) Γ') (h : xs[k]? = some x) (kk : ∀ b off, ao = some ⟨b, off, none⟩ → k < xs.length → xs.length ≤ cap → Le (St w0 ds n e Γ) X) : Le (St w0 ds n e Γ) X := fun a w s => by
  obtain ⟨h1, h2, h3⟩ := own_facts tk _ s.heap
  have hk : k < xs.length := (List.getElem?_eq_some_iff.1 h).1
  obtain ⟨b, off, hb⟩ := h3 (fun e => by have := (h2 e).1; subst this; simp at hk)
  exact kk b off hb hk h1 a w s

/-! Again: loads by the kind of resource. -/
theorem ag_load_c {j : Nat} {T : TypeId} {x : Operand} {b o off q : Nat} {v : Value} {vs : List Value} {Γ' : List HProp} {X : Act → World → Prop} (ho : nthO l j = some ⟨some d, .load T x, ty, pos, af, g⟩)
    (hx : ev e x = some (.pointer (some ⟨b, o, none⟩))) (hl : look e d = some v) (hA : ∀ w, (isAgg T).run P w = .ok false w) (tk : Take Γ (cells b off vs) Γ') (hj : o = off + q) (hv : vs[q]? = some v)
    (k : Le (St w0 ds n e Γ) (AG P r l.toArray fl X)) : Le (St w0 ds n e Γ) (AG P r l.toArray (j :: fl) X) := ag_load ho hx hl hA tk (hj ▸ rd_cells hv) k
theorem ag_load_o {α : Type} {j : Nat} {T : TypeId} {x : Operand} {b o off q k' cap sz : Nat} {enc : α → List Value} {xs : List α} {p : α} {v : Value} {Γ' : List HProp} {X : Act → World → Prop} (ho : nthO l j = some ⟨some d, .load T x, ty, pos, af, g⟩)
    (hx : ev e x = some (.pointer (some ⟨b, o, none⟩))) (hl : look e d = some v) (hA : ∀ w, (isAgg T).run P w = .ok false w) (tk : Take Γ (own sz enc (some ⟨b, off, none⟩) cap xs) Γ') (hsz : ∀ x, (enc x).length = sz) (hj : o = off + k' * sz + q) (hp : xs[k']? = some p) (hv : (enc p)[q]? = some v)
    (k : Le (St w0 ds n e Γ) (AG P r l.toArray fl X)) : Le (St w0 ds n e Γ) (AG P r l.toArray (j :: fl) X) := ag_load ho hx hl hA tk (hj ▸ rd_ownF hsz hp hv) k
theorem ag_loadN_o {α : Type} {j : Nat} {T : TypeId} {x : Operand} {b o off k' cap sz : Nat} {enc : α → List Value} {xs : List α} {p : α} {vs : List Value} {Γ' : List HProp} {X : Act → World → Prop} (ho : nthO l j = some ⟨some d, .load T x, ty, pos, af, g⟩)
    (hx : ev e x = some (.pointer (some ⟨b, o, none⟩))) (hl : look e d = some (.agg vs.toArray)) (hA : ∀ w, (isAgg T).run P w = .ok true w) (hs : ∀ w, (sizeOf T).run P w = .ok sz w) (tk : Take Γ (own sz enc (some ⟨b, off, none⟩) cap xs) Γ') (hsz : ∀ x, (enc x).length = sz) (hj : o = off + k' * sz) (hp : xs[k']? = some p) (hv : enc p = vs)
    (k : Le (St w0 ds n e Γ) (AG P r l.toArray fl X)) : Le (St w0 ds n e Γ) (AG P r l.toArray (j :: fl) X) := ag_loadN ho hx hl hA hs tk (hv ▸ hj ▸ rdn_own hsz hp) (by rw [← hv, hsz]) k
theorem ag_loadN_c {j : Nat} {T : TypeId} {x : Operand} {b o off sz : Nat} {vs : List Value} {Γ' : List HProp} {X : Act → World → Prop} (ho : nthO l j = some ⟨some d, .load T x, ty, pos, af, g⟩)
    (hx : ev e x = some (.pointer (some ⟨b, o, none⟩))) {us : List Value} (hl : look e d = some (.agg us.toArray)) (hA : ∀ w, (isAgg T).run P w = .ok true w) (hs : ∀ w, (sizeOf T).run P w = .ok sz w) (tk : Take Γ (cells b off vs) Γ') (q : Nat) (hj : o = off + q) (hu : (vs.drop q).take sz = us) (hlen : us.length = sz)
    (k : Le (St w0 ds n e Γ) (AG P r l.toArray fl X)) : Le (St w0 ds n e Γ) (AG P r l.toArray (j :: fl) X) :=
  ag_loadN ho hx hl hA hs tk (fun m v hm => by
    subst hj
    rw [Nat.add_assoc]
    refine rd_cells ?_
    rw [← hu, List.getElem?_take] at hm
    split at hm
    · rw [List.getElem?_drop] at hm; exact hm
    · cases hm) hlen k
theorem q_load_o1 {α : Type} {T : TypeId} {x : Operand} {b o off k' cap : Nat} {enc : α → List Value} {xs : List α} {p : α} {v : Value} {Γ' : List HProp} (ho : nthO l i = some ⟨some d, .load T x, ty, pos, af, g⟩) (hg : gd l e g = some true) (hn : Nat.blt d n = true)
    (hx : ev e x = some (.pointer (some ⟨b, o, none⟩))) (hA : ∀ w, (isAgg T).run P w = .ok false w) (tk : Take Γ (own 1 enc (some ⟨b, off, none⟩) cap xs) Γ') (hsz : ∀ x, (enc x).length = 1) (hj : o = off + k') (hp : xs[k']? = some p) (hv : enc p = [v])
    (k : Le (St w0 ds n ((d, v) :: e) Γ) (wpRT P r l.toArray K t)) : Le (St w0 ds n e Γ) (wpRT P r l.toArray K (.q i t)) :=
  q_load ho hg hn hx hA tk (hj ▸ rd_own1 hv hsz hp) k
theorem ag_load_o1 {α : Type} {j : Nat} {T : TypeId} {x : Operand} {b o off k' cap : Nat} {enc : α → List Value} {xs : List α} {p : α} {v : Value} {Γ' : List HProp} {X : Act → World → Prop} (ho : nthO l j = some ⟨some d, .load T x, ty, pos, af, g⟩)
    (hx : ev e x = some (.pointer (some ⟨b, o, none⟩))) (hl : look e d = some v) (hA : ∀ w, (isAgg T).run P w = .ok false w) (tk : Take Γ (own 1 enc (some ⟨b, off, none⟩) cap xs) Γ') (hsz : ∀ x, (enc x).length = 1) (hj : o = off + k') (hp : xs[k']? = some p) (hv : enc p = [v])
    (k : Le (St w0 ds n e Γ) (AG P r l.toArray fl X)) : Le (St w0 ds n e Γ) (AG P r l.toArray (j :: fl) X) := ag_load ho hx hl hA tk (hj ▸ rd_own1 hv hsz hp) k
end
end Go.Ab
