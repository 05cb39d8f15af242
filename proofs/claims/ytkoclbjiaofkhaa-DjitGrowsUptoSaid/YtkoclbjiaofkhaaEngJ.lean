/- The engine, part J: function values of any kind; loops over functions. -/
import Derived.Test.YtkoclbjiaofkhaaEngI
import Derived.RangeFuncLeaves
import Derived.RangeFuncRecord
set_option linter.unusedVariables false
set_option linter.unusedSimpArgs false
namespace Go.Ab
open Go

/-- A call of the function value: of the program's function, or of a loop's yield. -/
def Invk (P : Program) (fv : Value) (args : List Value) (w : World) (R : Value → World → Prop) : Prop :=
  (∃ (f : FuncId) (fi ca : List Value), fv = .func (.func f) fi.toArray ca.toArray ∧ (∀ args w, (callFunc f args).run P w = .ok (.enter f args) w) ∧ Calls P f (fi ++ args ++ ca).toArray w fun e w' => ∃ v, e = .returned v ∧ R v w') ∨
  (∃ l : Nat, fv = .func (.yield l) #[] #[] ∧ ∃ (fn : FuncId) (tmps : Array Value) (assign body : Code), (Instr.yield l args.toArray).run P w = .ok (.round l fn tmps assign body) w ∧ RoundIn (fz none) 0 P l fn tmps assign body w fun e w' => ∃ v, e = .returned v ∧ R v w')
/-- The contract of a function value. -/
def CallF (P : Program) (fv : Value) (args : List Value) (Δ : List HProp) {α : Type} (v : α → Value) (φ : α → Prop) (Δ' : α → List HProp) : Prop :=
  ∀ (Γ : List HProp) (w : World), Sat (Δ ++ Γ) (lh w) → Invk P fv args w fun u w' => ∃ x, u = v x ∧ φ x ∧ Sat (Δ' x ++ Γ) (lh w') ∧ Amb w w'
theorem callF_of_spec {P : Program} {f : FuncId} {fi ca args : List Value} {Δ : List HProp} {α : Type} {v : α → Value} {φ : α → Prop} {Δ' : α → List HProp} (hc : ∀ args w, (callFunc f args).run P w = .ok (.enter f args) w) (h : Spec P f (fi ++ args ++ ca) Δ v φ Δ') :
    CallF P (.func (.func f) fi.toArray ca.toArray) args Δ v φ Δ' := fun Γ w s => .inl ⟨f, fi, ca, rfl, hc, (h Γ w s).mono fun e w' ⟨x, e1, h⟩ => ⟨_, e1, x, rfl, h⟩⟩

section
variable {P : Program} {r : Option Nat} {w0 : World} {ds : List Deferred} {n : Nat} {e : Env} {Γ : List HProp} {K : Act → World → Prop} {l : List Oper} {i : Nat} {t : RT} {fl : List Nat}
variable {d : Nat} {ty : TypeId} {pos : String} {af : Array Edge} {g : Option (Nat × Bool)}
theorem opUp_invk {o : Oper} {a : Act} {w : World} {fo : Operand} {xs : List Operand} {ts : Array TypeId} {fv : Value} {vs : List Value} {R : Value → World → Prop} (ho : o.op = .call ⟨.value fo, xs.toArray, ts⟩)
    (hf : a.eval fo = fv) (hxs : xs.map a.eval = vs) (h : Invk P fv vs w R) (k : ∀ v w', R v w' → K (a.put o.dst v) w') : opUp P r o a K ((execOp a.eval o).run P w) := by
  have hargs : Array.map a.eval xs.toArray = vs.toArray := by rw [List.map_toArray, hxs]
  obtain ⟨od, oop, oty, opos, oaf, og⟩ := o
  simp only at ho
  subst ho
  rcases h with ⟨f, fi, ca, rfl, hc, h⟩ | ⟨lp, rfl, fn, tmps, as, bo, hy, h⟩
  · have hr : (execOp a.eval ⟨od, .call ⟨.value fo, xs.toArray, ts⟩, oty, opos, oaf, og⟩).run P w = .ok (.enter f (fi ++ vs ++ ca).toArray) w := by
      simp only [execOp, resolve, hargs, hf, Deferred.ofValue, invoke, Sem.run_bind, Sem.run_pure, Result.andThen_ok, hc]
      simp
    rw [hr]
    exact h.mono fun e' w' ⟨v, e1, hR⟩ => ⟨v, e1, k v w' hR⟩
  · have hr : (execOp a.eval ⟨od, .call ⟨.value fo, xs.toArray, ts⟩, oty, opos, oaf, og⟩).run P w = .ok (.round lp fn tmps as bo) w := by
      simp [execOp, resolve, hargs, hf, Deferred.ofValue, invoke, hy]
    rw [hr]
    exact h.mono fun e' w' ⟨v, e1, hR⟩ => ⟨v, e1, k v w' hR⟩
theorem l_callF {fo : Operand} {xs : List Operand} {ts : Array TypeId} {fv : Value} {vs : List Value} {Δ Γ' : List HProp} {α : Type} {v : α → Value} {φ : α → Prop} {Δ' : α → List HProp}
    (ho : nthO l i = some ⟨some d, .call ⟨.value fo, xs.toArray, ts⟩, ty, pos, af, g⟩) (hg : gd l e g = some true) (hn : Nat.blt d n = true) (hf : ev e fo = some fv) (hxs : evs e xs = some vs)
    (hs : CallF P fv vs Δ v φ Δ') (tk : Takes Γ Δ Γ')
    (k : ∀ x, φ x → Le (St w0 ds n ((d, v x) :: e) (Δ' x ++ Γ')) (AG P r l.toArray fl (wpRT P r l.toArray K t))) : Le (St w0 ds n e Γ) (wpRT P r l.toArray K (.l i fl t)) :=
  l_gen ho hg (fun _ h => by cases h) (fun a w s => opUp_invk rfl (s.ev hf) (s.evs hxs) (hs Γ' w (tk _ s.heap)) fun u w' ⟨x, e1, hx, s', am⟩ => by
    subst e1; exact k x hx _ _ ((s.world s' am).put hn))
theorem l_callF_n {fo : Operand} {xs : List Operand} {ts : Array TypeId} {fv : Value} {vs : List Value} {Δ Γ' : List HProp} {α : Type} {v : α → Value} {φ : α → Prop} {Δ' : α → List HProp}
    (ho : nthO l i = some ⟨none, .call ⟨.value fo, xs.toArray, ts⟩, ty, pos, af, g⟩) (hg : gd l e g = some true) (hf : ev e fo = some fv) (hxs : evs e xs = some vs)
    (hs : CallF P fv vs Δ v φ Δ') (tk : Takes Γ Δ Γ')
    (k : ∀ x, φ x → Le (St w0 ds n e (Δ' x ++ Γ')) (AG P r l.toArray fl (wpRT P r l.toArray K t))) : Le (St w0 ds n e Γ) (wpRT P r l.toArray K (.l i fl t)) :=
  l_gen ho hg (fun _ h => by cases h) (fun a w s => opUp_invk rfl (s.ev hf) (s.evs hxs) (hs Γ' w (tk _ s.heap)) fun u w' ⟨x, e1, hx, s', am⟩ => by
    exact k x hx _ _ (s.world s' am))
end

/-! ### The record of a loop over a function -/
abbrev yv (lp : Nat) : Value := .func (.yield lp) #[] #[]
def LoopR (l n : Nat) (e : Env) (ps : Array Tmp) (as bo : Code) (st : LoopState) (pend : Option Code) : HProp := fun h => ∃ (fn : FuncId) (tmps : Array Value) (blk : Nat), tmps.size = n ∧ (∀ t v, look e t = some v → tmps.getD t undef = v) ∧
  objP l (.loop { state := st, pending := pend, fn := fn, tmps := tmps, params := ps, assign := as, body := bo, defers := blk }) h
def stOf (pend : Option Code) : LoopState := if pend.isNone then .ready else .done
/-- ... told by the jump that is pending. -/
def LoopJ (l n : Nat) (e : Env) (ps : Array Tmp) (as bo : Code) (pend : Option Code) : HProp := LoopR l n e ps as bo (stOf pend) pend
def zipE (e : Env) : List Nat → List Value → Env
  | p :: ps, v :: vs => (p, v) :: zipE e ps vs
  | _, _ => e
theorem loop_no {r : Loop} : ∀ c t f, Obj.loop r ≠ .cells c t f := fun _ _ _ h => by cases h
theorem def_no {x : Option (List Deferred)} : ∀ c t f, Obj.deferred x ≠ .cells c t f := fun _ _ _ h => by cases h
theorem putObj_amb (w : World) (r : Nat) (o : Obj) : Amb w (w.putObj r o) := ⟨rfl, rfl, rfl, by simp⟩
theorem sat_putObj {Γ : List HProp} {w : World} {b : Nat} {o : Obj} (s : Sat (objP b o :: Γ) (lh w)) (o' : Obj) (ho : ∀ c t f, o' ≠ .cells c t f) : Sat (objP b o' :: Γ) (lh (w.putObj b o')) := s.setObj o' ho

/-- What a round owes. -/
def rndR (w0 : World) (Γ : List HProp) {α : Type} (v : α → Value) (φ : α → Prop) (Δ' : α → List HProp) : Ending → World → Prop :=
  fun e w' => ∃ u, e = .returned u ∧ ∃ x, u = v x ∧ φ x ∧ Sat (Δ' x ++ Γ) (lh w') ∧ Amb w0 w'
section
variable {P : Program} {w0 : World} {n : Nat} {e e0 : Env} {Γ Γ0 : List HProp} {lp : Nat} {ps : Array Tmp} {as bo : Code}
variable {α : Type} {v : α → Value} {φ : α → Prop} {Δ' : α → List HProp}
theorem k_begin {R : Ending → World → Prop} {Γ' : List HProp} (tk : Take Γ (LoopR lp n e0 ps as bo .ready none) Γ') (k : Le (St w0 [] n e (LoopR lp n e0 ps as bo .busy none :: Γ')) (bo.wpIn (fz (some lp)) 0 P (roundPost P lp R))) :
    Le (St w0 [] n e Γ) (fun a₁ w₁ => ∃ w₂, (Instr.beginRound lp).run P w₁ = .ok () w₂ ∧ bo.wpIn (fz (some lp)) 0 P (roundPost P lp R) a₁ w₂) := fun a w s => by
  obtain ⟨fn, s1⟩ := (tk _ s.heap).ex
  obtain ⟨tmps, s1⟩ := s1.ex
  obtain ⟨blk, s1⟩ := s1.ex
  obtain ⟨h1, s1⟩ := s1.pure_and
  obtain ⟨h2, s1⟩ := s1.pure_and
  have hb := run_beginRound (P := P) s1.obj.1 rfl
  refine ⟨_, hb, k _ _ (s.world ?_ (putObj_amb _ _ _))⟩
  have s2 := sat_putObj s1 (.loop { state := .busy, pending := none, fn := fn, tmps := tmps, params := ps, assign := as, body := bo, defers := blk }) loop_no
  exact Sat.head_mono (fun h hh => ⟨fn, tmps, blk, h1, h2, hh⟩) s2
theorem end_round {jump : Option Code} {p : Option Code} {st : LoopState} {w w1 : World} (s : Sat (LoopR lp n e0 ps as bo st p :: Γ) (lh w)) : ∃ w', (Instr.endRound lp jump).run P w = .ok (.bool jump.isNone) w' ∧ Sat (LoopR lp n e0 ps as bo (stOf jump) jump :: Γ) (lh w') ∧ Amb w w' := by
  obtain ⟨fn, s1⟩ := s.ex
  obtain ⟨tmps, s1⟩ := s1.ex
  obtain ⟨blk, s1⟩ := s1.ex
  obtain ⟨h1, s1⟩ := s1.pure_and
  obtain ⟨h2, s1⟩ := s1.pure_and
  have s2 := sat_putObj s1 (.loop { state := stOf jump, pending := jump, fn := fn, tmps := tmps, params := ps, assign := as, body := bo, defers := blk }) loop_no
  exact ⟨_, run_endRound jump s1.obj.1, Sat.head_mono (fun h hh => ⟨fn, tmps, blk, h1, h2, hh⟩) s2, putObj_amb _ _ _⟩
theorem rr_n {st : LoopState} {p : Option Code} {Γ' : List HProp} (x : α) (hu : .bool true = v x) (hx : φ x) (tk : Take Γ (LoopR lp n e0 ps as bo st p) Γ') (hΓ : Takes (LoopJ lp n e0 ps as bo none :: Γ') (Δ' x) Γ0) :
    Le (St w0 [] n e Γ) (roundPost P lp (rndR w0 Γ0 v φ Δ') .normal) := fun a w s => by
  obtain ⟨w', e1, s2, am⟩ := end_round (P := P) (jump := none) (w1 := w) (tk _ s.heap)
  exact ⟨_, w', e1, _, rfl, x, hu, hx, hΓ _ s2, s.amb.trans am⟩
theorem rr_ret {st : LoopState} {p : Option Code} {Γ' : List HProp} (x : α) (hu : .bool false = v x) (hx : φ x) (tk : Take Γ (LoopR lp n e0 ps as bo st p) Γ') (hΓ : Takes (LoopJ lp n e0 ps as bo (some .ret) :: Γ') (Δ' x) Γ0) :
    Le (St w0 [] n e Γ) (roundPost P lp (rndR w0 Γ0 v φ Δ') .ret) := fun a w s => by
  obtain ⟨w', e1, s2, am⟩ := end_round (P := P) (jump := some .ret) (w1 := w) (tk _ s.heap)
  exact ⟨_, w', e1, _, rfl, x, hu, hx, hΓ _ s2, s.amb.trans am⟩
theorem rr_exit {st : LoopState} {p : Option Code} {Γ' : List HProp} {id : Nat} (x : α) (hu : .bool false = v x) (hx : φ x) (tk : Take Γ (LoopR lp n e0 ps as bo st p) Γ') (hΓ : Takes (LoopJ lp n e0 ps as bo (some (.exit id)) :: Γ') (Δ' x) Γ0) :
    Le (St w0 [] n e Γ) (roundPost P lp (rndR w0 Γ0 v φ Δ') (.exit id)) := fun a w s => by
  obtain ⟨w', e1, s2, am⟩ := end_round (P := P) (jump := some (.exit id)) (w1 := w) (tk _ s.heap)
  exact ⟨_, w', e1, _, rfl, x, hu, hx, hΓ _ s2, s.amb.trans am⟩
theorem zipE_look {n : Nat} {tmps : Array Value} (hs : tmps.size = n) (h : ∀ t v, look e t = some v → tmps.getD t undef = v) : ∀ (ps : List Nat) (vs : List Value), (∀ p ∈ ps, p < n) → ps.length = vs.length → ps.Nodup →
    ((ps.zip vs).foldl (fun tmps (t, a) => tmps.setIfInBounds t a) tmps).size = n ∧ ∀ t v, look (zipE e ps vs) t = some v → ((ps.zip vs).foldl (fun (tmps : Array Value) (t, a) => tmps.setIfInBounds t a) tmps).getD t undef = v := by
  intro ps
  induction ps generalizing tmps e with
  | nil =>
    intro vs hp hl hnd
    cases vs with
    | nil => exact ⟨hs, h⟩
    | cons v vs => simp at hl
  | cons p ps ih =>
    intro vs hp hl hnd
    cases vs with
    | nil => simp at hl
    | cons v vs =>
      have h1 : (tmps.setIfInBounds p v).size = n := by simpa using hs
      have h2 : ∀ t u, look ((p, v) :: e) t = some u → (tmps.setIfInBounds p v).getD t undef = u := by
        intro t u hu
        simp only [look] at hu
        have hpn : p < tmps.size := by rw [hs]; exact hp p (by simp)
        cases hb : Nat.beq p t with
        | true =>
          rw [hb] at hu
          have := Nat.eq_of_beq_eq_true hb
          subst this
          simp only [cond_true, Option.some.injEq] at hu
          subst hu
          simp [Array.getD, hpn]
        | false =>
          rw [hb] at hu
          have hne : p ≠ t := Nat.ne_of_beq_eq_false hb
          have := h t u hu
          rw [Array.getD_eq_getD_getElem?] at this ⊢
          rw [Array.getElem?_setIfInBounds_ne hne]
          exact this
      obtain ⟨i1, i2⟩ := ih (tmps := tmps.setIfInBounds p v) (e := (p, v) :: e) h1 h2 vs (fun q hq => hp q (List.mem_cons_of_mem _ hq)) (by simpa using hl) (List.nodup_cons.1 hnd).2
      refine ⟨i1, fun t u hu => i2 t u ?_⟩
      have key : ∀ (ps : List Nat) (vs : List Value), p ∉ ps → ∀ t u, look ((p, v) :: zipE e ps vs) t = some u → look (zipE ((p, v) :: e) ps vs) t = some u := by
        intro ps
        induction ps with
        | nil => intro vs _ t u hu; cases vs <;> exact hu
        | cons q ps ihq =>
          intro vs hq t u hu
          cases vs with
          | nil => exact hu
          | cons y vs =>
            simp only [zipE, look] at hu ⊢
            have hpq : p ≠ q := fun e => hq (by simp [e])
            cases hb : Nat.beq q t with
            | true =>
              have := Nat.eq_of_beq_eq_true hb
              subst this
              have hb2 : Nat.beq p q = false := by
                cases hh : Nat.beq p q with
                | false => rfl
                | true => exact absurd (Nat.eq_of_beq_eq_true hh) hpq
              simp only [hb2, hb, cond_false, cond_true] at hu ⊢
              exact hu
            | false =>
              simp only [hb, cond_false] at hu ⊢
              exact ihq vs (fun h => hq (List.mem_cons_of_mem _ h)) t u hu
      exact key ps vs (List.nodup_cons.1 hnd).1 t u hu
/-- A round, told by the walk of its body. -/
theorem callF_yield {args : List Value} {Δ : List HProp} (hps : ps.toList.length = args.length) (hnd : ps.toList.Nodup) (hlt : ∀ p ∈ ps.toList, p < n)
    (h : ∀ Γ w0, Le (St w0 [] n (zipE e0 ps.toList args) (LoopR lp n e0 ps as bo .ready none :: (Δ ++ Γ))) (as.wpIn (fz (some lp)) 0 P (Exit.then (fun a₁ w₁ => ∃ w₂, (Instr.beginRound lp).run P w₁ = .ok () w₂ ∧ bo.wpIn (fz (some lp)) 0 P (roundPost P lp (rndR w0 Γ v φ Δ')) a₁ w₂) (fun _ _ _ => False)))) :
    CallF P (yv lp) args (LoopJ lp n e0 ps as bo none :: Δ) v φ Δ' := fun Γ w s => by
  obtain ⟨fn, s1⟩ := Sat.ex s
  obtain ⟨tmps, s1⟩ := s1.ex
  obtain ⟨blk, s1⟩ := s1.ex
  obtain ⟨h1, s1⟩ := s1.pure_and
  obtain ⟨h2, s1⟩ := s1.pure_and
  have hy := run_yield (P := P) (args := args.toArray) s1.obj.1 (by show args.toArray.size = ps.size; rw [← Array.length_toList (xs := ps), hps]; simp)
  have hz := zipE_look (e := e0) h1 h2 ps.toList args hlt hps hnd
  have e1 : ((ps.zip args.toArray).foldl (fun tmps (t, a) => tmps.setIfInBounds t a) tmps) = ((ps.toList.zip args).foldl (fun tmps (t, a) => tmps.setIfInBounds t a) tmps) := by
    rw [← Array.foldl_toList, Array.toList_zip]
  refine .inr ⟨lp, rfl, _, _, _, _, hy, ?_⟩
  refine roundIn_of_wpIn (F := fz none) trivial ?_
  exact h Γ w _ w ⟨rfl, by rw [e1]; exact hz.1, fun t u hu => by rw [e1]; exact hz.2 t u hu, s, Amb.refl w⟩
end

theorem sat_move {Γ' : List HProp} {B : HProp} : ∀ {Δ : List HProp} {h : Hp}, Sat (B :: (Δ ++ Γ')) h → Sat (Δ ++ (B :: Γ')) h
  | [], h, s => s
  | D :: Δ, h, s => Sat.cons_mono (fun h s => sat_move s) s.swap
theorem sat_back {Γ' : List HProp} {B : HProp} : ∀ {Δ : List HProp} {h : Hp}, Sat (Δ ++ (B :: Γ')) h → Sat (B :: (Δ ++ Γ')) h
  | [], h, s => s
  | D :: Δ, h, s => (Sat.cons_mono (fun h s => sat_back s) s).swap

/-! ### The statement -/
section
variable {P : Program} {w0 : World} {ds : List Deferred} {n : Nat} {e : Env} {Γ : List HProp} {Q : Exit → Act → World → Prop}
abbrev mk (blk : Nat) : Deferred := { target := .collected blk, args := #[] }
theorem c_rangeF {g : Operand} {ps : Array Tmp} {as bo : Code} {f : FuncId} {fi ca : List Value} {Δ Γ' : List HProp} {α : Type} {v : α → Value} {φ : α → Prop} {Δ' : α → List HProp} (pend : α → Option Code)
    (hg : ev e g = some (.func (.func f) fi.toArray ca.toArray)) (hc : ∀ args w, (callFunc f args).run P w = .ok (.enter f args) w)
    (hs : ∀ lp, Spec P f (fi ++ [yv lp] ++ ca) (LoopJ lp n e ps as bo none :: Δ) v φ (fun x => LoopJ lp n e ps as bo (pend x) :: Δ' x))
    (tk : Takes Γ Δ Γ')
    (k : ∀ x, φ x → ∀ blk, (match pend x with
      | none => Le (St w0 (mk blk :: ds) n e (objP blk (.deferred (some [])) :: (Δ' x ++ Γ'))) (Q .normal)
      | some c => Le (St w0 (mk blk :: ds) n e (objP blk (.deferred (some [])) :: (Δ' x ++ Γ'))) (c.wpIn (fz none) 0 P Q))) :
    Le (St w0 ds n e Γ) ((Code.rangeFunc g ps as bo).wpIn (fz none) 0 P Q) := fun a w s => by
  refine wpIn_rangeFunc fun fn _ => ?_
  have he := run_enterLoop_outer (P := P) (w := w) fn a.tmps ps as bo
  have hev : ∀ (w' : World), (resolve a.eval (rangeCall g (w.heap.size + 1)) 0).run P w' = .ok { target := .fn (.func f) ca.toArray, args := (fi ++ [yv (w.heap.size + 1)]).toArray } w' := fun w' => by
    have hk : a.eval (.const (.func (.yield (w.heap.size + 1)) #[] #[])) = .func (.yield (w.heap.size + 1)) #[] #[] := rfl
    simp [resolve, s.ev hg, Deferred.ofValue, hk]
  have s1 := (tk _ s.heap).newObj (.deferred (some [])) def_no
  have s2 := s1.newObj (.loop { state := .ready, pending := none, fn := fn, tmps := a.tmps, params := ps, assign := as, body := bo, defers := w.heap.size }) loop_no
  rw [World.size_alloc] at s2
  have am0 : Amb w ((w.alloc (.deferred (some []))).alloc (.loop { state := .ready, pending := none, fn := fn, tmps := a.tmps, params := ps, assign := as, body := bo, defers := w.heap.size })) := ⟨rfl, rfl, rfl, by simp only [World.size_alloc]; omega⟩
  generalize (w.alloc (.deferred (some []))).alloc (.loop { state := .ready, pending := none, fn := fn, tmps := a.tmps, params := ps, assign := as, body := bo, defers := w.heap.size }) = W1 at he s2 am0
  refine ⟨w.heap.size + 1, [mk w.heap.size], W1, _, W1, f, (fi ++ [yv (w.heap.size + 1)] ++ ca).toArray, W1, he, hev _, fun _ _ => trivial, ?_, fun h => by simp [fz, Fence.wide] at h, ?_⟩
  · simp [invoke, hc]
  refine fz_calls (((hs (w.heap.size + 1)) (objP w.heap.size (.deferred (some [])) :: Γ') _ ?_).mono ?_)
  · refine Sat.head_mono (fun h hh => ⟨fn, a.tmps, w.heap.size, s.size, s.env, hh⟩) ?_
    exact Sat.cons_mono (fun h s => sat_move s) s2
  · rintro e' w' ⟨x, rfl, hx, s3, am⟩
    obtain ⟨fn', s4⟩ := Sat.ex s3
    obtain ⟨tmps', s4⟩ := s4.ex
    obtain ⟨blk', s4⟩ := s4.ex
    obtain ⟨h1, s4⟩ := s4.pure_and
    obtain ⟨h2, s4⟩ := s4.pure_and
    have hend := run_endLoop (P := P) s4.obj.1 (by unfold stOf; split <;> simp)
    have s5 := (sat_putObj s4 (.loop { state := .exhausted, pending := pend x, fn := fn', tmps := tmps', params := ps, assign := as, body := bo, defers := blk' }) loop_no).tail
    have am2 : Amb w (w'.putObj (w.heap.size + 1) (.loop { state := .exhausted, pending := pend x, fn := fn', tmps := tmps', params := ps, assign := as, body := bo, defers := blk' })) :=
      (am0.trans am).trans (putObj_amb _ _ _)
    refine ⟨pend x, _, hend, ?_⟩
    have s6 : Sat (objP w.heap.size (.deferred (some [])) :: (Δ' x ++ Γ')) (lh (w'.putObj (w.heap.size + 1) (.loop { state := .exhausted, pending := pend x, fn := fn', tmps := tmps', params := ps, assign := as, body := bo, defers := blk' }))) := by
      exact sat_back s5
    have hk := k x hx w.heap.size
    have st : St w0 (mk w.heap.size :: ds) n e (objP w.heap.size (.deferred (some [])) :: (Δ' x ++ Γ')) { a with defers := [mk w.heap.size] ++ a.defers } _ := ⟨by rw [s.defers]; rfl, s.size, s.env, s6, s.amb.trans am2⟩
    cases hp : pend x with
    | none => rw [hp] at hk; exact (by rw [hp] at st; exact hk _ _ st)
    | some c => rw [hp] at hk; exact (by rw [hp] at st; exact hk _ _ st)

/-! ### A function whose body holds such a loop -/
theorem spec_mkM {f : FuncId} {args : List Value} {Δ : List HProp} {α : Type} {v : α → Value} {φ : α → Prop} {Δ' : α → List HProp} {fn : Func} {c : Code} {n : Nat} (hf : P.funcs[f]? = some fn) (hb : fn.body = some c) (hn : fn.ntmps = n) (hle : Nat.ble args.length n = true)
    (h : ∀ Γ w0, Le (St w0 [] n (argE 0 args) (Δ ++ Γ)) (c.wpIn (fz none) 0 P (bodyPostM (fz none) 0 P fn (postR w0 Γ v φ Δ')))) : Spec P f args Δ v φ Δ' := by
  intro Γ w s
  have hle : args.length ≤ n := Nat.le_of_ble_eq_true hle
  refine (callsIn_wide (n := 0)).1 ?_
  have := callsIn_of_wp_marks (F := fz none) (n := 0) (R := postR w Γ v φ Δ') hf hb trivial (args := args.toArray) (w := w) (h Γ w _ _ ⟨rfl, by simp [hn]; omega, fun t u ht => ?_, s, Amb.refl w⟩)
  · exact this
  obtain ⟨-, h2⟩ := look_argE args 0 t u ht
  have hlt : t < args.length := by
    rcases Nat.lt_or_ge t args.length with h' | h'
    · exact h'
    · rw [Nat.sub_zero, List.getElem?_eq_none h'] at h2; cases h2
  rw [Nat.sub_zero] at h2
  simp only [Array.getD_eq_getD_getElem?]
  rw [Array.getElem?_append_left (by simpa using hlt)]
  simp [h2]
def LM (P : Program) (fn : Func) (R : Ending → World → Prop) (ds : List Deferred) : Act → World → Prop := fun a w => LeavesInM (fz none) 0 P fn a.tmps R ds .returning w
theorem rm_ret {fn : Func} {R : Ending → World → Prop} (h : Le (St w0 ds n e Γ) (LM P fn R ds)) : Le (St w0 ds n e Γ) (bodyPostM (fz none) 0 P fn R .ret) := fun a w s => by
  show LeavesInM _ _ _ _ _ _ _ _ _
  rw [s.defers]; exact h a w s
theorem rm_end {fn : Func} {R : Ending → World → Prop} (h : Le (St w0 ds n e Γ) (bodyPostM (fz none) 0 P fn R .ret)) : Le (St w0 ds n e Γ) (bodyPostM (fz none) 0 P fn R .normal) := h
theorem rm_mark {fn : Func} {R : Ending → World → Prop} {ds0 : List Deferred} {blk : Nat} {Γ' : List HProp} (tk : Take Γ (objP blk (.deferred (some []))) Γ') (k : Le (St w0 ds0 n e (objP blk (.deferred none) :: Γ')) (LM P fn R ds)) : Le (St w0 ds0 n e Γ) (LM P fn R (mk blk :: ds)) := fun a w s => by
  have s1 := tk _ s.heap
  refine ⟨by simp, .inl ⟨blk, _, rfl, run_takeDeferred s1.obj.1, ?_⟩⟩
  exact k _ _ (s.world (sat_putObj s1 (.deferred none) def_no) (putObj_amb _ _ _))
theorem rm_done {α : Type} {Γ0 : List HProp} {v : α → Value} {φ : α → Prop} {Δ' : α → List HProp} {fn : Func} {rs : List ResultVar} {us : List Value} (hf : fn.results = rs.toArray) (hl : ResL P n e Γ rs us) (x : α) (hu : tup us = v x) (hx : φ x) (hΓ : Takes Γ (Δ' x) Γ0) :
    Le (St w0 ds n e Γ) (LM P fn (postR w0 Γ0 v φ Δ') []) := fun a w s => by
  have s0 : St w0 [] n e Γ { a with defers := [] } w := ⟨rfl, s.size, s.env, s.heap, s.amb⟩
  obtain ⟨-, u, h1, h2⟩ := retL (P := P) (w0 := w0) (Γ0 := Γ0) (v := v) (φ := φ) (Δ' := Δ') hf hl x hu hx hΓ _ _ s0
  exact ⟨u, h1, h2⟩
end
end Go.Ab
