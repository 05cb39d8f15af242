/- The engine, part L: addresses of elements of slices that are read or owned; bundles that are read; conditions. -/
import Derived.Test.YtkoclbjiaofkhaaEngK
set_option linter.unusedVariables false
set_option linter.unusedSimpArgs false
namespace Go.Ab
open Go

theorem rds_bun {Γ : List HProp} {A : HProp} {ao : Option Addr} {vs : List Value} (hm : A ∈ Γ) (h : RdS A ao vs) : RdS (Bun Γ) ao vs := by
  rcases h with h | ⟨b, o, h1, h2⟩
  · exact .inl h
  · refine .inr ⟨b, o, h1, fun i v hv hp s => ?_⟩
    have key : ∀ (Γ : List HProp) (hp : Hp), A ∈ Γ → Sat Γ hp → ∃ h1, Hle h1 hp ∧ A h1 := by
      intro Γ
      induction Γ with
      | nil => intro hp hm; cases hm
      | cons B Γ ih =>
        intro hp hm s
        obtain ⟨k1, l1, b1, s1⟩ := s
        rcases List.mem_cons.1 hm with rfl | hm
        · exact ⟨k1, l1, b1⟩
        · obtain ⟨k2, l2, a2⟩ := ih _ hm s1
          exact ⟨k2, l2.trans (Hmin_le _ _), a2⟩
    obtain ⟨k, l, a⟩ := key Γ hp hm s
    obtain ⟨fr, e⟩ := h2 i v hv k a
    exact ⟨fr, l _ _ e⟩
theorem rdn_bun {Γ : List HProp} {A : HProp} {b o : Nat} {vs : List Value} (hm : A ∈ Γ) (h : RdN A b o vs) : RdN (Bun Γ) b o vs := by
  rcases rds_bun hm (.inr ⟨b, o, rfl, h⟩) with h1 | ⟨b', o', h1, h2⟩
  · subst h1; exact fun i v hv => by simp at hv
  · cases h1; exact h2

section
variable {P : Program} {r : Option Nat} {w0 : World} {ds : List Deferred} {n : Nat} {e : Env} {Γ : List HProp} {K : Act → World → Prop} {l : List Oper} {i : Nat} {t : RT} {fl : List Nat}
variable {d : Nat} {ty : TypeId} {pos : String} {af : Array Edge} {g : Option (Nat × Bool)}

/-- The address of an element of a slice that can be read. -/
theorem q_idxR {α : Type} {T E : TypeId} {x y : Operand} {ao : Option Addr} {len cap sz k : Nat} {k' : IntKind} {ix : Int} {A : HProp} {enc : α → List Value} {xs : List α} {p : α} (ho : nthO l i = some ⟨some d, .indexAddr T x y, ty, pos, af, g⟩) (hg : gd l e g = some true) (hn : Nat.blt d n = true)
    (hx : ev e x = some (.slice ao len cap)) (hy : ev e y = some (.int k' ix)) (hu : P.underlying T = some (.slice E)) (hs : ∀ w, (sizeOf E).run P w = .ok (sz + 1) w) (hr : RdS A ao (xs.flatMap enc)) (hp : xs[k]? = some p) (hsz : ∀ x, (enc x).length = sz + 1) (hi : ix = (k : Int)) (hlen : k < len)
    (kk : ∀ b o, ao = some ⟨b, o, none⟩ → RdN A b (o + k * (sz + 1)) (enc p) → Le (St w0 ds n ((d, .pointer (some ⟨b, o + k * (sz + 1), none⟩)) :: e) Γ) (wpRT P r l.toArray K t)) : Le (St w0 ds n e Γ) (wpRT P r l.toArray K (.q i t)) := by
  obtain ⟨b, o, rfl, hrn⟩ := rds_get hr hsz hp
  exact q_idx ho hg hn hx hy hu hs hi hlen ⟨b, o, rfl⟩ fun b' o' h => by cases h; exact kk b o rfl (rdn_sub hrn hsz hp)
/-- ... that is owned. -/
theorem q_idxO {α : Type} {T E : TypeId} {x y : Operand} {ao : Option Addr} {len cap cap' sz k : Nat} {k' : IntKind} {ix : Int} {enc : α → List Value} {xs : List α} {p : α} {Γ' : List HProp} (ho : nthO l i = some ⟨some d, .indexAddr T x y, ty, pos, af, g⟩) (hg : gd l e g = some true) (hn : Nat.blt d n = true)
    (hx : ev e x = some (.slice ao len cap')) (hy : ev e y = some (.int k' ix)) (hu : P.underlying T = some (.slice E)) (hs : ∀ w, (sizeOf E).run P w = .ok (sz + 1) w) (hp : xs[k]? = some p) (hi : ix = (k : Int)) (hlen : k < len) (tk : Take Γ (own (sz + 1) enc ao cap xs) Γ')
    (kk : ∀ b o, ao = some ⟨b, o, none⟩ → k < xs.length → xs.length ≤ cap → Le (St w0 ds n ((d, .pointer (some ⟨b, o + k * (sz + 1), none⟩)) :: e) Γ) (wpRT P r l.toArray K t)) : Le (St w0 ds n e Γ) (wpRT P r l.toArray K (.q i t)) :=
  own_some tk hp fun b o hao h1 h2 => q_idx ho hg hn hx hy hu hs hi hlen ⟨b, o, hao⟩ fun b' o' h => kk b' o' h h1 h2
theorem q_load_O {α : Type} {T : TypeId} {x : Operand} {b o off j k' cap sz : Nat} {ao : Option Addr} {enc : α → List Value} {xs : List α} {p : α} {v : Value} {Γ' : List HProp} (ho : nthO l i = some ⟨some d, .load T x, ty, pos, af, g⟩) (hg : gd l e g = some true) (hn : Nat.blt d n = true)
    (hx : ev e x = some (.pointer (some ⟨b, o, none⟩))) (hA : ∀ w, (isAgg T).run P w = .ok false w) (hao : ao = some ⟨b, off, none⟩) (hsz : ∀ x, (enc x).length = sz) (hp : xs[k']? = some p) (tk : Take Γ (own sz enc ao cap xs) Γ') (hj : o = off + k' * sz + j) (hv : (enc p)[j]? = some v)
    (k : Le (St w0 ds n ((d, v) :: e) Γ) (wpRT P r l.toArray K t)) : Le (St w0 ds n e Γ) (wpRT P r l.toArray K (.q i t)) := by
  subst hao
  exact q_load_o ho hg hn hx hA tk hsz hj hp hv k
theorem q_loadN_O {α : Type} {T : TypeId} {x : Operand} {b o off j k' cap sz ssz : Nat} {ao : Option Addr} {enc : α → List Value} {xs : List α} {p : α} {us : List Value} {Γ' : List HProp} (ho : nthO l i = some ⟨some d, .load T x, ty, pos, af, g⟩) (hg : gd l e g = some true) (hn : Nat.blt d n = true)
    (hx : ev e x = some (.pointer (some ⟨b, o, none⟩))) (hA : ∀ w, (isAgg T).run P w = .ok true w) (hs : ∀ w, (sizeOf T).run P w = .ok ssz w) (hao : ao = some ⟨b, off, none⟩) (hsz : ∀ x, (enc x).length = sz) (hp : xs[k']? = some p) (tk : Take Γ (own sz enc ao cap xs) Γ') (hj : o = off + k' * sz + j) (hu : ((enc p).drop j).take ssz = us) (hl : us.length = ssz)
    (k : Le (St w0 ds n ((d, .agg us.toArray) :: e) Γ) (wpRT P r l.toArray K t)) : Le (St w0 ds n e Γ) (wpRT P r l.toArray K (.q i t)) := by
  subst hao hj
  exact q_loadN ho hg hn hx hA hs tk (rdn_part (rdn_own hsz hp) j hu) hl k
theorem ag_load_O {α : Type} {jj : Nat} {T : TypeId} {x : Operand} {b o off j k' cap sz : Nat} {ao : Option Addr} {enc : α → List Value} {xs : List α} {p : α} {v : Value} {Γ' : List HProp} {X : Act → World → Prop} (ho : nthO l jj = some ⟨some d, .load T x, ty, pos, af, g⟩)
    (hx : ev e x = some (.pointer (some ⟨b, o, none⟩))) (hl : look e d = some v) (hA : ∀ w, (isAgg T).run P w = .ok false w) (hao : ao = some ⟨b, off, none⟩) (hsz : ∀ x, (enc x).length = sz) (hp : xs[k']? = some p) (tk : Take Γ (own sz enc ao cap xs) Γ') (hj : o = off + k' * sz + j) (hv : (enc p)[j]? = some v)
    (k : Le (St w0 ds n e Γ) (AG P r l.toArray fl X)) : Le (St w0 ds n e Γ) (AG P r l.toArray (jj :: fl) X) := by
  subst hao
  exact ag_load_o ho hx hl hA tk hsz hj hp hv k
theorem ag_loadN_O {α : Type} {jj : Nat} {T : TypeId} {x : Operand} {b o off j k' cap sz ssz : Nat} {ao : Option Addr} {enc : α → List Value} {xs : List α} {p : α} {us : List Value} {Γ' : List HProp} {X : Act → World → Prop} (ho : nthO l jj = some ⟨some d, .load T x, ty, pos, af, g⟩)
    (hx : ev e x = some (.pointer (some ⟨b, o, none⟩))) (hl : look e d = some (.agg us.toArray)) (hA : ∀ w, (isAgg T).run P w = .ok true w) (hs : ∀ w, (sizeOf T).run P w = .ok ssz w) (hao : ao = some ⟨b, off, none⟩) (hsz : ∀ x, (enc x).length = sz) (hp : xs[k']? = some p) (tk : Take Γ (own sz enc ao cap xs) Γ') (hj : o = off + k' * sz + j) (hu : ((enc p).drop j).take ssz = us) (hll : us.length = ssz)
    (k : Le (St w0 ds n e Γ) (AG P r l.toArray fl X)) : Le (St w0 ds n e Γ) (AG P r l.toArray (jj :: fl) X) := by
  subst hao hj
  exact ag_loadN ho hx hl hA hs tk (rdn_part (rdn_own hsz hp) j hu) hll k
theorem l_store_O {α : Type} {T : TypeId} {x y : Operand} {v : Value} {b o off k j sz ssz cap : Nat} {ao : Option Addr} {enc : α → List Value} {xs : List α} {p q : α} {us : List Value} {Γ' : List HProp} (ho : nthO l i = some ⟨none, .store T x y, ty, pos, af, g⟩) (hg : gd l e g = some true)
    (hx : ev e x = some (.pointer (some ⟨b, o, none⟩))) (hy : ev e y = some v) (hs : ∀ w, (sizeOf T).run P w = .ok ssz w) (hv : v.cells.toList = us) (hl : us.length = ssz) (h1 : us.all Value.oneCell' = true)
    (hao : ao = some ⟨b, off, none⟩) (hsz : ∀ x, (enc x).length = sz) (hp : xs[k]? = some p) (tk : Take Γ (own sz enc ao cap xs) Γ') (hj : o = off + k * sz + j) (hlt : j + us.length ≤ sz) (hq : enc q = setL (enc p) j us)
    (kk : Le (St w0 ds n e (own sz enc ao cap (xs.set k q) :: Γ')) (AG P r l.toArray fl (wpRT P r l.toArray K t))) : Le (St w0 ds n e Γ) (wpRT P r l.toArray K (.l i fl t)) := by
  subst hao
  exact l_storeO ho hg hx hy hs hv hl h1 hsz tk hj hp hlt hq kk

theorem b_shrL (tx : TypeId) {k' k2 : IntKind} {p z : Int} (q : Nat) (m : Int) (hz : z = (q : Int)) (h : Nat.ble q 64 = true) (hm : (2 : Int) ^ q = m) (hb : Nat.ble q k'.bits = true := by decide) : ∀ w, (binOp .shr tx (.int k' p) (.int k2 z)).run P w = .ok (.int k' (p / m)) w := by
  intro w
  subst hz hm
  have h0 : q ≤ k'.bits := Nat.le_of_ble_eq_true hb
  have h1 : ¬ ((q : Int) < 0) := by omega
  have h2 : min q k'.bits = q := Nat.min_eq_left h0
  have h3 : p.fdiv (2 ^ q) = p / 2 ^ q := Int.fdiv_eq_ediv_of_nonneg _ (Int.le_of_lt (Int.pow_pos (by decide)))
  simp [binOp, Op.shift, h1, h2, h3]
theorem b_shlL (tx : TypeId) {k' k2 : IntKind} {p z : Int} (q : Nat) (m : Int) (hz : z = (q : Int)) (h : Nat.ble q 64 = true) (hm : (2 : Int) ^ q = m) (hb : Nat.ble q k'.bits = true := by decide) : ∀ w, (binOp .shl tx (.int k' p) (.int k2 z)).run P w = .ok (.int k' (k'.wrap (p * m))) w := by
  intro w
  subst hz hm
  have h0 : q ≤ k'.bits := Nat.le_of_ble_eq_true hb
  have h1 : ¬ ((q : Int) < 0) := by omega
  have h2 : min q k'.bits = q := Nat.min_eq_left h0
  simp [binOp, Op.shift, h1, h2]

/-- A condition that is turned round. -/
theorem s_bool_np {X : Act → World → Prop} (d : Nat) {p : Prop} [Decidable p] (h : look e d = some (.bool (!decide p))) (ht : ¬ p → Le (St w0 ds n ((d, .bool true) :: e) Γ) X) (hf : p → Le (St w0 ds n ((d, .bool false) :: e) Γ) X) : Le (St w0 ds n e Γ) X :=
  s_bool d h (fun h => ht (by simpa using h)) (fun h => hf (by simpa using h))
theorem q_pick_and {c x : Operand} {b b2 : Bool} (ho : nthO l i = some ⟨some d, .pick c x (.const (.bool false)), ty, pos, af, g⟩) (hg : gd l e g = some true) (hn : Nat.blt d n = true) (hc : ev e c = some (.bool b)) (hy : ev e x = some (.bool b2))
    (k : Le (St w0 ds n ((d, .bool (b && b2)) :: e) Γ) (wpRT P r l.toArray K t)) : Le (St w0 ds n e Γ) (wpRT P r l.toArray K (.q i t)) :=
  q_pure ho hg rfl hn rfl (fun _ h => by cases h) (fun a w s w' => by
    have hk : a.eval (.const (.bool false)) = .bool false := rfl
    cases b <;> simp [execOp, s.ev hc, s.ev hy, asBool, hk]) k
end
section
variable {P : Program} {r : Option Nat} {Q : Exit → Act → World → Prop} {w0 : World} {ds : List Deferred} {n : Nat} {e : Env} {Γ : List HProp}
theorem c_cond_np {c : Operand} {x y : Code} {p : Prop} [Decidable p] (hc : ev e c = some (.bool (!decide p))) (ht : ¬ p → Le (St w0 ds n e Γ) (x.wpIn (fz r) 0 P Q)) (hf : p → Le (St w0 ds n e Γ) (y.wpIn (fz r) 0 P Q)) :
    Le (St w0 ds n e Γ) ((Code.cond c x y).wpIn (fz r) 0 P Q) := c_cond hc (fun h => ht (by simpa using h)) (fun h => hf (by simpa using h))
/-- A state told by something unknown: gone on with. -/
theorem st_ex {α : Sort _} {T : α → Act → World → Prop} {X : Act → World → Prop} (k : ∀ x, Le (T x) X) : Le (fun a w => ∃ x, T x a w) X := fun a w ⟨x, h⟩ => k x a w h
theorem st_ex_i {α : Sort _} {T : α → Act → World → Prop} {S : Act → World → Prop} (x : α) (k : Le S (T x)) : Le S (fun a w => ∃ x, T x a w) := fun a w h => ⟨x, k a w h⟩
end
end Go.Ab
