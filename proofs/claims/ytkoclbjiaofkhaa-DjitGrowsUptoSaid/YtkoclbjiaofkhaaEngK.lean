/- The engine, part K: many resources of one kind. -/
import Derived.Test.YtkoclbjiaofkhaaEngJ
set_option linter.unusedVariables false
set_option linter.unusedSimpArgs false
namespace Go.Ab
open Go

theorem Sat.perm {Γ Γ' : List HProp} (p : Γ.Perm Γ') : ∀ {h : Hp}, Sat Γ h → Sat Γ' h := by
  induction p with
  | nil => exact fun s => s
  | cons A _ ih => exact fun s => Sat.cons_mono (fun h s => ih s) s
  | swap A B l => exact fun s => s.swap
  | trans _ _ ih1 ih2 => exact fun s => ih2 (ih1 s)
/-- One for each of the list. -/
def bigS {α : Type} (f : α → HProp) (L : List α) : HProp := fun h => Sat (L.map f) h
theorem erase_perm {α : Type} : ∀ (l : List α) (i : Nat) (p : α), l[i]? = some p → (p :: l.eraseIdx i).Perm l
  | [], i, p, h => by simp at h
  | a :: l, 0, p, h => by simp at h; subst h; exact List.Perm.refl _
  | a :: l, i + 1, p, h => by
    rw [List.eraseIdx_cons_succ]
    exact (List.Perm.swap a p _).trans ((erase_perm l i p (by simpa using h)).cons a)
theorem erase_set {α : Type} : ∀ (l : List α) (i : Nat) (y : α), (l.set i y).eraseIdx i = l.eraseIdx i
  | [], i, y => by simp
  | a :: l, 0, y => rfl
  | a :: l, i + 1, y => by
    rw [List.set_cons_succ, List.eraseIdx_cons_succ, List.eraseIdx_cons_succ, erase_set l i y]
section
variable {α : Type} {f : α → HProp} {L : List α} {Γ : List HProp} {h : Hp}
theorem big_take {i : Nat} {x : α} (hx : L[i]? = some x) (s : Sat (bigS f L :: Γ) h) : Sat (f x :: bigS f (L.eraseIdx i) :: Γ) h := by
  have s1 := Bun.unfold s
  have s2 : Sat ((x :: L.eraseIdx i).map f ++ Γ) h := Sat.perm (((erase_perm L i x hx).symm.map f).append_right Γ) s1
  exact Sat.cons_mono (fun h s => Bun.fold s) s2
theorem big_put {i : Nat} {y : α} (hi : i < L.length) (s : Sat (f y :: bigS f (L.eraseIdx i) :: Γ) h) : Sat (bigS f (L.set i y) :: Γ) h := by
  have s1 : Sat ((y :: L.eraseIdx i).map f ++ Γ) h := Sat.cons_mono (fun h s => Bun.unfold s) s
  have p := erase_perm (L.set i y) i y (by rw [List.getElem?_set_self hi])
  rw [erase_set] at p
  exact Bun.fold (Sat.perm ((p.map f).append_right Γ) s1)
theorem big_nil (s : Sat Γ h) : Sat (bigS f [] :: Γ) h := Bun.fold (Δ := Γ) (Γ := []) s
theorem big_push {x : α} (s : Sat (bigS f L :: f x :: Γ) h) : Sat (bigS f (L ++ [x]) :: Γ) h := by
  have s1 := Bun.unfold s
  refine Bun.fold ?_
  rw [List.map_append, List.append_assoc]
  exact s1
theorem rd_big {x : α} {b o : Nat} {v : Value} (hx : x ∈ L) (r : Rd (f x) b o v) : Rd (bigS f L) b o v := fun h s => by
  obtain ⟨i, hi⟩ := List.getElem?_of_mem hx
  have s1 : Sat (bigS f L :: []) h := ⟨h, Hle.refl _, s, trivial⟩
  obtain ⟨h1, l1, a1⟩ := (big_take hi s1).head
  obtain ⟨fr, hf⟩ := r h1 a1
  exact ⟨fr, l1 _ _ hf⟩
theorem rdn_big {x : α} {b o : Nat} {vs : List Value} (hx : x ∈ L) (r : RdN (f x) b o vs) : RdN (bigS f L) b o vs := fun i v hv => rd_big hx (r i v hv)
theorem rds_big {x : α} {ao : Option Addr} {vs : List Value} (hx : x ∈ L) (r : RdS (f x) ao vs) : RdS (bigS f L) ao vs := by
  rcases r with r | ⟨b, o, h1, h2⟩
  · exact .inl r
  · exact .inr ⟨b, o, h1, rdn_big hx h2⟩
variable {w0 : World} {ds : List Deferred} {n : Nat} {e : Env} {X : Act → World → Prop}
theorem s_big_take {i : Nat} {x : α} {Γ' : List HProp} (tk : Take Γ (bigS f L) Γ') (hx : L[i]? = some x) (k : Le (St w0 ds n e (f x :: bigS f (L.eraseIdx i) :: Γ')) X) : Le (St w0 ds n e Γ) X := s_heap (fun h s => big_take hx (tk h s)) k
theorem s_big_put {i : Nat} {y : α} {Γ' : List HProp} (tk : Takes Γ [f y, bigS f (L.eraseIdx i)] Γ') (hi : i < L.length) (k : Le (St w0 ds n e (bigS f (L.set i y) :: Γ')) X) : Le (St w0 ds n e Γ) X := s_heap (fun h s => big_put hi (tk h s)) k
theorem s_big_nil {f : α → HProp} (k : Le (St w0 ds n e (bigS f [] :: Γ)) X) : Le (St w0 ds n e Γ) X := s_heap (fun h s => big_nil s) k
theorem s_big_push {x : α} {Γ' : List HProp} (tk : Takes Γ [bigS f L, f x] Γ') (k : Le (St w0 ds n e (bigS f (L ++ [x]) :: Γ')) X) : Le (St w0 ds n e Γ) X := s_heap (fun h s => big_push (tk h s)) k
end
/-- A slice grown by append: in its own row, or in a new one; then the old one is there still. -/
def app2 {α : Type} (sz : Nat) (enc : α → List Value) (ao : Option Addr) (cap : Nat) (xs : List α) (ao' : Option Addr) (cap' : Nat) (zs : List α) : HProp := fun h =>
  (ao' = ao ∧ cap' = cap ∧ own sz enc ao' cap' zs h) ∨ Sat [own sz enc ao' cap' zs, own sz enc ao cap xs] h
section
variable {P : Program} {r : Option Nat} {w0 : World} {ds : List Deferred} {n : Nat} {e : Env} {Γ : List HProp} {K : Act → World → Prop} {l : List Oper} {i : Nat} {t : RT} {fl : List Nat}
variable {d : Nat} {ty : TypeId} {pos : String} {af : Array Edge} {g : Option (Nat × Bool)}
theorem l_append2 {α : Type} {T E : TypeId} {x y : Operand} {sz : Nat} {enc : α → List Value} {ao bo : Option Addr} {m c len cap : Nat} {xs ys : List α} {A : HProp} {ti : TypeInfo} {z : Value} {Γ1 Γ2 : List HProp} (ho : nthO l i = some ⟨some d, .call ⟨.builtin .append, #[x, y], #[T, T]⟩, ty, pos, af, g⟩) (hg : gd l e g = some true) (hn : Nat.blt d n = true)
    (hx : ev e x = some (.slice ao len cap)) (hy : ev e y = some (.slice bo m c)) (hu : P.underlying T = some (.slice E)) (hti : ∀ w, (typeInfo E).run P w = .ok ti w) (hz : ti.zero = some z) (hzs : z.cells.size = sz) (hsi : ti.size = sz) (hpos : 0 < sz)
    (tk : Take Γ (own sz enc ao cap xs) Γ1) (tk2 : Take Γ1 A Γ2) (hlen : xs.length = len) {us : List Value} (hr : RdS A bo us) (hus : ys.flatMap enc = us) (hm : ys.length = m) (hsz : ∀ x, (enc x).length = sz) (h1 : ∀ y, (enc y).all Value.oneCell' = true)
    (h63 : len + m ≤ 9223372036854775807) (hby : (len + m) * ti.bytes ≤ 140737488355328)
    (k : ∀ ao' cap', Le (St w0 ds n ((d, .slice ao' (len + m) cap') :: e) (app2 sz enc ao cap xs ao' cap' (xs ++ ys) :: A :: Γ2)) (AG P r l.toArray fl (wpRT P r l.toArray K t))) : Le (St w0 ds n e Γ) (wpRT P r l.toArray K (.l i fl t)) :=
  l_gen ho hg (fun _ h => by cases h) (fun a w s => by
    subst hlen
    subst hus
    have s1 : Sat (own sz enc ao cap xs :: A :: Γ2) (lh w) := Sat.cons_mono tk2 (tk _ s.heap)
    obtain ⟨ao', cap', w', e1, e2, e3⟩ := run_append2 (P := P) (ty := ty) (c := c) hu hti hz hzs hsi hsz hpos h1 s1 hr hm h63 hby
    have hr' : (execOp a.eval ⟨some d, .call ⟨.builtin .append, #[x, y], #[T, T]⟩, ty, pos, af, g⟩).run P w = .ok (.value (.slice ao' (xs.length + m) cap')) w' := by
      simp [execOp, resolve, invoke, builtin, s.ev hx, s.ev hy, e1]
    rw [hr']
    have s2 : Sat (app2 sz enc ao cap xs ao' cap' (xs ++ ys) :: A :: Γ2) (lh w') := by
      rcases e2 with ⟨h2, h3, e2⟩ | e2
      · exact Sat.head_mono (fun h hh => .inl ⟨h2, h3, hh⟩) e2
      · exact Sat.head_mono (fun h hh => .inr hh) (Bun.fold (Δ := A :: Γ2) (Γ := [own sz enc ao' cap' (xs ++ ys), own sz enc ao cap xs]) e2)
    exact k ao' cap' _ _ ((s.world s2 e3).put hn))
theorem l_appendA {α : Type} {T E : TypeId} {x y : Operand} {sz : Nat} {enc : α → List Value} {a0 ao bo : Option Addr} {m c len c0 cap : Nat} {xs zs ys : List α} {A : HProp} {ti : TypeInfo} {z : Value} {Γ1 Γ2 : List HProp} (ho : nthO l i = some ⟨some d, .call ⟨.builtin .append, #[x, y], #[T, T]⟩, ty, pos, af, g⟩) (hg : gd l e g = some true) (hn : Nat.blt d n = true)
    (hx : ev e x = some (.slice ao len cap)) (hy : ev e y = some (.slice bo m c)) (hu : P.underlying T = some (.slice E)) (hti : ∀ w, (typeInfo E).run P w = .ok ti w) (hz : ti.zero = some z) (hzs : z.cells.size = sz) (hsi : ti.size = sz) (hpos : 0 < sz)
    (tk : Take Γ (app2 sz enc a0 c0 xs ao cap zs) Γ1) (tk2 : Take Γ1 A Γ2) (hlen : zs.length = len) {us : List Value} (hr : RdS A bo us) (hus : ys.flatMap enc = us) (hm : ys.length = m) (hsz : ∀ x, (enc x).length = sz) (h1 : ∀ y, (enc y).all Value.oneCell' = true)
    (h63 : len + m ≤ 9223372036854775807) (hby : (len + m) * ti.bytes ≤ 140737488355328) (hpre : zs.take xs.length = xs)
    (k : ∀ ao' cap', Le (St w0 ds n ((d, .slice ao' (len + m) cap') :: e) (app2 sz enc a0 c0 xs ao' cap' (zs ++ ys) :: A :: Γ2)) (AG P r l.toArray fl (wpRT P r l.toArray K t))) : Le (St w0 ds n e Γ) (wpRT P r l.toArray K (.l i fl t)) :=
  l_gen ho hg (fun _ h => by cases h) (fun a w s => by
    subst hlen
    subst hus
    have s1 : Sat (app2 sz enc a0 c0 xs ao cap zs :: A :: Γ2) (lh w) := Sat.cons_mono tk2 (tk _ s.heap)
    have key : ∃ ao' cap' w', (Builtin.append_ #[T, T] ty #[.slice ao zs.length cap, .slice bo m c]).run P w = .ok (.slice ao' (zs.length + m) cap') w' ∧ Sat (app2 sz enc a0 c0 xs ao' cap' (zs ++ ys) :: A :: Γ2) (lh w') ∧ Amb w w' := by
      obtain ⟨h', l', h2, s2⟩ := s1
      rcases h2 with ⟨rfl, rfl, h2⟩ | h2
      · have s3 : Sat (own sz enc ao cap zs :: A :: Γ2) (lh w) := ⟨h', l', h2, s2⟩
        obtain ⟨ao', cap', w', e1, e2, e3⟩ := run_append2 (P := P) (ty := ty) (c := c) hu hti hz hzs hsi hsz hpos h1 s3 hr hm h63 hby
        refine ⟨ao', cap', w', e1, ?_, e3⟩
        rcases e2 with ⟨h4, h5, e2⟩ | e2
        · exact Sat.head_mono (fun h hh => .inl ⟨h4, h5, hh⟩) e2
        · refine Sat.head_mono (fun h hh => .inr hh) (Bun.fold (Δ := A :: Γ2) (Γ := [own sz enc ao' cap' (zs ++ ys), own sz enc ao cap xs]) ?_)
          refine Sat.cons_mono (fun h s => ?_) e2
          have := own_take hsz xs.length s
          rwa [hpre] at this
      · have s3 : Sat ([own sz enc ao cap zs, own sz enc a0 c0 xs] ++ (A :: Γ2)) (lh w) := Bun.unfold (Γ := [own sz enc ao cap zs, own sz enc a0 c0 xs]) ⟨h', l', h2, s2⟩
        have s4 : Sat (own sz enc ao cap zs :: A :: own sz enc a0 c0 xs :: Γ2) (lh w) := Sat.cons_mono (fun h s => s.swap) s3
        obtain ⟨ao', cap', w', e1, e2, e3⟩ := run_append (P := P) (ty := ty) (c := c) hu hti hz hzs hsi hsz hpos h1 s4 hr hm h63 hby
        refine ⟨ao', cap', w', e1, ?_, e3⟩
        exact Sat.head_mono (fun h hh => .inr hh) (Bun.fold (Δ := A :: Γ2) (Γ := [own sz enc ao' cap' (zs ++ ys), own sz enc a0 c0 xs]) (Sat.cons_mono (fun h s => s.swap) e2))
    obtain ⟨ao', cap', w', e1, e2, e3⟩ := key
    have hr' : (execOp a.eval ⟨some d, .call ⟨.builtin .append, #[x, y], #[T, T]⟩, ty, pos, af, g⟩).run P w = .ok (.value (.slice ao' (zs.length + m) cap')) w' := by
      simp [execOp, resolve, invoke, builtin, s.ev hx, s.ev hy, e1]
    rw [hr']
    exact k ao' cap' _ _ ((s.world e2 e3).put hn))
theorem app2_start {α : Type} {sz : Nat} {enc : α → List Value} {ao : Option Addr} {cap : Nat} {xs : List α} {h : Hp} (s : Sat (own sz enc ao cap xs :: Γ) h) : Sat (app2 sz enc ao cap xs ao cap xs :: Γ) h := Sat.head_mono (fun h hh => .inl ⟨rfl, rfl, hh⟩) s
theorem rds_own_flat {α : Type} {sz : Nat} {enc : α → List Value} {ao : Option Addr} {cap : Nat} {xs : List α} {h : Hp} (o : own sz enc ao cap xs h) : (ao = none → xs = []) ∧ (ao ≠ none → ∃ b off, ao = some ⟨b, off, none⟩) := by
  have s : Sat (own sz enc ao cap xs :: []) h := ⟨h, Hle.refl _, o, trivial⟩
  obtain ⟨h1, h2, h3⟩ := own_le s
  exact ⟨fun e => (h2 e).1, h3⟩
theorem app2_facts {α : Type} {sz : Nat} {enc : α → List Value} {a0 ao : Option Addr} {c0 cap : Nat} {xs zs : List α} {h : Hp} (hpre : zs.take xs.length = xs) (s : Sat (app2 sz enc a0 c0 xs ao cap zs :: Γ) h) :
    ((ao = none → zs = []) ∧ (ao ≠ none → ∃ b off, ao = some ⟨b, off, none⟩)) ∧ ((a0 = none → xs = []) ∧ (a0 ≠ none → ∃ b off, a0 = some ⟨b, off, none⟩)) := by
  obtain ⟨h1, l1, h2, s1⟩ := s
  rcases h2 with ⟨rfl, rfl, h2⟩ | h2
  · have h3 := rds_own_flat h2
    refine ⟨h3, fun e => ?_, h3.2⟩
    rw [h3.1 e] at hpre
    rw [← hpre]; simp
  · obtain ⟨k1, m1, o1, s2⟩ := h2
    obtain ⟨k2, m2, o2, -⟩ := s2
    exact ⟨rds_own_flat o1, rds_own_flat o2⟩
theorem rds_app2_l {α : Type} {sz : Nat} {enc : α → List Value} {a0 ao : Option Addr} {c0 cap : Nat} {xs zs : List α} (hsz : ∀ x, (enc x).length = sz) (ha : ao = none → zs = []) (hb : ao ≠ none → ∃ b off, ao = some ⟨b, off, none⟩) : RdS (app2 sz enc a0 c0 xs ao cap zs) ao (zs.flatMap enc) := by
  rcases rds_own (cap := cap) hsz ha hb with h | ⟨b, o, h, hr⟩
  · exact .inl h
  · refine .inr ⟨b, o, h, fun i v hv hp hh => ?_⟩
    rcases hh with ⟨-, -, hh⟩ | hh
    · exact hr i v hv hp hh
    · obtain ⟨k1, m1, o1, -⟩ := hh
      obtain ⟨fr, hf⟩ := hr i v hv k1 o1
      exact ⟨fr, m1 _ _ hf⟩
theorem rds_app2_r {α : Type} {sz : Nat} {enc : α → List Value} {a0 ao : Option Addr} {c0 cap : Nat} {xs zs : List α} (hsz : ∀ x, (enc x).length = sz) (hpre : zs.take xs.length = xs) (ha : a0 = none → xs = []) (hb : a0 ≠ none → ∃ b off, a0 = some ⟨b, off, none⟩) : RdS (app2 sz enc a0 c0 xs ao cap zs) a0 (xs.flatMap enc) := by
  rcases rds_own (cap := c0) hsz ha hb with h | ⟨b, o, h, hr⟩
  · exact .inl h
  · refine .inr ⟨b, o, h, fun i v hv hp hh => ?_⟩
    rcases hh with ⟨rfl, rfl, hh⟩ | hh
    · have s : Sat (own sz enc ao cap zs :: []) hp := ⟨hp, Hle.refl _, hh, trivial⟩
      have s2 := own_take hsz xs.length s
      rw [hpre] at s2
      obtain ⟨k1, m1, o1⟩ := s2.head
      obtain ⟨fr, hf⟩ := hr i v hv k1 o1
      exact ⟨fr, m1 _ _ hf⟩
    · obtain ⟨k1, m1, o1, s2⟩ := hh
      obtain ⟨k2, m2, o2⟩ := s2.head
      obtain ⟨fr, hf⟩ := hr i v hv k2 o2
      exact ⟨fr, (Hmin_le _ _) _ _ (m2 _ _ hf)⟩
end
end Go.Ab
