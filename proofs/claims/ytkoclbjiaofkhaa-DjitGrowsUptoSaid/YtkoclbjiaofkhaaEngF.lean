/- The engine, part F: operations that make or write memory; calls. -/
import Derived.Test.YtkoclbjiaofkhaaEngE
import Derived.Laws.AppendOwn
set_option linter.unusedVariables false
set_option linter.unusedSimpArgs false
namespace Go.Ab
open Go

/-- A list with a stretch written over. -/
def setL : List Value → Nat → List Value → List Value
  | vs, _, [] => vs
  | vs, i, u :: us => setL (vs.set i u) (i + 1) us
theorem setL_length : ∀ (us : List Value) (vs : List Value) (i : Nat), (setL vs i us).length = vs.length
  | [], vs, i => rfl
  | u :: us, vs, i => by rw [setL, setL_length us, List.length_set]
theorem setL_eq : ∀ (us pre mid post : List Value), mid.length = us.length → setL (pre ++ mid ++ post) pre.length us = pre ++ us ++ post
  | [], pre, mid, post, h => by
    obtain rfl := List.eq_nil_of_length_eq_zero (by simpa using h)
    simp [setL]
  | u :: us, pre, [], post, h => by simp at h
  | u :: us, pre, m :: mid, post, h => by
    have : (pre ++ m :: mid ++ post).set pre.length u = (pre ++ [u]) ++ mid ++ post := by simp
    rw [setL, this]
    have e : pre.length + 1 = (pre ++ [u]).length := by simp
    rw [e, setL_eq us (pre ++ [u]) mid post (by simpa using h)]
    simp
/-- The element k of a row of elements written over in part. -/
theorem setL_flat {α : Type} {enc : α → List Value} {sz : Nat} (hsz : ∀ x, (enc x).length = sz) (xs : List α) (tl us : List Value) (k j : Nat) (x y : α) (hx : xs[k]? = some x) (hj : j + us.length ≤ sz) (hy : enc y = setL (enc x) j us) :
    setL (xs.flatMap enc ++ tl) (k * sz + j) us = (xs.set k y).flatMap enc ++ tl := by
  have hk : k < xs.length := by
    rcases Nat.lt_or_ge k xs.length with h' | h'
    · exact h'
    · rw [List.getElem?_eq_none h'] at hx; cases hx
  have hxs : xs = xs.take k ++ x :: xs.drop (k + 1) := by
    rw [List.getElem?_eq_getElem hk] at hx; cases hx
    exact (List.take_append_drop k xs).symm.trans (by rw [List.drop_eq_getElem_cons hk])
  have hset : xs.set k y = xs.take k ++ y :: xs.drop (k + 1) := by
    rw [List.set_eq_take_append_cons_drop, if_pos hk]
  have hlen : (xs.take k).length = k := by rw [List.length_take]; omega
  have hex : enc x = (enc x).take j ++ ((enc x).drop j).take us.length ++ ((enc x).drop j).drop us.length := by
    rw [List.append_assoc, List.take_append_drop, List.take_append_drop]
  have hl1 : ((enc x).take j).length = j := by rw [List.length_take, hsz]; omega
  have hl2 : (((enc x).drop j).take us.length).length = us.length := by rw [List.length_take, List.length_drop, hsz]; omega
  have hpre : ((xs.take k).flatMap enc ++ (enc x).take j).length = k * sz + j := by rw [List.length_append, flat_len hsz, hlen, hl1]
  have h1 := setL_eq us ((xs.take k).flatMap enc ++ (enc x).take j) (((enc x).drop j).take us.length) (((enc x).drop j).drop us.length ++ ((xs.drop (k + 1)).flatMap enc ++ tl)) hl2
  have h2 := setL_eq us ((enc x).take j) (((enc x).drop j).take us.length) (((enc x).drop j).drop us.length) hl2
  rw [hl1, ← hex] at h2
  rw [hpre] at h1
  have e1 : xs.flatMap enc ++ tl = (xs.take k).flatMap enc ++ (enc x).take j ++ ((enc x).drop j).take us.length ++ (((enc x).drop j).drop us.length ++ ((xs.drop (k + 1)).flatMap enc ++ tl)) := by
    conv => lhs; rw [hxs, List.flatMap_append, List.flatMap_cons]
    conv => lhs; rw [hex]
    simp only [List.append_assoc]
  rw [e1, h1, hset, List.flatMap_append, List.flatMap_cons, hy, h2]
  simp only [List.append_assoc]

/-- Cells are written one behind the other. -/
theorem run_storeSat {P : Program} {b off : Nat} : ∀ (us : List Value) (i j : Nat) (vs : List Value) (Γ : List HProp) (w : World), Sat (cells b off vs :: Γ) (lh w) → i + j + us.length ≤ vs.length → us.all Value.oneCell' = true →
    ∃ w', (storeCells ⟨b, off + i, none⟩ us j).run P w = .ok () w' ∧ Sat (cells b off (setL vs (i + j) us) :: Γ) (lh w') ∧ Amb w w'
  | [], i, j, vs, Γ, w, s, h, h1 => ⟨w, rfl, s, Amb.refl w⟩
  | u :: us, i, j, vs, Γ, w, s, h, h1 => by
    simp only [List.all_cons, Bool.and_eq_true] at h1
    have hlt : i + j < vs.length := by simp at h; omega
    have hv : vs[i + j]? = some vs[i + j] := List.getElem?_eq_getElem hlt
    obtain ⟨c1, c2⟩ := s.cell_frozen hv
    have s' := s.setCell hv u
    have hadd : (⟨b, off + i, none⟩ : Addr).add j = ⟨b, off + (i + j), none⟩ := by rw [add_none, Nat.add_assoc]
    have hst : (store ((⟨b, off + i, none⟩ : Addr).add j) u).run P w = .ok () (w.setCell ⟨b, off + (i + j), none⟩ u) := by
      rw [hadd, run_store P w _ u _ h1.1, c1]
      simp [c2]
    obtain ⟨w', e1, e2, e3⟩ := run_storeSat (P := P) us i (j + 1) (vs.set (i + j) u) Γ _ s' (by simp at h ⊢; omega) h1.2
    refine ⟨w', ?_, e2, ⟨e3.os, e3.tape, e3.output, by simpa using e3.size⟩⟩
    simp only [storeCells, Sem.run_bind, hst, Result.andThen_ok, e1]

theorem run_storeAt {P : Program} {T : TypeId} {b off i sz : Nat} {vs us : List Value} {v : Value} {Γ : List HProp} {w : World} (s : Sat (cells b off vs :: Γ) (lh w)) (hs : ∀ w, (sizeOf T).run P w = .ok sz w) (hv : v.cells.toList = us) (hl : us.length = sz)
    (hi : i + us.length ≤ vs.length) (h1 : us.all Value.oneCell' = true) : ∃ w', (Instr.storeAt T (.pointer (some ⟨b, off + i, none⟩)) v).run P w = .ok () w' ∧ Sat (cells b off (setL vs i us) :: Γ) (lh w') ∧ Amb w w' := by
  obtain ⟨w', e1, e2, e3⟩ := run_storeSat (P := P) us i 0 vs Γ w s (by simpa using hi) h1
  refine ⟨w', ?_, e2, e3⟩
  have hsz : v.cells.size = sz := by rw [← Array.length_toList, hv, hl]
  simp [Instr.storeAt, Instr.sureAddr, storeVar, hs, hsz, hv, e1]

section
variable {P : Program} {r : Option Nat} {w0 : World} {ds : List Deferred} {n : Nat} {e : Env} {Γ : List HProp} {K : Act → World → Prop} {l : List Oper} {i : Nat} {t : RT} {fl : List Nat}
variable {d : Nat} {ty : TypeId} {pos : String} {af : Array Edge} {g : Option (Nat × Bool)}

/-! ### New blocks -/
theorem l_alloc {T : TypeId} {z : Value} {zs : List Value} (ho : nthO l i = some ⟨some d, .alloc T, ty, pos, af, g⟩) (hg : gd l e g = some true) (hn : Nat.blt d n = true) (hz : ∀ w, (zeroValue T).run P w = .ok z w) (hzs : z.cells.toList = zs)
    (k : ∀ b, Le (St w0 ds n ((d, .pointer (some ⟨b, 0, none⟩)) :: e) (cells b 0 zs :: Γ)) (AG P r l.toArray fl (wpRT P r l.toArray K t))) : Le (St w0 ds n e Γ) (wpRT P r l.toArray K (.l i fl t)) :=
  l_gen ho hg (fun _ h => by cases h) (fun a w s => by
    have hr : (execOp a.eval ⟨some d, .alloc T, ty, pos, af, g⟩).run P w = .ok (.value (.pointer (some ⟨w.heap.size, 0, none⟩))) (w.alloc (.cells z.cells T)) := by
      simp [execOp, Instr.alloc, hz, newVar, newRow]
    rw [hr]
    subst hzs
    exact k _ _ _ ((s.world (s.heap.newCells z.cells T) ⟨rfl, rfl, rfl, by simp⟩).put hn))
theorem l_box {T : TypeId} {x : Operand} {v : Value} {us : List Value} (ho : nthO l i = some ⟨some d, .box T x, ty, pos, af, g⟩) (hg : gd l e g = some true) (hn : Nat.blt d n = true) (hx : ev e x = some v) (hv : v.cells.toList = us)
    (k : ∀ b, Le (St w0 ds n ((d, .pointer (some ⟨b, 0, none⟩)) :: e) (cells b 0 us :: Γ)) (AG P r l.toArray fl (wpRT P r l.toArray K t))) : Le (St w0 ds n e Γ) (wpRT P r l.toArray K (.l i fl t)) :=
  l_gen ho hg (fun _ h => by cases h) (fun a w s => by
    have hr : (execOp a.eval ⟨some d, .box T x, ty, pos, af, g⟩).run P w = .ok (.value (.pointer (some ⟨w.heap.size, 0, none⟩))) (w.alloc (.cells v.cells T)) := by
      simp [execOp, s.ev hx, Instr.box, newVar, newRow]
    rw [hr]
    subst hv
    exact k _ _ _ ((s.world (s.heap.newCells v.cells T) ⟨rfl, rfl, rfl, by simp⟩).put hn))
theorem l_buildSlice {T : TypeId} {m : Nat} {ps : List (Nat × Operand)} {us vs : List Value} {E : TypeId} (ho : nthO l i = some ⟨some d, .buildSlice T m ps.toArray, ty, pos, af, g⟩) (hg : gd l e g = some true) (hn : Nat.blt d n = true)
    (h1 : evs e (ps.map (·.2)) = some us) (hb : ∀ w, (Instr.buildSlice T m ((ps.map (·.1)).zip us).toArray).run P w = .ok (.slice (some ⟨w.heap.size, 0, none⟩) m m) (w.alloc (.cells vs.toArray E)))
    (k : ∀ b, Le (St w0 ds n ((d, .slice (some ⟨b, 0, none⟩) m m) :: e) (cells b 0 vs :: Γ)) (AG P r l.toArray fl (wpRT P r l.toArray K t))) : Le (St w0 ds n e Γ) (wpRT P r l.toArray K (.l i fl t)) :=
  l_gen ho hg (fun _ h => by cases h) (fun a w s => by
    have h2 := s.evs h1
    have : (List.map (fun x : Nat × Operand => match x with | (i, x) => (i, a.eval x)) ps) = (ps.map (·.1)).zip us := by
      rw [← h2]
      clear ho hb h1 h2
      induction ps with
      | nil => rfl
      | cons p ps ih => simp [ih]
    have hr : (execOp a.eval ⟨some d, .buildSlice T m ps.toArray, ty, pos, af, g⟩).run P w = .ok (.value (.slice (some ⟨w.heap.size, 0, none⟩) m m)) (w.alloc (.cells vs.toArray E)) := by
      simp [execOp, this, hb]
    rw [hr]
    have s' := s.heap.newCells vs.toArray E
    exact k _ _ _ ((s.world s' ⟨rfl, rfl, rfl, by simp⟩).put hn))
/-- Of one element, of one cell or several. -/
theorem run_build1 {T E : TypeId} {sz : Nat} {v : Value} {z : Value} {us : List Value} (hu : P.underlying T = some (.slice E)) (hs : ∀ w, (sizeOf E).run P w = .ok (sz + 1) w) (hsm : Nat.ble (sz + 1) 16777216 = true) (hz : ∀ w, (zeroValue E).run P w = .ok z w) (hzl : z.cells.size = sz + 1) (hv : v.cells.toList = us) (hl : us.length = sz + 1)
    (w : World) : (Instr.buildSlice T 1 ([0].zip [v]).toArray).run P w = .ok (.slice (some ⟨w.heap.size, 0, none⟩) 1 1) (w.alloc (.cells us.toArray E)) := by
  have hsm' : sz + 1 ≤ 16777216 := Nat.le_of_ble_eq_true hsm
  have hvs : v.cells.size = sz + 1 := by rw [← Array.length_toList, hv, hl]
  have hfill : ∀ C : Array Value, C.size = sz + 1 → Instr.fill (fun i => some (i * (sz + 1), sz + 1)) C [(0, v)] = some us.toArray := by
    intro C hC
    simp only [Instr.fill, Nat.zero_mul]
    rw [if_neg (by simp [hvs, hC])]
    simp only [Nat.zero_add]
    congr 1
    have : ∀ (xs : List Value) (C : Array Value) (k : Nat), k + xs.length = C.size → ((xs.zipIdx k).foldl (fun cs (p : Value × Nat) => cs.setIfInBounds p.2 p.1) C) = (C.toList.take k ++ xs).toArray := by
      intro xs
      induction xs with
      | nil => intro C k h; apply Array.ext'; simp [List.take_of_length_le (by simpa using Nat.le_of_eq h.symm : C.toList.length ≤ k)]
      | cons x xs ih =>
        intro C k h
        simp only [List.zipIdx_cons, List.foldl_cons]
        rw [ih _ (k + 1) (by simp at h ⊢; omega)]
        congr 1
        rw [Array.toList_setIfInBounds]
        have hk : k < C.toList.length := by simp at h ⊢; omega
        rw [List.take_succ_eq_append_getElem (by simpa using hk), List.take_set_of_le (Nat.le_refl k)]
        simp
    have h2 := this v.cells.toList C 0 (by simp [hvs, hC])
    rw [hv] at h2
    simp only [List.take_zero, List.nil_append] at h2
    rw [← h2, ← Array.foldl_toList, Array.toList_zipIdx, hv]
  have hc : ((Array.range (1 * (sz + 1))).map fun x => z.cells[x % z.cells.size]!).size = sz + 1 := by simp
  have hf := hfill _ hc
  have hzip : ([0].zip [v]) = [(0, v)] := rfl
  simp only [Instr.buildSlice, Sem.run_bind, run_underlying hu, Result.andThen_ok, hs, hzip]
  rw [if_neg (by omega), if_neg (by omega)]
  simp only [Sem.run_bind, hz, Result.andThen_ok, pure_bind, hf, newRow, run_newObj, Sem.run_pure, World.alloc_eq]

/-! ### Stores -/
theorem l_store {T : TypeId} {x y : Operand} {v : Value} {b o off j sz : Nat} {vs us : List Value} {Γ' : List HProp} (ho : nthO l i = some ⟨none, .store T x y, ty, pos, af, g⟩) (hg : gd l e g = some true)
    (hx : ev e x = some (.pointer (some ⟨b, o, none⟩))) (hy : ev e y = some v) (hs : ∀ w, (sizeOf T).run P w = .ok sz w) (hv : v.cells.toList = us) (hl : us.length = sz) (h1 : us.all Value.oneCell' = true)
    (tk : Take Γ (cells b off vs) Γ') (hj : o = off + j) (hlt : j + us.length ≤ vs.length)
    (k : Le (St w0 ds n e (cells b off (setL vs j us) :: Γ')) (AG P r l.toArray fl (wpRT P r l.toArray K t))) : Le (St w0 ds n e Γ) (wpRT P r l.toArray K (.l i fl t)) :=
  l_gen ho hg (fun _ h => by cases h) (fun a w s => by
    subst hj
    obtain ⟨w', e1, e2, e3⟩ := run_storeAt (P := P) (tk _ s.heap) hs hv hl hlt h1
    have hr : (execOp a.eval ⟨none, .store T x y, ty, pos, af, g⟩).run P w = .ok .skip w' := by
      simp [execOp, s.ev hx, s.ev hy, e1]
    rw [hr]
    exact k _ _ (s.world e2 e3))

/-! ### Slices that the code owns: they may grow -/
/-- The slice value '.slice ao xs.length cap' owns its elements and its spare room. -/
def own {α : Type} (sz : Nat) (enc : α → List Value) (ao : Option Addr) (cap : Nat) (xs : List α) : HProp := fun h =>
  xs.length ≤ cap ∧ ((ao = none ∧ cap = 0) ∨ ∃ b off sp, ao = some ⟨b, off, none⟩ ∧ sp.length = (cap - xs.length) * sz ∧ cells b off (xs.flatMap enc ++ sp) h)
theorem own_nil {α : Type} {sz : Nat} {enc : α → List Value} {h : Hp} (s : Sat Γ h) : Sat (own sz enc none 0 ([] : List α) :: Γ) h :=
  ⟨fun _ => none, fun _ _ x => (by cases x), ⟨Nat.le_refl _, .inl ⟨rfl, rfl⟩⟩, s.mono fun l v x => Hmin_some.2 ⟨rfl, x⟩⟩
theorem own_le {α : Type} {sz : Nat} {enc : α → List Value} {ao : Option Addr} {cap : Nat} {xs : List α} {h : Hp} (s : Sat (own sz enc ao cap xs :: Γ) h) : xs.length ≤ cap ∧ (ao = none → xs = [] ∧ cap = 0) ∧ (ao ≠ none → ∃ b off, ao = some ⟨b, off, none⟩) := by
  obtain ⟨h1, l1, ⟨hc, h2⟩, s⟩ := s
  refine ⟨hc, fun e => ?_, fun e => ?_⟩
  · rcases h2 with ⟨-, h3⟩ | ⟨b, off, sp, h3, -⟩
    · exact ⟨List.eq_nil_of_length_eq_zero (by omega), h3⟩
    · rw [h3] at e; cases e
  · rcases h2 with ⟨h3, -⟩ | ⟨b, off, sp, h3, -⟩
    · exact absurd h3 e
    · exact ⟨b, off, h3⟩
theorem rdn_own {α : Type} {sz : Nat} {enc : α → List Value} {b off cap k : Nat} {xs : List α} {x : α} (hsz : ∀ x, (enc x).length = sz) (hx : xs[k]? = some x) : RdN (own sz enc (some ⟨b, off, none⟩) cap xs) b (off + k * sz) (enc x) := by
  rintro j v hv h ⟨hc, h2⟩
  rcases h2 with ⟨h3, -⟩ | ⟨b', off', sp, h3, -, h4⟩
  · cases h3
  · cases h3
    refine ⟨false, ?_⟩
    rw [Nat.add_assoc]
    have := flat_get hsz xs k j x v hx hv
    refine h4 _ v ?_
    rw [List.getElem?_append_left]
    · exact this
    · rcases Nat.lt_or_ge (k * sz + j) (xs.flatMap enc).length with h' | h'
      · exact h'
      · rw [List.getElem?_eq_none h'] at this; cases this
theorem rd_own1 {α : Type} {enc : α → List Value} {b off cap k : Nat} {xs : List α} {x : α} {v : Value} (hv : enc x = [v]) (hsz : ∀ x, (enc x).length = 1) (hx : xs[k]? = some x) : Rd (own 1 enc (some ⟨b, off, none⟩) cap xs) b (off + k) v := by
  have := rdn_own (b := b) (off := off) (cap := cap) hsz hx
  rw [hv, Nat.mul_one] at this
  exact rdn_one this
/-- One cell of an element. -/
theorem rd_ownF {α : Type} {sz : Nat} {enc : α → List Value} {b off cap k j : Nat} {xs : List α} {x : α} {v : Value} (hsz : ∀ x, (enc x).length = sz) (hx : xs[k]? = some x) (hv : (enc x)[j]? = some v) : Rd (own sz enc (some ⟨b, off, none⟩) cap xs) b (off + k * sz + j) v :=
  rdn_own hsz hx j v hv
theorem own_cells {α : Type} {sz : Nat} {enc : α → List Value} {b off cap : Nat} {xs : List α} {h : Hp} (s : Sat (own sz enc (some ⟨b, off, none⟩) cap xs :: Γ) h) : ∃ sp, sp.length = (cap - xs.length) * sz ∧ Sat (cells b off (xs.flatMap enc ++ sp) :: Γ) h := by
  obtain ⟨h1, l1, ⟨hc, h2⟩, s⟩ := s
  rcases h2 with ⟨h3, -⟩ | ⟨b', off', sp, h3, h4, h5⟩
  · cases h3
  · cases h3; exact ⟨sp, h4, h1, l1, h5, s⟩
theorem own_mk {α : Type} {sz : Nat} {enc : α → List Value} {b off cap : Nat} {xs : List α} {sp : List Value} {h : Hp} (hc : xs.length ≤ cap) (hl : sp.length = (cap - xs.length) * sz) (s : Sat (cells b off (xs.flatMap enc ++ sp) :: Γ) h) : Sat (own sz enc (some ⟨b, off, none⟩) cap xs :: Γ) h := by
  obtain ⟨h1, l1, h5, s⟩ := s
  exact ⟨h1, l1, ⟨hc, .inr ⟨b, off, sp, rfl, hl, h5⟩⟩, s⟩
/-- A store into an element (or a part of it) of an owned slice. -/
theorem l_storeO {α : Type} {T : TypeId} {x y : Operand} {v : Value} {b o off k j sz ssz cap : Nat} {enc : α → List Value} {xs : List α} {p q : α} {us : List Value} {Γ' : List HProp} (ho : nthO l i = some ⟨none, .store T x y, ty, pos, af, g⟩) (hg : gd l e g = some true)
    (hx : ev e x = some (.pointer (some ⟨b, o, none⟩))) (hy : ev e y = some v) (hs : ∀ w, (sizeOf T).run P w = .ok ssz w) (hv : v.cells.toList = us) (hl : us.length = ssz) (h1 : us.all Value.oneCell' = true)
    (hsz : ∀ x, (enc x).length = sz) (tk : Take Γ (own sz enc (some ⟨b, off, none⟩) cap xs) Γ') (hj : o = off + k * sz + j) (hp : xs[k]? = some p) (hlt : j + us.length ≤ sz) (hq : enc q = setL (enc p) j us)
    (kk : Le (St w0 ds n e (own sz enc (some ⟨b, off, none⟩) cap (xs.set k q) :: Γ')) (AG P r l.toArray fl (wpRT P r l.toArray K t))) : Le (St w0 ds n e Γ) (wpRT P r l.toArray K (.l i fl t)) :=
  l_gen ho hg (fun _ h => by cases h) (fun a w s => by
    subst hj
    have s1 := tk _ s.heap
    obtain ⟨hc, -⟩ := own_le s1
    obtain ⟨sp, hsp, s2⟩ := own_cells s1
    have hk : k < xs.length := by
      rcases Nat.lt_or_ge k xs.length with h' | h'
      · exact h'
      · rw [List.getElem?_eq_none h'] at hp; cases hp
    have hb : k * sz + j + us.length ≤ (xs.flatMap enc ++ sp).length := by
      rw [List.length_append, flat_len hsz]
      have : (k + 1) * sz ≤ xs.length * sz := Nat.mul_le_mul_right _ hk
      rw [Nat.succ_mul] at this
      omega
    obtain ⟨w', e1, e2, e3⟩ := run_storeAt (P := P) s2 hs hv hl hb h1
    have hr : (execOp a.eval ⟨none, .store T x y, ty, pos, af, g⟩).run P w = .ok .skip w' := by
      rw [← Nat.add_assoc] at e1
      simp [execOp, s.ev hx, s.ev hy, e1]
    rw [hr]
    rw [setL_flat hsz xs sp us k j p q hp hlt hq] at e2
    exact kk _ _ (s.world (own_mk (by simpa using hc) (by simpa using hsp) e2) e3))

/-- What a slice reads as, through a resource. -/
def RdS (A : HProp) (bo : Option Addr) (vs : List Value) : Prop := vs = [] ∨ ∃ b o, bo = some ⟨b, o, none⟩ ∧ RdN A b o vs
theorem rds_some {A : HProp} {b o : Nat} {vs : List Value} (h : RdN A b o vs) : RdS A (some ⟨b, o, none⟩) vs := .inr ⟨b, o, rfl, h⟩
theorem rds_own {α : Type} {sz : Nat} {enc : α → List Value} {ao : Option Addr} {cap : Nat} {xs : List α} (hsz : ∀ x, (enc x).length = sz) (ha : ao = none → xs = []) (hb : ao ≠ none → ∃ b o, ao = some ⟨b, o, none⟩) : RdS (own sz enc ao cap xs) ao (xs.flatMap enc) := by
  cases ao with
  | none => rw [ha rfl]; exact .inl rfl
  | some p =>
    obtain ⟨b, o, h⟩ := hb (by simp)
    refine .inr ⟨b, o, h, ?_⟩
    rintro j v hv hp ⟨hc, h2⟩
    rcases h2 with ⟨h3, -⟩ | ⟨b', off', sp, h3, -, h4⟩
    · cases h3
    · rw [h] at h3; cases h3
      refine ⟨false, h4 _ v ?_⟩
      rw [List.getElem?_append_left]
      · exact hv
      · rcases Nat.lt_or_ge j (xs.flatMap enc).length with h' | h'
        · exact h'
        · rw [List.getElem?_eq_none h'] at hv; cases hv
theorem run_first {A : HProp} {bo : Option Addr} {vs : List Value} {m sz c : Nat} {w : World} (hr : RdS A bo vs) (hl : vs.length = m * sz) (s : Sat (A :: Γ) (lh w)) : (Builtin.firstCells sz m (.slice bo m c)).run P w = .ok vs.toArray w := by
  cases bo with
  | none =>
    rcases hr with h | ⟨b, o, h, -⟩
    · subst h; simp [Builtin.firstCells]
    · cases h
  | some p =>
    rcases hr with h | ⟨b, o, h, hr⟩
    · subst h
      simp only [List.length_nil] at hl
      simp [Builtin.firstCells, ← hl, loadCells, loadCellsFrom]
    · cases h
      exact run_firstCells_some w sz m ⟨b, o, none⟩ m c vs hl (fun j v hv => by
        rw [add_none]; exact (hr j v hv).world s)
theorem info_of_run {T : TypeId} {ti : TypeInfo} (h : ∀ w, (typeInfo T).run P w = .ok ti w) : P.info? T = some ti := by
  have := h default
  simp only [typeInfo, Sem.run_bind, run_program, Result.andThen_ok] at this
  cases hi : P.info? T with
  | none => simp [hi] at this
  | some x => simp [hi] at this; rw [this]
theorem zeroCells_len (z : Array Value) (k : Nat) : (Builtin.zeroCells z k).toList.length = k * z.size := by simp [Builtin.zeroCells]
/-- ... either in place, or in a new block: what was there before stays. -/
theorem run_append2 {α : Type} {T E : TypeId} {sz : Nat} {enc : α → List Value} {ao bo : Option Addr} {cap m c : Nat} {xs ys : List α} {A : HProp} {ti : TypeInfo} {z : Value} {w : World} (hu : P.underlying T = some (.slice E)) (hti : ∀ w, (typeInfo E).run P w = .ok ti w)
    (hz : ti.zero = some z) (hzs : z.cells.size = sz) (hsi : ti.size = sz) (hsz : ∀ x, (enc x).length = sz) (hpos : 0 < sz) (h1 : ∀ y, (enc y).all Value.oneCell' = true)
    (s : Sat (own sz enc ao cap xs :: A :: Γ) (lh w)) (hr : RdS A bo (ys.flatMap enc)) (hm : ys.length = m) (h63 : xs.length + m ≤ 9223372036854775807) (hby : (xs.length + m) * ti.bytes ≤ 140737488355328) :
    ∃ ao' cap' w', (Builtin.append_ #[T, T] ty #[.slice ao xs.length cap, .slice bo m c]).run P w = .ok (.slice ao' (xs.length + m) cap') w' ∧ ((ao' = ao ∧ cap' = cap ∧ Sat (own sz enc ao' cap' (xs ++ ys) :: A :: Γ) (lh w')) ∨ Sat (own sz enc ao' cap' (xs ++ ys) :: own sz enc ao cap xs :: A :: Γ) (lh w')) ∧ Amb w w' := by
  have hi := info_of_run hti
  have hfl : (ys.flatMap enc).length = m * sz := by rw [flat_len hsz, hm]
  obtain ⟨hc, hn, hs⟩ := own_le s
  have hall : (ys.flatMap enc).all Value.oneCell' = true := by
    rw [List.all_flatMap]; simp [h1]
  by_cases hroom : xs.length + m ≤ cap
  · -- there is room
    have hf := fun {Γ : List HProp} {w : World} (s : Sat (A :: Γ) (lh w)) => run_first (P := P) (c := c) hr hfl s
    cases ao with
    | none =>
      obtain ⟨rfl, rfl⟩ := hn rfl
      have hm0 : m = 0 := by omega
      subst hm0
      have hys : ys = [] := List.eq_nil_of_length_eq_zero hm
      subst hys
      have hf0 := hf s.tail
      refine ⟨none, 0, w, ?_, .inl ⟨rfl, rfl, s⟩, Amb.refl w⟩
      simp [Builtin.append_, run_underlying hu, sizeOf, hti, Builtin.lenOf, hsi, hf0]
    | some p =>
      obtain ⟨b, off, hp⟩ := hs (by simp)
      cases hp
      obtain ⟨sp, hsp, s2⟩ := own_cells s
      have hlen : xs.length * sz + (ys.flatMap enc).length ≤ (xs.flatMap enc ++ sp).length := by
        rw [List.length_append, flat_len hsz xs, hsp, hfl]
        have : (xs.length + m) * sz ≤ cap * sz := Nat.mul_le_mul_right _ hroom
        rw [Nat.add_mul] at this
        rw [Nat.sub_mul]
        have := Nat.mul_le_mul_right sz hc
        omega
      obtain ⟨w', e1, e2, e3⟩ := run_storeSat (P := P) (ys.flatMap enc) (xs.length * sz) 0 _ _ w s2 (by simpa using hlen) hall
      have hf0 := hf s.tail
      refine ⟨some ⟨b, off, none⟩, cap, w', ?_, .inl ⟨rfl, rfl, ?_⟩, e3⟩
      · simp [Builtin.append_, run_underlying hu, sizeOf, hti, Builtin.lenOf, hsi, hf0, hroom, add_none, e1]
      · have hsl : sp.length = (cap - xs.length) * sz := hsp
        have hle : (ys.flatMap enc).length ≤ sp.length := by
          rw [hfl, hsl]
          exact Nat.mul_le_mul_right _ (by omega)
        have hspl : sp = sp.take (ys.flatMap enc).length ++ sp.drop (ys.flatMap enc).length := (List.take_append_drop _ _).symm
        have e4 := setL_eq (ys.flatMap enc) (xs.flatMap enc) (sp.take (ys.flatMap enc).length) (sp.drop (ys.flatMap enc).length) (by rw [List.length_take]; omega)
        rw [List.append_assoc, ← hspl, flat_len hsz] at e4
        rw [Nat.add_zero, e4] at e2
        refine own_mk (by simp; omega) ?_ (by rw [List.flatMap_append]; exact e2)
        rw [List.length_drop, hsl, hfl, List.length_append, hm, ← Nat.sub_mul]
        congr 1
        omega
  · -- a new block
    have hroom : cap < xs.length + m := by omega
    have hfit := growslice_fits (bytes := ti.bytes) hroom hby
    have hmk : ∀ k, xs.length + m ≤ k → ∀ v : World, v = w.drew → Sat (own sz enc (some ⟨w.heap.size, 0, none⟩) k (xs ++ ys) :: own sz enc ao cap xs :: A :: Γ)
        (lh (w.drew.alloc (.cells ((xs.flatMap enc).toArray ++ (ys.flatMap enc).toArray ++ Builtin.zeroCells z.cells (k - (xs.length + m))) E))) := by
      intro k hk v hv
      have s3 : Sat (own sz enc ao cap xs :: A :: Γ) (lh w.drew) := s
      have s4 := s3.newCells ((xs.flatMap enc).toArray ++ (ys.flatMap enc).toArray ++ Builtin.zeroCells z.cells (k - (xs.length + m))) E
      refine own_mk (sp := (Builtin.zeroCells z.cells (k - (xs.length + m))).toList) (by simp; omega) ?_ (by rw [List.flatMap_append]; simpa using s4)
      rw [zeroCells_len, hzs, List.length_append, hm]
    cases ao with
    | none =>
      obtain ⟨rfl, rfl⟩ := hn rfl
      have hm0 : 0 < m := by simpa using hroom
      cases bo with
      | none =>
        rcases hr with h | ⟨b, o, h, -⟩
        · rw [h] at hfl
          have : 0 < m * sz := Nat.mul_pos hm0 hpos
          simp at hfl; omega
        · cases h
      | some p =>
        have hnews : ∀ j v, (ys.flatMap enc)[j]? = some v → w.cell? (p.add j) = some v := by
          intro j v hv
          rcases hr with h | ⟨b, o, h, hr⟩
          · rw [h] at hv; simp at hv
          · cases h; rw [add_none]; exact (hr j v hv).world s.tail
        have := run_append_nil (P := P) w T ty E ti z hu hi hz p m c (ys.flatMap enc) (by rw [hfl, hsi]) hnews hm0 (by simp at h63; omega) (by simp at hby; omega)
        refine ⟨some ⟨w.heap.size, 0, none⟩, grownCap w m 0 E, w.drew.alloc (.cells ((ys.flatMap enc).toArray ++ Builtin.zeroCells z.cells (grownCap w m 0 E - m)) E), by simpa using this, ?_, ⟨rfl, rfl, rfl, by simp⟩⟩
        have h2 := hmk (grownCap w m 0 E) (by have := grownCap_ge w m 0 E; simpa using this) _ rfl
        exact .inr (by simpa using h2)
    | some p =>
      obtain ⟨b, off, hp⟩ := hs (by simp)
      cases hp
      obtain ⟨sp, hsp, s2⟩ := own_cells s
      have holds : ∀ j v, (xs.flatMap enc)[j]? = some v → w.cell? ((⟨b, off, none⟩ : Addr).add j) = some v := by
        intro j v hv
        rw [add_none]
        exact (rd_c j (by
          rw [List.getElem?_append_left]
          · exact hv
          · rcases Nat.lt_or_ge j (xs.flatMap enc).length with h' | h'
            · exact h'
            · rw [List.getElem?_eq_none h'] at hv; cases hv)).world s2
      cases bo with
      | none =>
        rcases hr with h | ⟨b, o, h, -⟩
        · rw [h] at hfl
          have hm0 : 0 < m := by omega
          have : 0 < m * sz := Nat.mul_pos hm0 hpos
          simp at hfl; omega
        · cases h
      | some p =>
        have hnews : ∀ j v, (ys.flatMap enc)[j]? = some v → w.cell? (p.add j) = some v := by
          intro j v hv
          rcases hr with h | ⟨b, o, h, hr⟩
          · rw [h] at hv; simp at hv
          · cases h; rw [add_none]; exact (hr j v hv).world s.tail
        have := run_append_grow (P := P) w T ty E ti z hu hi hz ⟨b, off, none⟩ xs.length cap (xs.flatMap enc) (by rw [flat_len hsz, hsi]) holds p m c (ys.flatMap enc) (by rw [hfl, hsi]) hnews hroom (by omega) hfit
        exact ⟨_, _, _, this, .inr (hmk _ (grownCap_ge w _ cap E) _ rfl), ⟨rfl, rfl, rfl, by simp⟩⟩
theorem run_append {α : Type} {T E : TypeId} {sz : Nat} {enc : α → List Value} {ao bo : Option Addr} {cap m c : Nat} {xs ys : List α} {A : HProp} {ti : TypeInfo} {z : Value} {w : World} (hu : P.underlying T = some (.slice E)) (hti : ∀ w, (typeInfo E).run P w = .ok ti w)
    (hz : ti.zero = some z) (hzs : z.cells.size = sz) (hsi : ti.size = sz) (hsz : ∀ x, (enc x).length = sz) (hpos : 0 < sz) (h1 : ∀ y, (enc y).all Value.oneCell' = true)
    (s : Sat (own sz enc ao cap xs :: A :: Γ) (lh w)) (hr : RdS A bo (ys.flatMap enc)) (hm : ys.length = m) (h63 : xs.length + m ≤ 9223372036854775807) (hby : (xs.length + m) * ti.bytes ≤ 140737488355328) :
    ∃ ao' cap' w', (Builtin.append_ #[T, T] ty #[.slice ao xs.length cap, .slice bo m c]).run P w = .ok (.slice ao' (xs.length + m) cap') w' ∧ Sat (own sz enc ao' cap' (xs ++ ys) :: A :: Γ) (lh w') ∧ Amb w w' := by
  obtain ⟨ao', cap', w', e1, e2, e3⟩ := run_append2 (P := P) (ty := ty) (c := c) hu hti hz hzs hsi hsz hpos h1 s hr hm h63 hby
  refine ⟨ao', cap', w', e1, ?_, e3⟩
  rcases e2 with ⟨-, -, e2⟩ | e2
  · exact e2
  · exact Sat.cons_mono (fun h s => s.tail) e2

end
end Go.Ab
