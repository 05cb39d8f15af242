/- The engine, part Q: maps. -/
import Derived.Test.YtkoclbjiaofkhaaEngP
import Derived.MapKept
import Derived.Laws.Externs
set_option linter.unusedVariables false
set_option linter.unusedSimpArgs false
namespace Go.Ab
open Go

theorem rds_take {α : Type} {A : HProp} {ao : Option Addr} {sz : Nat} {enc : α → List Value} {xs : List α} (h : RdS A ao (xs.flatMap enc)) (hsz : ∀ x, (enc x).length = sz) (k : Nat) : RdS A ao ((xs.take k).flatMap enc) := by
  rcases h with h | ⟨b, o, h1, h2⟩
  · left
    rw [← List.take_append_drop k xs, List.flatMap_append, List.append_eq_nil_iff] at h
    exact h.1
  · refine .inr ⟨b, o, h1, fun i v hv => h2 i v ?_⟩
    rw [← List.take_append_drop k xs, List.flatMap_append, List.getElem?_append_left]
    · exact hv
    · exact (List.getElem?_eq_some_iff.1 hv).1
theorem rds_drop {α : Type} {A : HProp} {ao : Option Addr} {sz c : Nat} {enc : α → List Value} {xs : List α} (h : RdS A ao (xs.flatMap enc)) (hsz : ∀ x, (enc x).length = sz) (k : Nat) (hc : xs.length ≤ c) : RdS A (cutA ao c k sz) ((xs.drop k).flatMap enc) := by
  by_cases hk : xs.length ≤ k
  · rw [List.drop_of_length_le hk]; exact .inl rfl
  · rcases h with h | ⟨b, o, h1, h2⟩
    · left
      rw [← List.take_append_drop k xs, List.flatMap_append, List.append_eq_nil_iff] at h
      exact h.2
    · subst h1
      rw [cutA_lt (by omega)]
      refine .inr ⟨b, o + k * sz, rfl, fun i v hv => ?_⟩
      rw [Nat.add_assoc]
      refine h2 _ v ?_
      have e : ((xs.take k).flatMap enc).length = k * sz := by rw [flat_len hsz, List.length_take, Nat.min_eq_left (by omega)]
      rw [← List.take_append_drop k xs, List.flatMap_append, List.getElem?_append_right (by omega), e]
      rw [show k * sz + i - k * sz = i from by omega]
      exact hv
/-- How keys of a kind are looked for. -/
structure KeyOK (P : Program) (T : TypeId) {κ : Type} (ek : κ → Value) : Prop where
  chk : ∀ (b : Bool) (k : κ) (w : World), (Instr.checkKey b 10000 T (ek k)).run P w = .ok () w
  same : ∀ k, Instr.sameBits 10000 (ek k) (ek k) = true
  fnd : ∀ (k : κ) (es : List MapEntry) (ks : List κ), es.map (·.key) = ks.map ek → ∃ r, (∀ w, (Instr.findKey T (ek k) es).run P w = .ok r w) ∧
    ((r = none ∧ k ∉ ks) ∨ ∃ i e, r = some (i, e.val) ∧ es[i]? = some e ∧ ks[i]? = some k)

abbrev ekZ (z : Int) : Value := .int .i64 z
theorem findNow_int {k : Int} : ∀ (es : List MapEntry) (ks : List Int) (j : Nat), es.map (·.key) = ks.map ekZ → 
    (Instr.findNow (.int .i64) (ekZ k) es j = some none ∧ k ∉ ks) ∨ ∃ i e, Instr.findNow (.int .i64) (ekZ k) es j = some (some (j + i, e.val)) ∧ es[i]? = some e ∧ ks[i]? = some k
  | [], ks, j, h => by
    cases ks with
    | nil => exact .inl ⟨rfl, by simp⟩
    | cons => simp at h
  | e :: es, ks, j, h => by
    cases ks with
    | nil => simp at h
    | cons q ks =>
      simp only [List.map_cons, List.cons.injEq] at h
      obtain ⟨h1, h2⟩ := h
      by_cases hq : k = q
      · subst hq
        exact .inr ⟨0, e, by simp [Instr.findNow, Instr.sameNow, h1], rfl, rfl⟩
      · have hn : Instr.findNow (.int .i64) (ekZ k) (e :: es) j = Instr.findNow (.int .i64) (ekZ k) es (j + 1) := by
          have hb : (k == q) = false := by simp [hq]
          simp [Instr.findNow, Instr.sameNow, h1, hb]
        rw [hn]
        rcases findNow_int es ks (j + 1) h2 with ⟨a, b⟩ | ⟨i, e', a, b, c⟩
        · exact .inl ⟨a, by simp [hq, b]⟩
        · exact .inr ⟨i + 1, e', by rw [a]; congr 3; omega, by simpa using b, by simpa using c⟩
theorem keyOK_int {P : Program} {T : TypeId} (h : P.underlying T = some (.int .i64)) : KeyOK P T ekZ where
  chk := fun b k w => MapKept.run_checkKey (n := 9999) h (by simp [MapKept.IsKey]) b
  same := fun k => MapKept.sameBits_self (d := .int .i64) (by simp [MapKept.IsKey]) _
  fnd := fun k es ks he => by
    rcases findNow_int (k := k) es ks 0 he with ⟨a, b⟩ | ⟨i, e, a, b, c⟩
    · exact ⟨none, fun w => MapKept.run_findKey h a, .inl ⟨rfl, b⟩⟩
    · exact ⟨some (i, e.val), fun w => MapKept.run_findKey h (by rw [a, Nat.zero_add]), .inr ⟨i, e, rfl, b, c⟩⟩

/-- What a list of entries tells. -/
structure MapL {κ ν : Type} (F : κ → Option ν) (M : List (κ × ν × Nat)) (clock : Nat) : Prop where
  keys : (M.map (·.1)).Nodup
  born : (M.map (·.2.2)).Nodup
  lt : ∀ p ∈ M, p.2.2 < clock
  tells : ∀ k v, F k = some v ↔ ∃ b, (k, v, b) ∈ M
def mke {κ ν : Type} (ek : κ → Value) (ev : ν → Value) (p : κ × ν × Nat) : MapEntry := ⟨ek p.1, ev p.2.1, p.2.2⟩
def mapO {κ ν : Type} (ek : κ → Value) (ev : ν → Value) (r : Nat) (F : κ → Option ν) : HProp := fun h => ∃ (M : List (κ × ν × Nat)) (clock : Nat), MapL F M clock ∧ objP r (.map (M.map (mke ek ev)).toArray clock) h
def upd {κ ν : Type} [DecidableEq κ] (F : κ → Option ν) (k : κ) (v : Option ν) : κ → Option ν := fun q => if q = k then v else F q
def noF {κ ν : Type} : κ → Option ν := fun _ => none

section
variable {κ ν : Type} {F : κ → Option ν} {M : List (κ × ν × Nat)} {clock : Nat}
theorem MapL.empty : MapL (noF : κ → Option ν) [] 0 := ⟨by simp, by simp, by simp, fun k v => by simp [noF]⟩
theorem nodup_idx {α : Type} {l : List α} (h : l.Nodup) {i j : Nat} {x : α} (hi : l[i]? = some x) (hj : l[j]? = some x) : i = j := by
  obtain ⟨h1, e1⟩ := List.getElem?_eq_some_iff.1 hi
  obtain ⟨h2, e2⟩ := List.getElem?_eq_some_iff.1 hj
  rw [List.Nodup, List.pairwise_iff_getElem] at h
  rcases Nat.lt_trichotomy i j with h3 | h3 | h3
  · exact absurd (e1.trans e2.symm) (h i j h1 h2 h3)
  · exact h3
  · exact absurd (e2.trans e1.symm) (h j i h2 h1 h3)
theorem MapL.none (h : MapL F M clock) {k : κ} (hk : k ∉ M.map (·.1)) : F k = .none := by
  cases e : F k with
  | none => rfl
  | some v => obtain ⟨b, hb⟩ := (h.tells k v).1 e; exact absurd (List.mem_map.2 ⟨_, hb, rfl⟩) hk
theorem MapL.some (h : MapL F M clock) {k : κ} {v : ν} {b i : Nat} (hi : M[i]? = .some (k, v, b)) : F k = .some v := (h.tells k v).2 ⟨b, List.mem_of_getElem? hi⟩
theorem MapL.uniq (h : MapL F M clock) {k : κ} {v v' : ν} {b b' i : Nat} (hi : M[i]? = .some (k, v, b)) (hm : (k, v', b') ∈ M) : v' = v ∧ b' = b := by
  obtain ⟨j, hj⟩ := List.getElem?_of_mem hm
  have : i = j := nodup_idx h.keys (x := k) (by rw [List.getElem?_map, hi]; rfl) (by rw [List.getElem?_map, hj]; rfl)
  subst this
  rw [hi] at hj; cases hj; exact ⟨rfl, rfl⟩
theorem MapL.push [DecidableEq κ] (h : MapL F M clock) {k : κ} (hk : k ∉ M.map (·.1)) (v : ν) : MapL (upd F k (.some v)) (M ++ [(k, v, clock)]) (clock + 1) where
  keys := by
    rw [List.map_append]
    exact List.nodup_append.2 ⟨h.keys, by simp, fun a ha b hb => by simp at hb; subst hb; intro e; subst e; exact hk ha⟩
  born := by
    rw [List.map_append]
    refine List.nodup_append.2 ⟨h.born, by simp, fun a ha b hb => ?_⟩
    simp at hb; subst hb
    obtain ⟨p, hp, rfl⟩ := List.mem_map.1 ha
    have := h.lt p hp; omega
  lt := fun p hp => by
    rcases List.mem_append.1 hp with hp | hp
    · have := h.lt p hp; omega
    · simp at hp; subst hp; exact Nat.lt_succ_self _
  tells := fun q u => by
    unfold upd
    by_cases hq : q = k
    · subst hq
      rw [if_pos rfl]
      constructor
      · intro e; cases e; exact ⟨clock, by simp⟩
      · rintro ⟨b, hb⟩
        rcases List.mem_append.1 hb with hb | hb
        · exact absurd (List.mem_map.2 ⟨_, hb, rfl⟩) hk
        · simp at hb; rw [hb.1]
    · rw [if_neg hq, h.tells]
      constructor
      · rintro ⟨b, hb⟩; exact ⟨b, List.mem_append_left _ hb⟩
      · rintro ⟨b, hb⟩
        rcases List.mem_append.1 hb with hb | hb
        · exact ⟨b, hb⟩
        · simp at hb; exact absurd hb.1 hq
theorem map_set_same {α β : Type} {f : α → β} {l : List α} {i : Nat} {x y : α} (hx : l[i]? = .some x) (hf : f y = f x) : (l.set i y).map f = l.map f := by
  apply List.ext_getElem?
  intro j
  rw [List.getElem?_map, List.getElem?_map, List.getElem?_set]
  split
  · rename_i e; subst e
    rw [hx]
    split
    · simp [hf]
    · rename_i h2; rw [List.getElem?_eq_none (by omega)] at hx; cases hx
  · rfl
theorem MapL.put [DecidableEq κ] (h : MapL F M clock) {k : κ} {v0 : ν} {b i : Nat} (hi : M[i]? = .some (k, v0, b)) (v : ν) : MapL (upd F k (.some v)) (M.set i (k, v, b)) clock where
  keys := by rw [map_set_same (y := (k, v, b)) hi rfl]; exact h.keys
  born := by rw [map_set_same (y := (k, v, b)) hi rfl]; exact h.born
  lt := fun p hp => by
    rcases List.mem_or_eq_of_mem_set hp with hp | rfl
    · exact h.lt p hp
    · exact h.lt (k, v0, b) (List.mem_of_getElem? hi)
  tells := fun q u => by
    have hlt : i < M.length := (List.getElem?_eq_some_iff.1 hi).1
    unfold upd
    by_cases hq : q = k
    · subst hq
      rw [if_pos rfl]
      constructor
      · intro e; cases e; exact ⟨b, List.mem_of_getElem? (i := i) (by rw [List.getElem?_set_self hlt])⟩
      · rintro ⟨c, hc⟩
        obtain ⟨j, hj⟩ := List.getElem?_of_mem hc
        by_cases hji : i = j
        · subst hji; rw [List.getElem?_set_self hlt] at hj; cases hj; rfl
        · rw [List.getElem?_set_ne hji] at hj
          exact absurd (nodup_idx h.keys (x := q) (by rw [List.getElem?_map, hi]; rfl) (by rw [List.getElem?_map, hj]; rfl)) hji
    · rw [if_neg hq, h.tells]
      constructor
      · rintro ⟨c, hc⟩
        obtain ⟨j, hj⟩ := List.getElem?_of_mem hc
        have hji : i ≠ j := fun e => by subst e; rw [hi] at hj; cases hj; exact hq rfl
        exact ⟨c, List.mem_of_getElem? (i := j) (by rw [List.getElem?_set_ne hji]; exact hj)⟩
      · rintro ⟨c, hc⟩
        rcases List.mem_or_eq_of_mem_set hc with hc | hc
        · exact ⟨c, hc⟩
        · cases hc; exact absurd rfl hq
theorem MapL.erase [DecidableEq κ] (h : MapL F M clock) {k : κ} {v0 : ν} {b i : Nat} (hi : M[i]? = .some (k, v0, b)) : MapL (upd F k .none) (M.eraseIdx i) clock where
  keys := ((List.eraseIdx_sublist M i).map _).nodup h.keys
  born := ((List.eraseIdx_sublist M i).map _).nodup h.born
  lt := fun p hp => h.lt p ((List.eraseIdx_sublist M i).subset hp)
  tells := fun q u => by
    unfold upd
    by_cases hq : q = k
    · subst hq
      rw [if_pos rfl]
      constructor
      · intro e; cases e
      · rintro ⟨c, hc⟩
        obtain ⟨j, hj⟩ := List.getElem?_of_mem hc
        rw [List.getElem?_eraseIdx] at hj
        split at hj
        · have := nodup_idx h.keys (x := q) (by rw [List.getElem?_map, hi]; rfl) (by rw [List.getElem?_map, hj]; rfl); omega
        · have := nodup_idx h.keys (x := q) (by rw [List.getElem?_map, hi]; rfl) (by rw [List.getElem?_map, hj]; rfl); omega
    · rw [if_neg hq, h.tells]
      constructor
      · rintro ⟨c, hc⟩
        obtain ⟨j, hj⟩ := List.getElem?_of_mem hc
        have hji : j ≠ i := fun e => by subst e; rw [hi] at hj; cases hj; exact hq rfl
        rcases Nat.lt_or_ge j i with h1 | h1
        · exact ⟨c, List.mem_of_getElem? (i := j) (by rw [List.getElem?_eraseIdx, if_pos h1]; exact hj)⟩
        · exact ⟨c, List.mem_of_getElem? (i := j - 1) (by rw [List.getElem?_eraseIdx, if_neg (by omega), show j - 1 + 1 = j by omega]; exact hj)⟩
      · rintro ⟨c, hc⟩; exact ⟨c, (List.eraseIdx_sublist M i).subset hc⟩
theorem MapL.keep [DecidableEq κ] (h : MapL F M clock) {k : κ} (hk : k ∉ M.map (·.1)) : MapL (upd F k .none) M clock where
  keys := h.keys
  born := h.born
  lt := h.lt
  tells := fun q u => by
    unfold upd
    by_cases hq : q = k
    · subst hq; rw [if_pos rfl, ← h.none hk]; exact h.tells q u
    · rw [if_neg hq]; exact h.tells q u
theorem mke_keys (ek : κ → Value) (ev : ν → Value) (M : List (κ × ν × Nat)) : (M.map (mke ek ev)).map (·.key) = (M.map (·.1)).map ek := by simp [mke, Function.comp_def]
end

section
variable {P : Program} {r : Option Nat} {w0 : World} {ds : List Deferred} {n : Nat} {e : Env} {Γ : List HProp} {K : Act → World → Prop} {l : List Oper} {i : Nat} {t : RT} {fl : List Nat}
variable {d : Nat} {ty : TypeId} {pos : String} {af : Array Edge} {g : Option (Nat × Bool)}
variable {κ ν : Type} {ek : κ → Value} {ev1 : ν → Value} {F : κ → Option ν}
theorem map_no {es : Array MapEntry} {clock : Nat} : ∀ c t f, Obj.map es clock ≠ .cells c t f := fun _ _ _ h => by cases h
theorem run_lookup {T kt et : TypeId} {m : Nat} {M : List (κ × ν × Nat)} {clock : Nat} {z0 : ν} {k : κ} {ok : Bool} {w : World} (hT : P.underlying T = some (.map kt et)) (hk : KeyOK P kt ek) (hz : ∀ w, (zeroValue et).run P w = .ok (ev1 z0) w)
    (hb : w.heap[m]? = some (.map (M.map (mke ek ev1)).toArray clock)) (h : MapL F M clock) :
    (Instr.lookup T (.map (some m)) (ek k) ok).run P w = .ok (if ok then .tuple #[ev1 ((F k).getD z0), .bool (F k).isSome] else ev1 ((F k).getD z0)) w := by
  obtain ⟨r, h1, h2⟩ := hk.fnd k (M.map (mke ek ev1)) (M.map (·.1)) (mke_keys _ _ _)
  simp only [Instr.lookup, Sem.run_bind, run_underlying hT, MapKept.run_getObj_map hb, Result.andThen_ok, hk.chk, Sem.run_pure, h1]
  rcases h2 with ⟨rfl, h2⟩ | ⟨i, e', rfl, h3, h4⟩
  · simp only [Sem.run_bind, hz, Result.andThen_ok, Sem.run_pure, h.none h2]
    cases ok <;> rfl
  · rw [List.getElem?_map] at h3 h4
    cases hM : M[i]? with
    | none => rw [hM] at h4; cases h4
    | some p =>
      obtain ⟨q, v, b⟩ := p
      rw [hM] at h3 h4; cases h3; cases h4
      simp only [Sem.run_pure, Result.andThen_ok, h.some hM]
      cases ok <;> rfl
theorem q_lookup {T kt et : TypeId} {x y : Operand} {m : Nat} {k : κ} {z0 : ν} {ok : Bool} {Γ' : List HProp} (ho : nthO l i = some ⟨some d, .lookup T x y ok, ty, pos, af, g⟩) (hg : gd l e g = some true) (hn : Nat.blt d n = true)
    (hx : ev e x = some (.map (some m))) (hy : ev e y = some (ek k)) (hT : P.underlying T = some (.map kt et)) (hk : KeyOK P kt ek) (hz : ∀ w, (zeroValue et).run P w = .ok (ev1 z0) w) (tk : Take Γ (mapO ek ev1 m F) Γ')
    (k1 : Le (St w0 ds n ((d, if ok then .tuple #[ev1 ((F k).getD z0), .bool (F k).isSome] else ev1 ((F k).getD z0)) :: e) Γ) (wpRT P r l.toArray K t)) : Le (St w0 ds n e Γ) (wpRT P r l.toArray K (.q i t)) :=
  q_read ho hg rfl hn rfl (fun _ h => by cases h) (fun a w s => by
    obtain ⟨M, hM⟩ := (tk _ s.heap).ex
    obtain ⟨clock, hM⟩ := hM.ex
    obtain ⟨h1, h2⟩ := hM.pure_and
    simp [execOp, s.ev hx, s.ev hy, run_lookup hT hk hz h2.obj.1 h1]) k1
theorem run_keyStays {kt : TypeId} (hk : KeyOK P kt ek) (k : κ) (w : World) : (Instr.keyThatStays (ek k) (ek k)).run P w = .ok (ek k) w := by simp only [Instr.keyThatStays, hk.same, if_true, Sem.run_pure]
theorem modify_map_set {M : List (κ × ν × Nat)} {i : Nat} {k : κ} {v0 v : ν} {b : Nat} (hM : M[i]? = some (k, v0, b)) :
    ((M.map (mke ek ev1)).toArray.modify i fun e => { e with key := ek k, val := ev1 v }) = ((M.set i (k, v, b)).map (mke ek ev1)).toArray := by
  apply Array.ext'
  apply List.ext_getElem?
  intro j
  simp only [Array.getElem?_toList, Array.getElem?_modify, List.getElem?_toArray, List.getElem?_map, List.getElem?_set]
  by_cases hij : i = j
  · subst hij
    have hlt : i < M.length := (List.getElem?_eq_some_iff.1 hM).1
    simp only [hM, hlt, if_true, Option.map_some, mke]
  · simp [hij]
theorem l_mapUpd [DecidableEq κ] {T kt et : TypeId} {x y z : Operand} {m : Nat} {k : κ} {v : ν} {Γ' : List HProp} (ho : nthO l i = some ⟨none, .mapUpdate T x y z, ty, pos, af, g⟩ ∨ nthO l i = some ⟨none, .insert T x y z, ty, pos, af, g⟩) (hg : gd l e g = some true)
    (hx : ev e x = some (.map (some m))) (hy : ev e y = some (ek k)) (hz : ev e z = some (ev1 v)) (hT : P.underlying T = some (.map kt et)) (hk : KeyOK P kt ek) (tk : Take Γ (mapO ek ev1 m F) Γ')
    (k1 : Le (St w0 ds n e (mapO ek ev1 m (upd F k (some v)) :: Γ')) (AG P r l.toArray fl (wpRT P r l.toArray K t))) : Le (St w0 ds n e Γ) (wpRT P r l.toArray K (.l i fl t)) := by
  have key : ∀ a w, St w0 ds n e Γ a w → ∃ w', (Instr.mapUpdate T (.map (some m)) (ek k) (ev1 v)).run P w = .ok () w' ∧ Sat (mapO ek ev1 m (upd F k (some v)) :: Γ') (lh w') ∧ Amb w w' := by
    intro a w s
    obtain ⟨M, hM⟩ := (tk _ s.heap).ex
    obtain ⟨clock, hM⟩ := hM.ex
    obtain ⟨h1, h2⟩ := hM.pure_and
    have hb := h2.obj.1
    obtain ⟨r, h3, h4⟩ := hk.fnd k (M.map (mke ek ev1)) (M.map (·.1)) (mke_keys _ _ _)
    rcases h4 with ⟨rfl, h4⟩ | ⟨j, e', rfl, h5, h6⟩
    · refine ⟨{ w with heap := w.heap.setIfInBounds m (.map ((M ++ [(k, v, clock)]).map (mke ek ev1)).toArray (clock + 1)) }, ?_, ?_, ⟨rfl, rfl, rfl, by simp⟩⟩
      · simp only [Instr.mapUpdate, Sem.run_bind, run_underlying hT, MapKept.run_getObj_map hb, Result.andThen_ok, hk.chk, h3]
        rw [MapKept.run_setObj_map _ hb]
        simp [mke]
      · obtain ⟨h0, l0, a0, s0⟩ := h2.setObj (.map ((M ++ [(k, v, clock)]).map (mke ek ev1)).toArray (clock + 1)) map_no
        exact ⟨h0, l0, ⟨_, _, h1.push h4 v, a0⟩, s0⟩
    · rw [List.getElem?_map] at h5 h6
      cases hMi : M[j]? with
      | none => rw [hMi] at h6; cases h6
      | some p =>
        obtain ⟨q, v0, b⟩ := p
        rw [hMi] at h5 h6; cases h5
        obtain rfl : q = k := by simpa using h6
        refine ⟨{ w with heap := w.heap.setIfInBounds m (.map ((M.set j (q, v, b)).map (mke ek ev1)).toArray clock) }, ?_, ?_, ⟨rfl, rfl, rfl, by simp⟩⟩
        · simp only [Instr.mapUpdate, Sem.run_bind, run_underlying hT, MapKept.run_getObj_map hb, Result.andThen_ok, hk.chk, h3]
          have hkk : (((M.map (mke ek ev1)).toArray[j]?).map (·.key)).getD (ek q) = ek q := by simp [hMi, mke]
          rw [hkk, run_keyStays hk]
          simp only [Result.andThen_ok]
          rw [MapKept.run_setObj_map _ hb, modify_map_set hMi]
        · obtain ⟨h0, l0, a0, s0⟩ := h2.setObj (.map ((M.set j (q, v, b)).map (mke ek ev1)).toArray clock) map_no
          exact ⟨h0, l0, ⟨_, _, h1.put hMi v, a0⟩, s0⟩
  rcases ho with ho | ho
  · exact l_gen ho hg (fun _ h => by cases h) (fun a w s => by
      obtain ⟨w', e1, s', am⟩ := key a w s
      have hr' : (execOp a.eval ⟨none, .mapUpdate T x y z, ty, pos, af, g⟩).run P w = .ok .skip w' := by simp [execOp, s.ev hx, s.ev hy, s.ev hz, e1]
      rw [hr']
      exact k1 _ _ (s.world s' am))
  · exact l_gen ho hg (fun _ h => by cases h) (fun a w s => by
      obtain ⟨w', e1, s', am⟩ := key a w s
      have hr' : (execOp a.eval ⟨none, .insert T x y z, ty, pos, af, g⟩).run P w = .ok .skip w' := by simp [execOp, s.ev hx, s.ev hy, s.ev hz, e1]
      rw [hr']
      exact k1 _ _ (s.world s' am))
theorem l_makeMap {T : TypeId} (κ ν : Type) (ek : κ → Value) (ev1 : ν → Value) (ho : nthO l i = some ⟨some d, .makeMap T none, ty, pos, af, g⟩) (hg : gd l e g = some true) (hn : Nat.blt d n = true)
    (k1 : ∀ m, Le (St w0 ds n ((d, .map (some m)) :: e) (mapO ek ev1 m (noF : κ → Option ν) :: Γ)) (AG P r l.toArray fl (wpRT P r l.toArray K t))) : Le (St w0 ds n e Γ) (wpRT P r l.toArray K (.l i fl t)) :=
  l_gen ho hg (fun _ h => by cases h) (fun a w s => by
    have hr' : (execOp a.eval ⟨some d, .makeMap T none, ty, pos, af, g⟩).run P w = .ok (.value (.map (some w.heap.size))) (w.alloc (.map #[] 0)) := by simp [execOp, Instr.makeMap]
    rw [hr']
    have s1 := s.heap.newObj (.map #[] 0) map_no
    obtain ⟨h0, l0, a0, s0⟩ := s1
    have s2 : Sat (mapO ek ev1 w.heap.size (noF : κ → Option ν) :: Γ) (lh (w.alloc (.map #[] 0))) := ⟨h0, l0, ⟨[], 0, MapL.empty, a0⟩, s0⟩
    exact k1 _ _ _ ((s.world s2 ⟨rfl, rfl, rfl, by simp⟩).put hn))
theorem l_makeMapC {T kt et : TypeId} {x : Operand} {z : Int} (κ ν : Type) (ek : κ → Value) (ev1 : ν → Value) (ho : nthO l i = some ⟨some d, .makeMap T (some x), ty, pos, af, g⟩) (hg : gd l e g = some true) (hn : Nat.blt d n = true) (hx : ev e x = some (.int .i64 z)) (hT : P.underlying T = some (.map kt et))
    (k1 : ∀ m, Le (St w0 ds n ((d, .map (some m)) :: e) (mapO ek ev1 m (noF : κ → Option ν) :: Γ)) (AG P r l.toArray fl (wpRT P r l.toArray K t))) : Le (St w0 ds n e Γ) (wpRT P r l.toArray K (.l i fl t)) :=
  l_gen ho hg (fun _ h => by cases h) (fun a w s => by
    have hr' : (execOp a.eval ⟨some d, .makeMap T (some x), ty, pos, af, g⟩).run P w = .ok (.value (.map (some w.heap.size))) (w.alloc (.map #[] 0)) := by simp [execOp, Instr.makeMap, s.ev hx, run_underlying hT, asInt, asIntOf]
    rw [hr']
    have s1 := s.heap.newObj (.map #[] 0) map_no
    obtain ⟨h0, l0, a0, s0⟩ := s1
    have s2 : Sat (mapO ek ev1 w.heap.size (noF : κ → Option ν) :: Γ) (lh (w.alloc (.map #[] 0))) := ⟨h0, l0, ⟨[], 0, MapL.empty, a0⟩, s0⟩
    exact k1 _ _ _ ((s.world s2 ⟨rfl, rfl, rfl, by simp⟩).put hn))
theorem eraseIdx_map {M : List (κ × ν × Nat)} {i : Nat} : (M.map (mke ek ev1)).toArray.eraseIdxIfInBounds i = ((M.eraseIdx i).map (mke ek ev1)).toArray := by
  apply Array.ext'
  unfold Array.eraseIdxIfInBounds
  split
  · apply List.ext_getElem?
    intro j
    simp only [Array.toList_eraseIdx, List.getElem?_eraseIdx, List.getElem?_map]
    split <;> rfl
  · rename_i h
    rw [List.eraseIdx_of_length_le (by simpa using h)]
theorem l_delete [DecidableEq κ] {T T2 kt et : TypeId} {x y : Operand} {m : Nat} {k : κ} {Γ' : List HProp} (ho : nthO l i = some ⟨none, .call ⟨.builtin .delete, #[x, y], #[T, T2]⟩, ty, pos, af, g⟩) (hg : gd l e g = some true)
    (hx : ev e x = some (.map (some m))) (hy : ev e y = some (ek k)) (hT : P.underlying T = some (.map kt et)) (hk : KeyOK P kt ek) (tk : Take Γ (mapO ek ev1 m F) Γ')
    (k1 : Le (St w0 ds n e (mapO ek ev1 m (upd F k none) :: Γ')) (AG P r l.toArray fl (wpRT P r l.toArray K t))) : Le (St w0 ds n e Γ) (wpRT P r l.toArray K (.l i fl t)) := by
  have key : ∀ a w, St w0 ds n e Γ a w → ∃ w', (Builtin.delete_ #[T, T2] ty #[.map (some m), ek k]).run P w = .ok (.tuple #[]) w' ∧ Sat (mapO ek ev1 m (upd F k none) :: Γ') (lh w') ∧ Amb w w' := by
    intro a w s
    obtain ⟨M, hM⟩ := (tk _ s.heap).ex
    obtain ⟨clock, hM⟩ := hM.ex
    obtain ⟨h1, h2⟩ := hM.pure_and
    have hb := h2.obj.1
    obtain ⟨r, h3, h4⟩ := hk.fnd k (M.map (mke ek ev1)) (M.map (·.1)) (mke_keys _ _ _)
    rcases h4 with ⟨rfl, h4⟩ | ⟨j, e', rfl, h5, h6⟩
    · refine ⟨{ w with heap := w.heap.setIfInBounds m (.map (M.map (mke ek ev1)).toArray clock) }, ?_, ?_, ⟨rfl, rfl, rfl, by simp⟩⟩
      · simp [Builtin.delete_, run_underlying hT, MapKept.run_getObj_map hb, Result.andThen, hk.chk, h3, MapKept.run_setObj_map _ hb]
      · obtain ⟨h0, l0, a0, s0⟩ := h2.setObj (.map (M.map (mke ek ev1)).toArray clock) map_no
        exact ⟨h0, l0, ⟨_, _, h1.keep h4, a0⟩, s0⟩
    · rw [List.getElem?_map] at h5 h6
      cases hMi : M[j]? with
      | none => rw [hMi] at h6; cases h6
      | some p =>
        obtain ⟨q, v0, b⟩ := p
        rw [hMi] at h5 h6; cases h5
        obtain rfl : q = k := by simpa using h6
        refine ⟨{ w with heap := w.heap.setIfInBounds m (.map ((M.eraseIdx j).map (mke ek ev1)).toArray clock) }, ?_, ?_, ⟨rfl, rfl, rfl, by simp⟩⟩
        · simp only [Builtin.delete_, Sem.run_bind, run_underlying hT, MapKept.run_getObj_map hb, Result.andThen_ok, hk.chk, h3, List.getElem?_toArray, List.getElem?_cons_zero, List.getElem?_cons_succ]
          rw [MapKept.run_setObj_map _ hb, eraseIdx_map]
          simp
        · obtain ⟨h0, l0, a0, s0⟩ := h2.setObj (.map ((M.eraseIdx j).map (mke ek ev1)).toArray clock) map_no
          exact ⟨h0, l0, ⟨_, _, h1.erase hMi, a0⟩, s0⟩
  exact l_gen ho hg (fun _ h => by cases h) (fun a w s => by
    obtain ⟨w', e1, s', am⟩ := key a w s
    have hr' : (execOp a.eval ⟨none, .call ⟨.builtin .delete, #[x, y], #[T, T2]⟩, ty, pos, af, g⟩).run P w = .ok (.value (.tuple #[])) w' := by simp [execOp, resolve, invoke, builtin, s.ev hx, s.ev hy, e1]
    rw [hr']
    exact k1 _ _ (s.world s' am))
theorem q_lookup1 {T kt et : TypeId} {x y : Operand} {m : Nat} {k : κ} (z0 : ν) {Γ' : List HProp} (ho : nthO l i = some ⟨some d, .lookup T x y false, ty, pos, af, g⟩) (hg : gd l e g = some true) (hn : Nat.blt d n = true)
    (hx : ev e x = some (.map (some m))) (hy : ev e y = some (ek k)) (hT : P.underlying T = some (.map kt et)) (hk : KeyOK P kt ek) (hz : ∀ w, (zeroValue et).run P w = .ok (ev1 z0) w) (tk : Take Γ (mapO ek ev1 m F) Γ')
    (k1 : Le (St w0 ds n ((d, ev1 ((F k).getD z0)) :: e) Γ) (wpRT P r l.toArray K t)) : Le (St w0 ds n e Γ) (wpRT P r l.toArray K (.q i t)) :=
  q_lookup ho hg hn hx hy hT hk hz tk k1
theorem q_lookup2 {T kt et : TypeId} {x y : Operand} {m : Nat} {k : κ} (z0 : ν) {Γ' : List HProp} (ho : nthO l i = some ⟨some d, .lookup T x y true, ty, pos, af, g⟩) (hg : gd l e g = some true) (hn : Nat.blt d n = true)
    (hx : ev e x = some (.map (some m))) (hy : ev e y = some (ek k)) (hT : P.underlying T = some (.map kt et)) (hk : KeyOK P kt ek) (hz : ∀ w, (zeroValue et).run P w = .ok (ev1 z0) w) (tk : Take Γ (mapO ek ev1 m F) Γ')
    (k1 : Le (St w0 ds n ((d, .tuple #[ev1 ((F k).getD z0), .bool (F k).isSome]) :: e) Γ) (wpRT P r l.toArray K t)) : Le (St w0 ds n e Γ) (wpRT P r l.toArray K (.q i t)) :=
  q_lookup ho hg hn hx hy hT hk hz tk k1
theorem ag_lookup1 {j : Nat} {T kt et : TypeId} {x y : Operand} {m : Nat} {k : κ} (z0 : ν) {Γ' : List HProp} {X : Act → World → Prop} (ho : nthO l j = some ⟨some d, .lookup T x y false, ty, pos, af, g⟩) {v : Value} (hl : look e d = some v) (hv : ev1 ((F k).getD z0) = v)
    (hx : ev e x = some (.map (some m))) (hy : ev e y = some (ek k)) (hT : P.underlying T = some (.map kt et)) (hk : KeyOK P kt ek) (hz : ∀ w, (zeroValue et).run P w = .ok (ev1 z0) w) (tk : Take Γ (mapO ek ev1 m F) Γ')
    (k1 : Le (St w0 ds n e Γ) (AG P r l.toArray fl X)) : Le (St w0 ds n e Γ) (AG P r l.toArray (j :: fl) X) :=
  ag_cons ho rfl hl (fun _ h => by cases h) (fun a w s => by
    subst hv
    obtain ⟨M, hM⟩ := (tk _ s.heap).ex
    obtain ⟨clock, hM⟩ := hM.ex
    obtain ⟨h1, h2⟩ := hM.pure_and
    simp [execOp, s.ev hx, s.ev hy, run_lookup hT hk hz h2.obj.1 h1]) k1
theorem ag_lookup2 {j : Nat} {T kt et : TypeId} {x y : Operand} {m : Nat} {k : κ} (z0 : ν) {Γ' : List HProp} {X : Act → World → Prop} (ho : nthO l j = some ⟨some d, .lookup T x y true, ty, pos, af, g⟩) {v : Value} (hl : look e d = some v) (hv : .tuple #[ev1 ((F k).getD z0), .bool (F k).isSome] = v)
    (hx : ev e x = some (.map (some m))) (hy : ev e y = some (ek k)) (hT : P.underlying T = some (.map kt et)) (hk : KeyOK P kt ek) (hz : ∀ w, (zeroValue et).run P w = .ok (ev1 z0) w) (tk : Take Γ (mapO ek ev1 m F) Γ')
    (k1 : Le (St w0 ds n e Γ) (AG P r l.toArray fl X)) : Le (St w0 ds n e Γ) (AG P r l.toArray (j :: fl) X) :=
  ag_cons ho rfl hl (fun _ h => by cases h) (fun a w s => by
    subst hv
    obtain ⟨M, hM⟩ := (tk _ s.heap).ex
    obtain ⟨clock, hM⟩ := hM.ex
    obtain ⟨h1, h2⟩ := hM.pure_and
    simp [execOp, s.ev hx, s.ev hy, run_lookup hT hk hz h2.obj.1 h1]) k1
theorem q_iface {T kt et : TypeId} {x : Operand} {v : Value} (ho : nthO l i = some ⟨some d, .makeInterface T x, ty, pos, af, g⟩) (hg : gd l e g = some true) (hn : Nat.blt d n = true) (hx : ev e x = some v) (hT : P.underlying T = some (.map kt et))
    (k1 : Le (St w0 ds n ((d, .iface T v) :: e) Γ) (wpRT P r l.toArray K t)) : Le (St w0 ds n e Γ) (wpRT P r l.toArray K (.q i t)) :=
  q_pure ho hg rfl hn rfl (fun _ h => by cases h) (fun a w s w' => by simp [execOp, s.ev hx, Instr.makeInterface, run_underlying hT]) k1
theorem l_assert {T U kt et : TypeId} {x : Operand} {v : Value} (ho : nthO l i = some ⟨some d, .typeAssert x T U false, ty, pos, af, g⟩) (hg : gd l e g = some true) (hn : Nat.blt d n = true) (hx : ev e x = some (.iface U v)) (hT : P.underlying U = some (.map kt et))
    (k1 : Le (St w0 ds n ((d, v) :: e) Γ) (AG P r l.toArray fl (wpRT P r l.toArray K t))) : Le (St w0 ds n e Γ) (wpRT P r l.toArray K (.l i fl t)) :=
  l_gen ho hg (fun _ h => by cases h) (fun a w s => by
    have hr' : (execOp a.eval ⟨some d, .typeAssert x T U false, ty, pos, af, g⟩).run P w = .ok (.value v) w := by simp [execOp, s.ev hx, Instr.typeAssert, run_underlying hT]
    rw [hr']
    exact k1 _ _ (s.put hn))
theorem l_mapClone {T : TypeId} {f : FuncId} {fn : Func} {x : Operand} {ts : Array TypeId} {m : Nat} {Γ' : List HProp} (ho : nthO l i = some ⟨some d, .call ⟨.value (.func f), #[x], ts⟩, ty, pos, af, g⟩) (hg : gd l e g = some true) (hn : Nat.blt d n = true) (hx : ev e x = some (.iface T (.map (some m))))
    (hf : P.funcs[f]? = some fn) (hname : (fn.name == "runtime.NumGoroutine") = false) (hb : fn.body.isNone = true) (hnx : Extern.findNext fn = none) (he : Extern.find fn = some Extern.MapsClone.clone) (tk : Take Γ (mapO ek ev1 m F) Γ')
    (k1 : ∀ m2, Le (St w0 ds n ((d, .iface T (.map (some m2))) :: e) (mapO ek ev1 m2 F :: mapO ek ev1 m F :: Γ')) (AG P r l.toArray fl (wpRT P r l.toArray K t))) : Le (St w0 ds n e Γ) (wpRT P r l.toArray K (.l i fl t)) :=
  l_gen ho hg (fun _ h => by cases h) (fun a w s => by
    obtain ⟨M, hM⟩ := (tk _ s.heap).ex
    obtain ⟨clock, hM⟩ := hM.ex
    obtain ⟨h1, h2⟩ := hM.pure_and
    have hbk := h2.obj.1
    have e0 : Extern.MapsClone.clone #[.iface T (.map (some m))] = (getObj m >>= fun o => match o with
      | .map entries clock => (newObj (.map entries clock) >>= fun n => pure (.iface T (.map (some n))))
      | _ => stuck "maps.clone: a map expected") := rfl
    have e1 : (Extern.MapsClone.clone #[.iface T (.map (some m))]).run P w = .ok (.iface T (.map (some w.heap.size))) (w.alloc (.map (M.map (mke ek ev1)).toArray clock)) := by
      rw [e0]; simp [MapKept.run_getObj_map hbk]
    have hr' : (execOp a.eval ⟨some d, .call ⟨.value (.func f), #[x], ts⟩, ty, pos, af, g⟩).run P w = .ok (.value (.iface T (.map (some w.heap.size)))) (w.alloc (.map (M.map (mke ek ev1)).toArray clock)) := by
      have hv : a.eval (.func f) = .func (.func f) #[] #[] := rfl
      simp [execOp, resolve, hv, Deferred.ofValue, invoke, s.ev hx, run_callFunc_extern hf hname hb hnx he, e1]
    rw [hr']
    obtain ⟨h3, l3, a3, s3⟩ := h2.newObj (.map (M.map (mke ek ev1)).toArray clock) map_no
    obtain ⟨h4, l4, a4, s4⟩ := s3
    have s5 : Sat (mapO ek ev1 w.heap.size F :: mapO ek ev1 m F :: Γ') (lh (w.alloc (.map (M.map (mke ek ev1)).toArray clock))) := ⟨h3, l3, ⟨M, clock, h1, a3⟩, h4, l4, ⟨M, clock, h1, a4⟩, s4⟩
    exact k1 _ _ _ ((s.world s5 ⟨rfl, rfl, rfl, by simp⟩).put hn))
theorem q_max4 {x y y2 y3 : Operand} {ts : Array TypeId} {k' : IntKind} {p q q2 q3 : Int} (ho : nthO l i = some ⟨some d, .call ⟨.builtin .max, #[x, y, y2, y3], ts⟩, ty, pos, af, g⟩) (hg : gd l e g = some true) (hn : Nat.blt d n = true)
    (hx : ev e x = some (.int k' p)) (hy : ev e y = some (.int k' q)) (hy2 : ev e y2 = some (.int k' q2)) (hy3 : ev e y3 = some (.int k' q3))
    (k : Le (St w0 ds n ((d, .int k' (max (max (max p q) q2) q3)) :: e) Γ) (wpRT P r l.toArray K t)) : Le (St w0 ds n e Γ) (wpRT P r l.toArray K (.q i t)) :=
  q_read ho hg rfl hn rfl (fun _ h => by cases h) (fun a w s => by
    have h : ∀ p q : Int, (if p < q then q else p) = max p q := fun p q => by rw [Int.max_def]; split <;> split <;> omega
    simp [execOp, resolve, invoke, builtin, s.ev hx, s.ev hy, s.ev hy2, s.ev hy3, Builtin.max_, Builtin.max2, h]) k
end
end Go.Ab
