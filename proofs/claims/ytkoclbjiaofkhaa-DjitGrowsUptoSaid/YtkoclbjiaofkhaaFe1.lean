/- Package feasible: the checker. -/
import Derived.Test.YtkoclbjiaofkhaaEngQ
import Derived.Test.YtkoclbjiaofkhaaProg
set_option linter.unusedVariables false
set_option linter.unusedSimpArgs false
set_option maxRecDepth 100000
namespace Go.Ab.Fe
open Go Go.Proofs Go.Ab
abbrev T3 := Int × Int × Int
abbrev T2 := Int × Int
def encZ (z : Int) : List Value := [.int .i64 z]
theorem encZ_len : ∀ x, (encZ x).length = 1 := fun _ => rfl
theorem encZ_one : ∀ x, (encZ x).all Value.oneCell' = true := fun _ => rfl
def enc3 (x : T3) : List Value := [.int .i64 x.1, .int .i64 x.2.1, .int .i64 x.2.2]
theorem enc3_len : ∀ x, (enc3 x).length = 3 := fun _ => rfl
theorem enc3_one : ∀ x, (enc3 x).all Value.oneCell' = true := fun _ => rfl
def enc2 (x : T2) : List Value := [.int .i64 x.1, .int .i64 x.2]
theorem enc2_len : ∀ x, (enc2 x).length = 2 := fun _ => rfl
theorem enc2_one : ∀ x, (enc2 x).all Value.oneCell' = true := fun _ => rfl
abbrev ev3 (x : T3) : Value := .agg #[.int .i64 x.1, .int .i64 x.2.1, .int .i64 x.2.2]
/-- A checker: the shape, how each thread stands, who holds each lock (-1: nobody), each barrier's open round, how many events. -/
structure CS where
  th : Int
  va : Int
  vo : Int
  lk : Int
  pa : List Int
  T : List T3
  O : List Int
  B : List T2
  n : Int
def stF (x : CS) (t : Int) : T3 := if t < 0 then (0, 0, 0) else x.T.getD t.toNat (0, 0, 0)
def owV (x : CS) (l : Int) : Int := if l < 0 then -1 else x.O.getD l.toNat (-1)
def owF (x : CS) (l : Int) : Option Int := if owV x l = -1 then none else some (owV x l)
def opF (x : CS) (b : Int) : T2 := x.B.getD b.toNat (0, 0)
def fullF (x : CS) (t : Int) : Prop := (stF x t).1 = 2 ∧ (stF x t).2.2 < (opF x (stF x t).2.1).1
instance (x : CS) (t : Int) : Decidable (fullF x t) := by unfold fullF; infer_instance
def okK (x : CS) (k t o : Int) : Prop :=
  (k = 1 ∨ k = 2) ∧ o < x.va ∨ (k = 3 ∨ k = 4) ∧ o < x.vo ∨ k = 5 ∧ o < x.lk ∧ owF x o = none ∨ k = 6 ∧ o < x.lk ∧ owF x o = some t ∨
  k = 7 ∧ o < x.th ∧ (stF x o).1 = 0 ∨ k = 8 ∧ o < x.th ∧ (stF x o).1 = 3 ∨ k = 9 ∧ o < x.B.length ∨ k = 11 ∧ o < 1
instance (x : CS) (k t o : Int) : Decidable (okK x k t o) := by unfold okK; infer_instance
/-- May the event (kind k, thread t, object o) be next? -/
def canF (x : CS) (k t o : Int) : Prop := ((stF x t).1 = 2 ∧ k = 10 ∧ o = (stF x t).2.1 ∧ fullF x t) ∨ ((stF x t).1 = 1 ∧ 0 ≤ o ∧ okK x k t o)
instance (x : CS) (k t o : Int) : Decidable (canF x k t o) := by unfold canF; infer_instance
def arrF (op : T2) (p : Int) : T2 := if op.2 + 1 = p then (op.1 + 1, 0) else (op.1, op.2 + 1)
def nextF (x : CS) (k t o : Int) : CS :=
  if k = 5 then ⟨x.th, x.va, x.vo, x.lk, x.pa, x.T, x.O.set o.toNat t, x.B, x.n + 1⟩
  else if k = 6 then ⟨x.th, x.va, x.vo, x.lk, x.pa, x.T, x.O.set o.toNat (-1), x.B, x.n + 1⟩
  else if k = 7 then ⟨x.th, x.va, x.vo, x.lk, x.pa, x.T.set o.toNat (1, 0, 0), x.O, x.B, x.n + 1⟩
  else if k = 9 then ⟨x.th, x.va, x.vo, x.lk, x.pa, x.T.set t.toNat (2, o, (opF x o).1), x.O, x.B.set o.toNat (arrF (opF x o) (x.pa.getD o.toNat 0)), x.n + 1⟩
  else if k = 10 then ⟨x.th, x.va, x.vo, x.lk, x.pa, x.T.set t.toNat (1, 0, 0), x.O, x.B, x.n + 1⟩
  else if k = 11 then ⟨x.th, x.va, x.vo, x.lk, x.pa, x.T.set t.toNat (3, 0, 0), x.O, x.B, x.n + 1⟩
  else ⟨x.th, x.va, x.vo, x.lk, x.pa, x.T, x.O, x.B, x.n + 1⟩
def nxF (x : CS) (k t o : Int) : CS := if canF x k t o then nextF x k t o else x
def nxE (x : CS) (k t o : Int) : Int := if canF x k t o then 0 else 6
/-- A shape that may be. -/
structure OkS (th va vo lk : Int) (pa : List Int) : Prop where
  th : 1 ≤ th ∧ th ≤ 65535
  va : 0 ≤ va ∧ va ≤ 4096
  vo : 0 ≤ vo ∧ vo ≤ 4096
  lk : 0 ≤ lk ∧ lk ≤ 4096
  pl : pa.length ≤ 4096
  pa : ∀ p ∈ pa, 1 ≤ p ∧ p ≤ 65535
def badP (p : Int) : Bool := decide (p < 1) || decide (65535 < p)
theorem okS_iff {th va vo lk : Int} {pa : List Int} : OkS th va vo lk pa ↔ ((1 ≤ th ∧ th ≤ 65535) ∧ (0 ≤ va ∧ va ≤ 4096) ∧ (0 ≤ vo ∧ vo ≤ 4096) ∧ (0 ≤ lk ∧ lk ≤ 4096) ∧ pa.length ≤ 4096 ∧ ∀ p ∈ pa, badP p = false) := by
  constructor
  · rintro ⟨a, b, c, d, e, f⟩
    exact ⟨a, b, c, d, e, fun p hp => by have := f p hp; simp [badP]; omega⟩
  · rintro ⟨a, b, c, d, e, f⟩
    exact ⟨a, b, c, d, e, fun p hp => by have := f p hp; simp [badP] at this; omega⟩
instance (th va vo lk : Int) (pa : List Int) : Decidable (OkS th va vo lk pa) := decidable_of_iff _ okS_iff.symm
def newF (th va vo lk : Int) (pa : List Int) : CS := ⟨th, va, vo, lk, pa, (List.replicate th.toNat (0, 0, 0)).set 0 (1, 0, 0), List.replicate lk.toNat (-1), List.replicate pa.length (0, 0), 0⟩
/-- What holds of every checker. -/
structure CInv (x : CS) : Prop where
  sh : OkS x.th x.va x.vo x.lk x.pa
  tl : (x.T.length : Int) = x.th
  ol : (x.O.length : Int) = x.lk
  bl : x.B.length = x.pa.length
  st : ∀ s ∈ x.T, 0 ≤ s.1 ∧ s.1 ≤ 3 ∧ (s.1 = 2 → 0 ≤ s.2.1 ∧ s.2.1 < x.B.length ∧ 0 ≤ s.2.2 ∧ s.2.2 ≤ (opF x s.2.1).1) ∧ (s.1 ≠ 2 → s.2 = (0, 0))
  op : ∀ (i : Nat) (o : T2) (p : Int), x.B[i]? = some o → x.pa[i]? = some p → 0 ≤ o.1 ∧ o.1 ≤ x.n ∧ 0 ≤ o.2 ∧ o.2 < p
  ow : ∀ v ∈ x.O, v = -1 ∨ (stF x v).1 ≠ 0
  n0 : 0 ≤ x.n
theorem getD_some {α : Type} {l : List α} {i : Nat} {a d : α} (h : l[i]? = some a) : l.getD i d = a := by simp [List.getD, h]
theorem getD_out {α : Type} {l : List α} {i : Nat} {d : α} (h : l.length ≤ i) : l.getD i d = d := by simp [List.getD, List.getElem?_eq_none h]
theorem getD_mem' {α : Type} (l : List α) (i : Nat) (d : α) : l.getD i d = d ∨ l.getD i d ∈ l := by
  rcases Nat.lt_or_ge i l.length with h | h
  · obtain ⟨a, ha⟩ := get_lt h
    right; rw [getD_some ha]; exact List.mem_of_getElem? ha
  · exact .inl (getD_out h)
theorem getD_set {α : Type} {l : List α} {i j : Nat} {a d : α} (h : i < l.length) : (l.set i a).getD j d = if j = i then a else l.getD j d := by
  simp only [List.getD, List.getElem?_set]
  by_cases e : i = j
  · subst e; simp [h]
  · rw [if_neg e, if_neg (Ne.symm e)]
theorem stF_nz {x : CS} {t : Int} (h : (stF x t).1 ≠ 0) : 0 ≤ t ∧ t.toNat < x.T.length ∧ x.T[t.toNat]? = some (stF x t) := by
  unfold stF at h ⊢
  split at h
  · exact absurd rfl h
  · rename_i h0
    rcases Nat.lt_or_ge t.toNat x.T.length with h1 | h1
    · obtain ⟨a, ha⟩ := get_lt h1
      exact ⟨by omega, h1, by rw [if_neg h0, getD_some ha, ha]⟩
    · rw [getD_out h1] at h; exact absurd rfl h
theorem stF_at {x : CS} {t : Int} (h0 : 0 ≤ t) (h : t < x.T.length) : x.T[t.toNat]? = some (stF x t) := by
  obtain ⟨a, ha⟩ := get_lt (l := x.T) (i := t.toNat) (by omega)
  rw [stF, if_neg (by omega), getD_some ha, ha]
theorem stF_out {x : CS} {t : Int} (h : t < 0 ∨ (x.T.length : Int) ≤ t) : stF x t = (0, 0, 0) := by
  unfold stF
  split
  · rfl
  · exact getD_out (by omega)
theorem stF_mem {x : CS} {t : Int} : stF x t = (0, 0, 0) ∨ stF x t ∈ x.T := by
  unfold stF
  split
  · exact .inl rfl
  · exact getD_mem' _ _ _
theorem stF_inv {x : CS} (hx : CInv x) (t : Int) : 0 ≤ (stF x t).1 ∧ (stF x t).1 ≤ 3 ∧ ((stF x t).1 = 2 → 0 ≤ (stF x t).2.1 ∧ (stF x t).2.1 < x.B.length ∧ 0 ≤ (stF x t).2.2 ∧ (stF x t).2.2 ≤ (opF x (stF x t).2.1).1) ∧ ((stF x t).1 ≠ 2 → (stF x t).2 = (0, 0)) := by
  rcases stF_mem (x := x) (t := t) with h | h
  · rw [h]; exact ⟨by decide, by decide, fun h => absurd h (by decide), fun _ => rfl⟩
  · exact hx.st _ h
theorem opF_at {x : CS} {b : Int} (h0 : 0 ≤ b) (h : b < x.B.length) : x.B[b.toNat]? = some (opF x b) := by
  obtain ⟨a, ha⟩ := get_lt (l := x.B) (i := b.toNat) (by omega)
  rw [opF, getD_some ha, ha]
theorem owV_at {x : CS} {l : Int} (h0 : 0 ≤ l) (h : l < x.O.length) : x.O[l.toNat]? = some (owV x l) := by
  obtain ⟨a, ha⟩ := get_lt (l := x.O) (i := l.toNat) (by omega)
  rw [owV, if_neg (by omega), getD_some ha, ha]
theorem owV_inv {x : CS} (hx : CInv x) (l : Int) : owV x l = -1 ∨ (stF x (owV x l)).1 ≠ 0 := by
  unfold owV
  split
  · exact .inl rfl
  · rcases getD_mem' x.O l.toNat (-1) with h | h
    · exact .inl h
    · exact hx.ow _ h
/-- What a checker's maps hold. -/
structure RelC (Fs : Int → Option T3) (Fo : Int → Option Int) (x : CS) : Prop where
  st : ∀ t, (Fs t).getD (0, 0, 0) = stF x t
  ow : ∀ l, Fo l = owF x l
/-- A checker at b; its shape's list (at pa) is others' too. -/
def ck (pa : Option Addr) (pc b : Nat) (x : CS) : HProp := fun h => ∃ m1 m2 Fs Fo oa oc, RelC Fs Fo x ∧ Sat [cells b 0 [.int .i64 x.th, .int .i64 x.va, .int .i64 x.vo, .int .i64 x.lk, .slice pa x.pa.length pc, .map (some m1), .map (some m2), .slice oa x.B.length oc, .int .i64 x.n], mapO ekZ ev3 m1 Fs, mapO ekZ ekZ m2 Fo, own 2 enc2 oa oc x.B] h
section
variable {w0 : World} {ds : List Deferred} {n : Nat} {e : Env} {Γ : List HProp} {X : Act → World → Prop}
theorem ck_open {pa : Option Addr} {pc b : Nat} {x : CS} (k : ∀ m1 m2 Fs Fo oa oc, RelC Fs Fo x → Le (St w0 ds n e (cells b 0 [.int .i64 x.th, .int .i64 x.va, .int .i64 x.vo, .int .i64 x.lk, .slice pa x.pa.length pc, .map (some m1), .map (some m2), .slice oa x.B.length oc, .int .i64 x.n] :: mapO ekZ ev3 m1 Fs :: mapO ekZ ekZ m2 Fo :: own 2 enc2 oa oc x.B :: Γ)) X) : Le (St w0 ds n e (ck pa pc b x :: Γ)) X := fun a w s => by
  obtain ⟨h1, l1, ⟨m1, m2, Fs, Fo, oa, oc, hr, a1⟩, s1⟩ := s.heap
  exact k m1 m2 Fs Fo oa oc hr a w ⟨s.defers, s.size, s.env, Bun.unfold ⟨h1, l1, a1, s1⟩, s.amb⟩
theorem ck_fold {Γ' : List HProp} {b : Nat} (x : CS) {pn on : Nat} {pa : Option Addr} {pc m1 m2 : Nat} {Fs : Int → Option T3} {Fo : Int → Option Int} {oa : Option Addr} {oc : Nat}
    (tk : Takes Γ [cells b 0 [.int .i64 x.th, .int .i64 x.va, .int .i64 x.vo, .int .i64 x.lk, .slice pa pn pc, .map (some m1), .map (some m2), .slice oa on oc, .int .i64 x.n], mapO ekZ ev3 m1 Fs, mapO ekZ ekZ m2 Fo, own 2 enc2 oa oc x.B] Γ') (h1 : pn = x.pa.length) (h2 : on = x.B.length) (hr : RelC Fs Fo x)
    (k : Le (St w0 ds n e (ck pa pc b x :: Γ')) X) : Le (St w0 ds n e Γ) X := s_heap (fun h s => by
  subst h1 h2
  obtain ⟨h1, l1, a1, s1⟩ := Bun.fold (tk h s)
  exact ⟨h1, l1, ⟨m1, m2, Fs, Fo, oa, oc, hr, a1⟩, s1⟩) k
end
theorem none_spec (pa : Option Addr) (pc b : Nat) (x : CS) : Spec Try.prog 62 [.pointer (some ⟨b, 0, none⟩)] [ck pa pc b x] (fun (_ : Unit) => .bool false) (fun _ => True) (fun _ => [ck pa pc b x]) := by
 refine spec_mk (n := 12) Try.func62 rfl rfl rfl ?_
 intro Γ w0
 simp only [argE, List.cons_append, List.nil_append, Nat.zero_add, Nat.reduceAdd]
 refine c_seq ?_
 refine c_plain (.q 0 (.done)) (by kernel_rfl) ?_
 refine q_assign rfl rfl rfl rfl ?_
 refine r_done ?_
 refine k_then_n ?_
 refine c_seq ?_
 refine s_take (A := ck pa pc b x) (by with_reducible (repeat (first | exact Z0 | apply Z1))) ?_
 refine ck_open fun m1 m2 Fs Fo oa oc hR => ?_
 refine c_plain (.q 0 (.q 1 (.q 2 (.q 3 (.q 4 (.q 5 (.q 6 (.q 7 (.q 8 (.q 9 (.done))))))))))) (by kernel_rfl) ?_
 refine q_move rfl rfl rfl rfl ?_
 refine q_eq_nil rfl rfl rfl rfl Try.underlying83 ?_
 refine s_eq 4 rfl (v' := .bool false) rfl ?_
 refine q_move rfl rfl rfl rfl ?_
 refine q_move rfl rfl rfl rfl ?_
 refine q_nil_p rfl rfl rfl rfl ?_
 refine q_field (k := 5) rfl rfl rfl rfl Try.underlying129 rfl Try.sizeOf126 rfl ?_
 refine q_load_c (j := 5) rfl rfl rfl rfl Try.isAgg126 (by with_reducible (repeat (first | exact Z0 | apply Z1))) (by first | rfl | exact (Nat.add_zero _).symm) (by rfl) ?_
 refine q_eq_nilm rfl rfl rfl rfl Try.underlying126 ?_
 refine s_eq 10 rfl (v' := .bool false) rfl ?_
 refine q_pick_f rfl rfl rfl rfl rfl ?_
 refine q_assign rfl rfl rfl rfl ?_
 refine r_done ?_
 refine s_keep [2] (e' := [(2, _)]) rfl ?_
 refine k_then_n ?_
 refine c_ret ?_
 refine ck_fold (b := b) x (pa := pa) (pc := pc) (m1 := m1) (m2 := m2) (oa := oa) (oc := oc) (by (repeat ((with_reducible apply Z2); focus (first | (with_reducible (repeat (first | exact Z0 | apply Z1)); done) | (repeat (first | exact Z0 | apply Z1))))); exact Z3) (by rfl) (by rfl) (hR) ?_
 refine ret1 rfl rfl (()) (by first | rfl | (first | rfl | (congr 1; done) | (congr 1 <;> first | rfl | omega | (simp; done) | (simp; omega)))) (by trivial) ?_
 (repeat ((with_reducible apply Z2); focus (first | (with_reducible (repeat (first | exact Z0 | apply Z1)); done) | (repeat (first | exact Z0 | apply Z1))))); (repeat (first | exact Z3 | exact Takes.self | refine takes_drop2 ?_))

theorem asked_spec (cv : Value) (i m : Int) : Spec Try.prog 80 [cv, .int .i64 i, .int .i64 m] [] (fun (_ : Unit) => .int .i64 (if 0 ≤ i ∧ i < m then 0 else 2)) (fun _ => True) (fun _ => []) := by
 refine spec_mk (n := 14) Try.func80 rfl rfl rfl ?_
 intro Γ w0
 simp only [argE, List.cons_append, List.nil_append, Nat.zero_add, Nat.reduceAdd]
 refine c_seq ?_
 refine c_plain (.q 0 (.done)) (by kernel_rfl) ?_
 refine q_assign rfl rfl rfl rfl ?_
 refine r_done ?_
 refine k_then_n ?_
 refine c_seq ?_
 refine c_seq ?_
 refine c_plain (.q 0 (.q 1 (.q 2 (.q 3 (.q 4 (.q 5 (.q 6 (.done)))))))) (by kernel_rfl) ?_
 refine q_move rfl rfl rfl rfl ?_
 refine q_int rfl rfl rfl rfl rfl (b_lss _ _ _ _) ?_
 refine q_move rfl rfl rfl rfl ?_
 refine s_bool_p 9 rfl (fun g_1 => ?_) (fun g_1 => ?_)
 ·
  refine q_skip rfl rfl rfl rfl ?_
  refine q_skip rfl rfl rfl rfl ?_
  refine q_skip rfl rfl rfl rfl ?_
  refine q_pick_t rfl rfl rfl rfl rfl ?_
  refine r_done ?_
  refine s_keep [13] (e' := [(13, _)]) rfl ?_
  refine k_then_n ?_
  refine c_cond_t rfl ?_
  refine c_seq ?_
  refine c_plain (.q 0 (.done)) (by kernel_rfl) ?_
  refine q_assign rfl rfl rfl rfl ?_
  refine r_done ?_
  refine k_then_n ?_
  refine c_ret ?_
  refine k_then_ret ?_
  refine ret1 rfl rfl (()) (by rw [if_neg (by omega)]) (by trivial) ?_
  (repeat ((with_reducible apply Z2); focus (first | (with_reducible (repeat (first | exact Z0 | apply Z1)); done) | (repeat (first | exact Z0 | apply Z1))))); (repeat (first | exact Z3 | exact Takes.self | refine takes_drop2 ?_))
 ·
  refine q_move rfl rfl rfl rfl ?_
  refine q_move rfl rfl rfl rfl ?_
  refine q_int rfl rfl rfl rfl rfl (b_geq _ _ _ _) ?_
  refine q_pick_f rfl rfl rfl rfl rfl ?_
  refine r_done ?_
  refine s_keep [13] (e' := [(13, _)]) rfl ?_
  refine k_then_n ?_
  refine c_cond_p rfl (fun h_2 => ?_) (fun h_2 => ?_)
  ·
   refine c_seq ?_
   refine c_plain (.q 0 (.done)) (by kernel_rfl) ?_
   refine q_assign rfl rfl rfl rfl ?_
   refine r_done ?_
   refine k_then_n ?_
   refine c_ret ?_
   refine k_then_ret ?_
   refine ret1 rfl rfl (()) (by rw [if_neg (by omega)]) (by trivial) ?_
   (repeat ((with_reducible apply Z2); focus (first | (with_reducible (repeat (first | exact Z0 | apply Z1)); done) | (repeat (first | exact Z0 | apply Z1))))); (repeat (first | exact Z3 | exact Takes.self | refine takes_drop2 ?_))
  ·
   refine c_skip ?_
   refine k_then_n ?_
   refine c_seq ?_
   refine c_plain (.q 0 (.done)) (by kernel_rfl) ?_
   refine q_assign rfl rfl rfl rfl ?_
   refine r_done ?_
   refine k_then_n ?_
   refine c_ret ?_
   refine ret1 rfl rfl (()) (by rw [if_pos (by omega)]) (by trivial) ?_
   (repeat ((with_reducible apply Z2); focus (first | (with_reducible (repeat (first | exact Z0 | apply Z1)); done) | (repeat (first | exact Z0 | apply Z1))))); (repeat (first | exact Z3 | exact Takes.self | refine takes_drop2 ?_))

theorem bad1_spec (p : Int) : Spec Try.prog 82 [.int .i64 p] [] (fun (_ : Unit) => .bool (badP p)) (fun _ => True) (fun _ => []) := by
 refine spec_mk (n := 9) Try.func82 rfl rfl rfl ?_
 intro Γ w0
 simp only [argE, List.cons_append, List.nil_append, Nat.zero_add, Nat.reduceAdd]
 refine c_seq ?_
 refine c_plain (.q 0 (.done)) (by kernel_rfl) ?_
 refine q_assign rfl rfl rfl rfl ?_
 refine r_done ?_
 refine k_then_n ?_
 refine c_seq ?_
 refine c_plain (.q 0 (.q 1 (.q 2 (.q 3 (.q 4 (.q 5 (.q 6 (.done)))))))) (by kernel_rfl) ?_
 refine q_move rfl rfl rfl rfl ?_
 refine q_int rfl rfl rfl rfl rfl (b_lss _ _ _ _) ?_
 refine q_move rfl rfl rfl rfl ?_
 refine s_bool_p 5 rfl (fun g_1 => ?_) (fun g_1 => ?_)
 ·
  refine q_skip rfl rfl rfl rfl ?_
  refine q_skip rfl rfl rfl rfl ?_
  refine q_pick_t rfl rfl rfl rfl rfl ?_
  refine q_assign rfl rfl rfl rfl ?_
  refine r_done ?_
  refine s_keep [2] (e' := [(2, _)]) rfl ?_
  refine k_then_n ?_
  refine c_ret ?_
  refine ret1 rfl rfl (()) (by simp [badP, *]) (by trivial) ?_
  (repeat ((with_reducible apply Z2); focus (first | (with_reducible (repeat (first | exact Z0 | apply Z1)); done) | (repeat (first | exact Z0 | apply Z1))))); (repeat (first | exact Z3 | exact Takes.self | refine takes_drop2 ?_))
 ·
  refine q_move rfl rfl rfl rfl ?_
  refine q_int rfl rfl rfl rfl rfl (b_gtr _ _ _ _) ?_
  refine q_pick_f rfl rfl rfl rfl rfl ?_
  refine q_assign rfl rfl rfl rfl ?_
  refine r_done ?_
  refine s_keep [2] (e' := [(2, _)]) rfl ?_
  refine k_then_n ?_
  refine c_ret ?_
  refine ret1 rfl rfl (()) (by simp [badP, *]) (by trivial) ?_
  (repeat ((with_reducible apply Z2); focus (first | (with_reducible (repeat (first | exact Z0 | apply Z1)); done) | (repeat (first | exact Z0 | apply Z1))))); (repeat (first | exact Z3 | exact Takes.self | refine takes_drop2 ?_))

theorem index_spec (xs : List Int) (ao : Option Addr) (n c : Nat) (A : HProp) (hr : RdS A ao (xs.flatMap encZ)) (hn : xs.length = n) (hb : n ≤ 4000000) : Spec Try.prog 84 [.slice ao n c, .func (.func 82) #[] #[]] [A] (fun (r : Int) => .int .i64 r) (fun r => ((∃ p ∈ xs, badP p = true) → 0 ≤ r) ∧ (0 ≤ r → ∃ p ∈ xs, badP p = true)) (fun r => [A]) := by
 refine spec_mk (n := 19) Try.func84 rfl rfl rfl ?_
 intro Γ w0
 simp only [argE, List.cons_append, List.nil_append, Nat.zero_add, Nat.reduceAdd]
 refine c_seq ?_
 refine c_plain (.q 0 (.done)) (by kernel_rfl) ?_
 refine q_assign rfl rfl rfl rfl ?_
 refine r_done ?_
 refine k_then_n ?_
 refine c_seq ?_
 refine c_seq ?_
 refine c_plain (.q 0 (.q 1 (.q 2 (.done)))) (by kernel_rfl) ?_
 refine q_move rfl rfl rfl rfl ?_
 refine q_len rfl rfl rfl rfl Try.underlying22 ?_
 refine q_move rfl rfl rfl rfl ?_
 refine r_done ?_
 refine k_then_n ?_
 refine c_block ?_
 refine c_loop2 (α := Nat) (fun (i : Nat) => i ≤ n ∧ (∀ (j : Nat) (p : Int), j < i → xs[j]? = some p → badP p = false)) (fun (i : Nat) => [(8, .int .i64 ((i : Nat) : Int))]) (fun (i : Nat) => []) (fun (i : Nat) => n - i) [0, 1, 7] (er := [(0, _), (1, _), (7, _)]) rfl (0) ?_ (by exact ⟨rfl, trivial⟩) (by (try dsimp only); (try simp only [Nat.add_zero, Nat.zero_add]); (repeat ((with_reducible apply Z2); focus (first | (with_reducible (repeat (first | exact Z0 | apply Z1)); done) | (repeat (first | exact Z0 | apply Z1))))); exact Z3) ?_
 · exact ⟨Nat.zero_le _, fun j p h => by omega⟩
 rintro i ⟨hle_i, hI⟩
 try simp only [List.cons_append, List.nil_append]
 refine c_seq ?_
 refine c_plain (.q 0 (.done)) (by kernel_rfl) ?_
 refine q_int rfl rfl rfl rfl rfl (b_lss _ _ _ _) ?_
 refine r_done ?_
 refine k_then_n ?_
 refine c_seq ?_
 refine c_cond_p rfl (fun hlt => ?_) (fun hlt => ?_)
 ·
  refine c_skip ?_
  refine k_then_n ?_
  refine c_seq ?_
  refine c_block ?_
  refine c_seq ?_
  obtain ⟨p, hp⟩ := get_lt (l := xs) (i := i) (by omega)
  refine c_plain (.q 0 (.q 1 (.done))) (by kernel_rfl) ?_
  refine q_move rfl rfl rfl rfl ?_
  refine q_assign rfl rfl rfl rfl ?_
  refine r_done ?_
  refine k_then_n ?_
  refine c_seq ?_
  refine c_plain (.q 0 (.q 1 (.q 2 (.q 3 (.q 4 ((.l 5 [] (.done)))))))) (by kernel_rfl) ?_
  refine q_move rfl rfl rfl rfl ?_
  refine q_move rfl rfl rfl rfl ?_
  refine q_move rfl rfl rfl rfl ?_
  refine q_idxR (sz := 0) (k := i) rfl rfl rfl rfl rfl Try.underlying22 Try.sizeOf3 (hr) hp encZ_len (by first | rfl | omega) (by omega) ?_
  intro ib14 io14 _ hd14
  refine q_load rfl rfl rfl rfl Try.isAgg3 (by with_reducible (repeat (first | exact Z0 | apply Z1))) (hd14 0 (.int .i64 p) rfl) ?_
  have sp_1 := bad1_spec p
  refine l_call rfl rfl rfl rfl rfl rfl Try.call82 (sp_1) (by (repeat ((with_reducible apply Z2); focus (first | (with_reducible (repeat (first | exact Z0 | apply Z1)); done) | (repeat (first | exact Z0 | apply Z1))))); exact Z3) ?_
  rintro ⟨⟩ -
  try simp only [List.cons_append, List.nil_append]
  refine ag_nil ?_
  refine r_done ?_
  refine s_keep [0, 1, 5, 7, 8, 16] (e' := [(0, _), (1, _), (5, _), (7, _), (8, _), (16, _)]) rfl ?_
  refine k_then_n ?_
  refine c_cond rfl (fun hbad => ?_) (fun hbad => ?_)
  ·
   try simp only [Bool.and_eq_true, Bool.or_eq_true, Bool.not_eq_true', Bool.not_eq_false', Bool.and_eq_false_iff, Bool.or_eq_false_iff, decide_eq_true_eq, decide_eq_false_iff_not] at hbad
   refine c_seq ?_
   refine c_plain (.q 0 (.q 1 (.done))) (by kernel_rfl) ?_
   refine q_move rfl rfl rfl rfl ?_
   refine q_assign rfl rfl rfl rfl ?_
   refine r_done ?_
   refine s_keep [4] (e' := [(4, _)]) rfl ?_
   refine k_then_n ?_
   refine c_ret ?_
   refine k_blk_ret ?_
   refine k_then_ret ?_
   refine k_then_ret ?_
   refine k_blk_ret ?_
   refine k_then_ret ?_
   refine ret1 rfl rfl (((i : Nat) : Int)) (by first | rfl | (first | rfl | (congr 1; done) | (congr 1 <;> first | rfl | omega | (simp; done) | (simp; omega)))) (by exact ⟨fun _ => by omega, fun _ => ⟨p, List.mem_of_getElem? hp, hbad⟩⟩) ?_
   (repeat ((with_reducible apply Z2); focus (first | (with_reducible (repeat (first | exact Z0 | apply Z1)); done) | (repeat (first | exact Z0 | apply Z1))))); (repeat (first | exact Z3 | exact Takes.self | refine takes_drop2 ?_))
  ·
   try simp only [Bool.and_eq_true, Bool.or_eq_true, Bool.not_eq_true', Bool.not_eq_false', Bool.and_eq_false_iff, Bool.or_eq_false_iff, decide_eq_true_eq, decide_eq_false_iff_not] at hbad
   have hgood : badP p = false := by simpa using hbad
   refine c_skip ?_
   refine k_blk_n ?_
   refine k_then_n ?_
   refine c_plain (.q 0 (.q 1 (.done))) (by kernel_rfl) ?_
   refine q_int rfl rfl rfl rfl rfl (b_add' _ (by exact fits_i64 (by omega) (by omega))) ?_
   refine q_move rfl rfl rfl rfl ?_
   refine r_done ?_
   refine k_then_n ?_
   refine loop_next (x := i) (i + 1) ?_ ?_ ?_ ?_
   · exact ⟨by omega, fun j q hj hq => (by
         by_cases h : j = i
         · subst h; rw [hp] at hq; cases hq; exact hgood
         · exact hI j q (by omega) hq)⟩
   · show n - (i + 1) < n - i; omega
   · exact ⟨rfl, rfl, rfl, rfl, trivial⟩
   · (try simp only [List.cons_append, List.nil_append]); (repeat ((with_reducible apply Z2); focus (first | (with_reducible (repeat (first | exact Z0 | apply Z1)); done) | (repeat (first | exact Z0 | apply Z1))))); (repeat (first | exact Z3 | exact Takes.self | refine takes_drop2 ?_))
 ·
  refine c_exit ?_
  refine k_then_exit ?_
  refine k_then_exit ?_
  refine k_blk_here ?_
  refine k_then_n ?_
  refine c_seq ?_
  refine c_plain (.q 0 (.done)) (by kernel_rfl) ?_
  refine q_assign rfl rfl rfl rfl ?_
  refine r_done ?_
  refine s_keep [4] (e' := [(4, _)]) rfl ?_
  refine k_then_n ?_
  refine c_ret ?_
  refine ret1 rfl rfl ((-1)) (by first | rfl | (first | rfl | (congr 1; done) | (congr 1 <;> first | rfl | omega | (simp; done) | (simp; omega)))) (by exact ⟨fun h => by
    obtain ⟨p, h1, h2⟩ := h
    obtain ⟨j, hj⟩ := List.getElem?_of_mem h1
    rw [hI j p (by have := (List.getElem?_eq_some_iff.1 hj).1; omega) hj] at h2; exact absurd h2 (by decide), fun h => by omega⟩) ?_
  (repeat ((with_reducible apply Z2); focus (first | (with_reducible (repeat (first | exact Z0 | apply Z1)); done) | (repeat (first | exact Z0 | apply Z1))))); (repeat (first | exact Z3 | exact Takes.self | refine takes_drop2 ?_))

theorem contains_spec (xs : List Int) (ao : Option Addr) (n c : Nat) (A : HProp) (hr : RdS A ao (xs.flatMap encZ)) (hn : xs.length = n) (hb : n ≤ 4000000) : Spec Try.prog 81 [.slice ao n c, .func (.func 82) #[] #[]] [A] (fun (_ : Unit) => .bool (decide (∃ p ∈ xs, badP p = true))) (fun _ => True) (fun _ => [A]) := by
 refine spec_mk (n := 9) Try.func81 rfl rfl rfl ?_
 intro Γ w0
 simp only [argE, List.cons_append, List.nil_append, Nat.zero_add, Nat.reduceAdd]
 refine c_seq ?_
 refine c_plain (.q 0 (.done)) (by kernel_rfl) ?_
 refine q_assign rfl rfl rfl rfl ?_
 refine r_done ?_
 refine k_then_n ?_
 refine c_seq ?_
 refine c_plain (.q 0 (.q 1 ((.l 2 [] (.q 3 (.q 4 (.done))))))) (by kernel_rfl) ?_
 refine q_move rfl rfl rfl rfl ?_
 refine q_move rfl rfl rfl rfl ?_
 have sp_1 := index_spec xs ao n c A (hr) (by first | rfl | assumption | omega | (simp; done) | (simp; omega)) (by omega)
 refine l_call rfl rfl rfl rfl rfl rfl Try.call84 (sp_1) (by (repeat ((with_reducible apply Z2); focus (first | (with_reducible (repeat (first | exact Z0 | apply Z1)); done) | (repeat (first | exact Z0 | apply Z1))))); exact Z3) ?_
 rintro r ⟨hr1, hr2⟩
 try simp only [List.cons_append, List.nil_append]
 refine ag_nil ?_
 refine q_int rfl rfl rfl rfl rfl (b_geq _ _ _ _) ?_
 refine q_assign rfl rfl rfl rfl ?_
 refine r_done ?_
 refine s_keep [4] (e' := [(4, _)]) rfl ?_
 refine k_then_n ?_
 refine c_ret ?_
 refine ret1 rfl rfl (()) (by congr 1; rw [decide_eq_decide]; exact ⟨hr2, hr1⟩) (by trivial) ?_
 (repeat ((with_reducible apply Z2); focus (first | (with_reducible (repeat (first | exact Z0 | apply Z1)); done) | (repeat (first | exact Z0 | apply Z1))))); (repeat (first | exact Z3 | exact Takes.self | refine takes_drop2 ?_))

theorem shape_spec (th va vo lk : Int) (pl : List Int) (ao : Option Addr) (n c : Nat) (A : HProp) (hr : RdS A ao (pl.flatMap encZ)) (hn : pl.length = n) (hb : n ≤ 4000000) : Spec Try.prog 73 [.agg #[.int .i64 th, .int .i64 va, .int .i64 vo, .int .i64 lk, .slice ao n c]] [A] (fun (_ : Unit) => .int .i64 (if OkS th va vo lk pl then 0 else 5)) (fun _ => True) (fun _ => [A]) := by
 refine spec_mk (n := 37) Try.func73 rfl rfl rfl ?_
 intro Γ w0
 simp only [argE, List.cons_append, List.nil_append, Nat.zero_add, Nat.reduceAdd]
 refine c_seq ?_
 refine c_plain ((.l 0 [] (.q 1 (.done)))) (by kernel_rfl) ?_
 refine l_box rfl rfl rfl rfl (us := [_, _, _, _, _]) rfl ?_
 intro b1
 refine ag_nil ?_
 refine q_assign rfl rfl rfl rfl ?_
 refine r_done ?_
 refine k_then_n ?_
 refine c_seq ?_
 refine c_seq ?_
 refine c_plain (.q 0 (.q 1 (.q 2 (.q 3 (.q 4 (.q 5 (.q 6 (.q 7 (.q 8 (.q 9 (.q 10 (.q 11 (.q 12 (.q 13 (.q 14 (.q 15 (.q 16 (.q 17 (.q 18 (.q 19 (.q 20 (.q 21 (.q 22 (.q 23 (.q 24 (.q 25 (.q 26 (.q 27 (.q 28 (.q 29 (.q 30 (.done)))))))))))))))))))))))))))))))) (by kernel_rfl) ?_
 refine q_field (k := 0) rfl rfl rfl rfl Try.underlying24 rfl Try.sizeOf3 rfl ?_
 refine q_load_c (j := 0) rfl rfl rfl rfl Try.isAgg3 (by with_reducible (repeat (first | exact Z0 | apply Z1))) (by first | rfl | exact (Nat.add_zero _).symm) (by rfl) ?_
 refine q_int rfl rfl rfl rfl rfl (b_lss _ _ _ _) ?_
 refine q_move rfl rfl rfl rfl ?_
 refine s_bool_p 6 rfl (fun h1 => ?_) (fun h1 => ?_)
 ·
  refine q_skip rfl rfl rfl rfl ?_
  refine q_skip rfl rfl rfl rfl ?_
  refine q_skip rfl rfl rfl rfl ?_
  refine q_pick_t rfl rfl rfl rfl rfl ?_
  refine q_move rfl rfl rfl rfl ?_
  refine q_skip rfl rfl rfl rfl ?_
  refine q_skip rfl rfl rfl rfl ?_
  refine q_skip rfl rfl rfl rfl ?_
  refine q_skip rfl rfl rfl rfl ?_
  refine q_skip rfl rfl rfl rfl ?_
  refine q_skip rfl rfl rfl rfl ?_
  refine q_skip rfl rfl rfl rfl ?_
  refine q_skip rfl rfl rfl rfl ?_
  refine q_pick_t rfl rfl rfl rfl rfl ?_
  refine q_move rfl rfl rfl rfl ?_
  refine q_skip rfl rfl rfl rfl ?_
  refine q_skip rfl rfl rfl rfl ?_
  refine q_skip rfl rfl rfl rfl ?_
  refine q_skip rfl rfl rfl rfl ?_
  refine q_skip rfl rfl rfl rfl ?_
  refine q_skip rfl rfl rfl rfl ?_
  refine q_skip rfl rfl rfl rfl ?_
  refine q_skip rfl rfl rfl rfl ?_
  refine q_skip rfl rfl rfl rfl ?_
  refine q_skip rfl rfl rfl rfl ?_
  refine q_skip rfl rfl rfl rfl ?_
  refine q_pick_t rfl rfl rfl rfl rfl ?_
  refine r_done ?_
  refine s_keep [1, 33] (e' := [(1, _), (33, _)]) rfl ?_
  refine k_then_n ?_
  refine c_cond_t rfl ?_
  refine c_seq ?_
  refine c_plain (.q 0 (.done)) (by kernel_rfl) ?_
  refine q_assign rfl rfl rfl rfl ?_
  refine r_done ?_
  refine k_then_n ?_
  refine c_ret ?_
  refine k_then_ret ?_
  refine ret1 rfl rfl (()) (by rw [if_neg (fun h => by have h1 := h.th; have h2 := h.va; have h3 := h.vo; have h4 := h.lk; have h5 := h.pl; omega)]) (by trivial) ?_
  (repeat ((with_reducible apply Z2); focus (first | (with_reducible (repeat (first | exact Z0 | apply Z1)); done) | (repeat (first | exact Z0 | apply Z1))))); (repeat (first | exact Z3 | exact Takes.self | refine takes_drop2 ?_))
 ·
  refine q_field (k := 0) rfl rfl rfl rfl Try.underlying24 rfl Try.sizeOf3 rfl ?_
  refine q_load_c (j := 0) rfl rfl rfl rfl Try.isAgg3 (by with_reducible (repeat (first | exact Z0 | apply Z1))) (by first | rfl | exact (Nat.add_zero _).symm) (by rfl) ?_
  refine q_int rfl rfl rfl rfl rfl (b_gtr _ _ _ _) ?_
  refine q_pick_f rfl rfl rfl rfl rfl ?_
  refine q_move rfl rfl rfl rfl ?_
  refine s_bool_p 11 rfl (fun h2 => ?_) (fun h2 => ?_)
  ·
   refine q_skip rfl rfl rfl rfl ?_
   refine q_skip rfl rfl rfl rfl ?_
   refine q_skip rfl rfl rfl rfl ?_
   refine q_skip rfl rfl rfl rfl ?_
   refine q_skip rfl rfl rfl rfl ?_
   refine q_skip rfl rfl rfl rfl ?_
   refine q_skip rfl rfl rfl rfl ?_
   refine q_skip rfl rfl rfl rfl ?_
   refine q_pick_t rfl rfl rfl rfl rfl ?_
   refine q_move rfl rfl rfl rfl ?_
   refine q_skip rfl rfl rfl rfl ?_
   refine q_skip rfl rfl rfl rfl ?_
   refine q_skip rfl rfl rfl rfl ?_
   refine q_skip rfl rfl rfl rfl ?_
   refine q_skip rfl rfl rfl rfl ?_
   refine q_skip rfl rfl rfl rfl ?_
   refine q_skip rfl rfl rfl rfl ?_
   refine q_skip rfl rfl rfl rfl ?_
   refine q_skip rfl rfl rfl rfl ?_
   refine q_skip rfl rfl rfl rfl ?_
   refine q_skip rfl rfl rfl rfl ?_
   refine q_pick_t rfl rfl rfl rfl rfl ?_
   refine r_done ?_
   refine s_keep [1, 33] (e' := [(1, _), (33, _)]) rfl ?_
   refine k_then_n ?_
   refine c_cond_t rfl ?_
   refine c_seq ?_
   refine c_plain (.q 0 (.done)) (by kernel_rfl) ?_
   refine q_assign rfl rfl rfl rfl ?_
   refine r_done ?_
   refine k_then_n ?_
   refine c_ret ?_
   refine k_then_ret ?_
   refine ret1 rfl rfl (()) (by rw [if_neg (fun h => by have h1 := h.th; have h2 := h.va; have h3 := h.vo; have h4 := h.lk; have h5 := h.pl; omega)]) (by trivial) ?_
   (repeat ((with_reducible apply Z2); focus (first | (with_reducible (repeat (first | exact Z0 | apply Z1)); done) | (repeat (first | exact Z0 | apply Z1))))); (repeat (first | exact Z3 | exact Takes.self | refine takes_drop2 ?_))
  ·
   refine q_field (k := 1) rfl rfl rfl rfl Try.underlying24 rfl Try.sizeOf3 rfl ?_
   refine q_load_c (j := 1) rfl rfl rfl rfl Try.isAgg3 (by with_reducible (repeat (first | exact Z0 | apply Z1))) (by first | rfl | exact (Nat.add_zero _).symm) (by rfl) ?_
   refine q_field (k := 2) rfl rfl rfl rfl Try.underlying24 rfl Try.sizeOf3 rfl ?_
   refine q_load_c (j := 2) rfl rfl rfl rfl Try.isAgg3 (by with_reducible (repeat (first | exact Z0 | apply Z1))) (by first | rfl | exact (Nat.add_zero _).symm) (by rfl) ?_
   refine q_field (k := 3) rfl rfl rfl rfl Try.underlying24 rfl Try.sizeOf3 rfl ?_
   refine q_load_c (j := 3) rfl rfl rfl rfl Try.isAgg3 (by with_reducible (repeat (first | exact Z0 | apply Z1))) (by first | rfl | exact (Nat.add_zero _).symm) (by rfl) ?_
   refine q_min3 rfl rfl rfl rfl rfl rfl ?_
   refine q_int rfl rfl rfl rfl rfl (b_lss _ _ _ _) ?_
   refine q_pick_f rfl rfl rfl rfl rfl ?_
   refine q_move rfl rfl rfl rfl ?_
   refine s_bool_p 21 rfl (fun h3 => ?_) (fun h3 => ?_)
   ·
    refine q_skip rfl rfl rfl rfl ?_
    refine q_skip rfl rfl rfl rfl ?_
    refine q_skip rfl rfl rfl rfl ?_
    refine q_skip rfl rfl rfl rfl ?_
    refine q_skip rfl rfl rfl rfl ?_
    refine q_skip rfl rfl rfl rfl ?_
    refine q_skip rfl rfl rfl rfl ?_
    refine q_skip rfl rfl rfl rfl ?_
    refine q_skip rfl rfl rfl rfl ?_
    refine q_skip rfl rfl rfl rfl ?_
    refine q_skip rfl rfl rfl rfl ?_
    refine q_pick_t rfl rfl rfl rfl rfl ?_
    refine r_done ?_
    refine s_keep [1, 33] (e' := [(1, _), (33, _)]) rfl ?_
    refine k_then_n ?_
    refine c_cond_t rfl ?_
    refine c_seq ?_
    refine c_plain (.q 0 (.done)) (by kernel_rfl) ?_
    refine q_assign rfl rfl rfl rfl ?_
    refine r_done ?_
    refine k_then_n ?_
    refine c_ret ?_
    refine k_then_ret ?_
    refine ret1 rfl rfl (()) (by rw [if_neg (fun h => by have h1 := h.th; have h2 := h.va; have h3 := h.vo; have h4 := h.lk; have h5 := h.pl; omega)]) (by trivial) ?_
    (repeat ((with_reducible apply Z2); focus (first | (with_reducible (repeat (first | exact Z0 | apply Z1)); done) | (repeat (first | exact Z0 | apply Z1))))); (repeat (first | exact Z3 | exact Takes.self | refine takes_drop2 ?_))
   ·
    refine q_field (k := 1) rfl rfl rfl rfl Try.underlying24 rfl Try.sizeOf3 rfl ?_
    refine q_load_c (j := 1) rfl rfl rfl rfl Try.isAgg3 (by with_reducible (repeat (first | exact Z0 | apply Z1))) (by first | rfl | exact (Nat.add_zero _).symm) (by rfl) ?_
    refine q_field (k := 2) rfl rfl rfl rfl Try.underlying24 rfl Try.sizeOf3 rfl ?_
    refine q_load_c (j := 2) rfl rfl rfl rfl Try.isAgg3 (by with_reducible (repeat (first | exact Z0 | apply Z1))) (by first | rfl | exact (Nat.add_zero _).symm) (by rfl) ?_
    refine q_field (k := 3) rfl rfl rfl rfl Try.underlying24 rfl Try.sizeOf3 rfl ?_
    refine q_load_c (j := 3) rfl rfl rfl rfl Try.isAgg3 (by with_reducible (repeat (first | exact Z0 | apply Z1))) (by first | rfl | exact (Nat.add_zero _).symm) (by rfl) ?_
    refine q_field (k := 4) rfl rfl rfl rfl Try.underlying24 rfl Try.sizeOf22 rfl ?_
    refine q_load_c (j := 4) rfl rfl rfl rfl Try.isAgg22 (by with_reducible (repeat (first | exact Z0 | apply Z1))) (by first | rfl | exact (Nat.add_zero _).symm) (by rfl) ?_
    refine q_len rfl rfl rfl rfl Try.underlying22 ?_
    refine q_max4 rfl rfl rfl rfl rfl rfl rfl ?_
    refine q_int rfl rfl rfl rfl rfl (b_gtr _ _ _ _) ?_
    refine q_pick_f rfl rfl rfl rfl rfl ?_
    refine r_done ?_
    refine s_keep [1, 33] (e' := [(1, _), (33, _)]) rfl ?_
    refine k_then_n ?_
    refine c_cond_p rfl (fun h4 => ?_) (fun h4 => ?_)
    ·
     refine c_seq ?_
     refine c_plain (.q 0 (.done)) (by kernel_rfl) ?_
     refine q_assign rfl rfl rfl rfl ?_
     refine r_done ?_
     refine k_then_n ?_
     refine c_ret ?_
     refine k_then_ret ?_
     refine ret1 rfl rfl (()) (by rw [if_neg (fun h => by have h1 := h.th; have h2 := h.va; have h3 := h.vo; have h4 := h.lk; have h5 := h.pl; omega)]) (by trivial) ?_
     (repeat ((with_reducible apply Z2); focus (first | (with_reducible (repeat (first | exact Z0 | apply Z1)); done) | (repeat (first | exact Z0 | apply Z1))))); (repeat (first | exact Z3 | exact Takes.self | refine takes_drop2 ?_))
    ·
     refine c_skip ?_
     refine k_then_n ?_
     refine c_seq ?_
     refine c_seq ?_
     refine c_plain (.q 0 (.q 1 ((.l 2 [] (.done))))) (by kernel_rfl) ?_
     refine q_field (k := 4) rfl rfl rfl rfl Try.underlying24 rfl Try.sizeOf22 rfl ?_
     refine q_load_c (j := 4) rfl rfl rfl rfl Try.isAgg22 (by with_reducible (repeat (first | exact Z0 | apply Z1))) (by first | rfl | exact (Nat.add_zero _).symm) (by rfl) ?_
     have sp_1 := contains_spec pl ao n c A (hr) (by first | rfl | assumption | omega | (simp; done) | (simp; omega)) (by omega)
     refine l_call rfl rfl rfl rfl rfl rfl Try.call81 (sp_1) (by (repeat ((with_reducible apply Z2); focus (first | (with_reducible (repeat (first | exact Z0 | apply Z1)); done) | (repeat (first | exact Z0 | apply Z1))))); exact Z3) ?_
     rintro ⟨⟩ -
     try simp only [List.cons_append, List.nil_append]
     refine ag_nil ?_
     refine r_done ?_
     refine s_keep [36] (e' := [(36, _)]) rfl ?_
     refine k_then_n ?_
     refine c_cond_p rfl (fun hp => ?_) (fun hp => ?_)
     ·
      have hno : ¬ OkS th va vo lk pl := fun h => by
        obtain ⟨p, q1, q2⟩ := hp
        rw [(okS_iff.1 h).2.2.2.2.2 p q1] at q2; cases q2
      refine c_seq ?_
      refine c_plain (.q 0 (.done)) (by kernel_rfl) ?_
      refine q_assign rfl rfl rfl rfl ?_
      refine r_done ?_
      refine k_then_n ?_
      refine c_ret ?_
      refine k_then_ret ?_
      refine ret1 rfl rfl (()) (by rw [if_neg hno]) (by trivial) ?_
      (repeat ((with_reducible apply Z2); focus (first | (with_reducible (repeat (first | exact Z0 | apply Z1)); done) | (repeat (first | exact Z0 | apply Z1))))); (repeat (first | exact Z3 | exact Takes.self | refine takes_drop2 ?_))
     ·
      refine c_skip ?_
      refine k_then_n ?_
      refine c_seq ?_
      refine c_plain (.q 0 (.done)) (by kernel_rfl) ?_
      refine q_assign rfl rfl rfl rfl ?_
      refine r_done ?_
      refine k_then_n ?_
      refine c_ret ?_
      refine ret1 rfl rfl (()) (by rw [if_pos (okS_iff.2 ⟨by omega, by omega, by omega, by omega, by omega, fun p q => by
        cases h : badP p with
        | false => rfl
        | true => exact absurd ⟨p, q, h⟩ hp⟩)]) (by trivial) ?_
      (repeat ((with_reducible apply Z2); focus (first | (with_reducible (repeat (first | exact Z0 | apply Z1)); done) | (repeat (first | exact Z0 | apply Z1))))); (repeat (first | exact Z3 | exact Takes.self | refine takes_drop2 ?_))
end Go.Ab.Fe
