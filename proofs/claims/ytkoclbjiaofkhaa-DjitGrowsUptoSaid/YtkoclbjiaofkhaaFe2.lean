/- Package feasible: what may be next, what is next. -/
import Derived.Test.YtkoclbjiaofkhaaFe1
set_option linter.unusedVariables false
set_option linter.unusedSimpArgs false
set_option maxRecDepth 100000
namespace Go.Ab.Fe
open Go Go.Proofs Go.Ab
theorem can_run {x : CS} {k t o : Int} (h : (stF x t).1 = 1) (h0 : 0 ≤ o) : canF x k t o ↔ okK x k t o := by
  unfold canF; rw [h]; simp [h0]
theorem can_not {x : CS} {k t o : Int} (h2 : (stF x t).1 ≠ 2) (h : ¬ (stF x t).1 = 1 ∨ o < 0) : ¬ canF x k t o := by
  unfold canF; rintro (⟨h3, -⟩ | ⟨h3, h4, -⟩)
  · exact h2 h3
  · omega
theorem can_wait {x : CS} {k t o : Int} (h2 : (stF x t).1 = 2) : canF x k t o ↔ (k = 10 ∧ o = (stF x t).2.1 ∧ fullF x t) := by
  unfold canF; rw [h2]; simp
theorem can_th {x : CS} {k t o : Int} (hc : canF x k t o) : (stF x t).1 ≠ 0 := by
  rcases hc with ⟨h, -⟩ | ⟨h, -⟩ <;> omega
/-- What each kind asks. -/
theorem okK_k {x : CS} {k t o : Int} :
    ((k = 1 ∨ k = 2) → (okK x k t o ↔ o < x.va)) ∧ ((k = 3 ∨ k = 4) → (okK x k t o ↔ o < x.vo)) ∧ (k = 5 → (okK x k t o ↔ o < x.lk ∧ owF x o = none)) ∧ (k = 6 → (okK x k t o ↔ o < x.lk ∧ owF x o = some t)) ∧
    (k = 7 → (okK x k t o ↔ o < x.th ∧ (stF x o).1 = 0)) ∧ (k = 8 → (okK x k t o ↔ o < x.th ∧ (stF x o).1 = 3)) ∧ (k = 9 → (okK x k t o ↔ o < x.B.length)) ∧ (k = 11 → (okK x k t o ↔ o < 1)) ∧
    (k ≠ 1 → k ≠ 2 → k ≠ 3 → k ≠ 4 → k ≠ 5 → k ≠ 6 → k ≠ 7 → k ≠ 8 → k ≠ 9 → k ≠ 11 → ¬ okK x k t o) := by
  refine ⟨?_, ?_, ?_, ?_, ?_, ?_, ?_, ?_, ?_⟩
  · rintro (rfl | rfl) <;> simp [okK]
  · rintro (rfl | rfl) <;> simp [okK]
  · rintro rfl; simp [okK]
  · rintro rfl; simp [okK]
  · rintro rfl; simp [okK]
  · rintro rfl; simp [okK]
  · rintro rfl; simp [okK]
  · rintro rfl; simp [okK]
  · intro a1 a2 a3 a4 a5 a6 a7 a8 a9 a11 h
    simp [okK, a1, a2, a3, a4, a5, a6, a7, a8, a9, a11] at h
theorem nxF_k {x : CS} {k t o : Int} (hc : canF x k t o) :
    (k = 5 → nxF x k t o = ⟨x.th, x.va, x.vo, x.lk, x.pa, x.T, x.O.set o.toNat t, x.B, x.n + 1⟩) ∧
    (k = 6 → nxF x k t o = ⟨x.th, x.va, x.vo, x.lk, x.pa, x.T, x.O.set o.toNat (-1), x.B, x.n + 1⟩) ∧
    (k = 7 → nxF x k t o = ⟨x.th, x.va, x.vo, x.lk, x.pa, x.T.set o.toNat (1, 0, 0), x.O, x.B, x.n + 1⟩) ∧
    (k = 9 → nxF x k t o = ⟨x.th, x.va, x.vo, x.lk, x.pa, x.T.set t.toNat (2, o, (opF x o).1), x.O, x.B.set o.toNat (arrF (opF x o) (x.pa.getD o.toNat 0)), x.n + 1⟩) ∧
    (k = 10 → nxF x k t o = ⟨x.th, x.va, x.vo, x.lk, x.pa, x.T.set t.toNat (1, 0, 0), x.O, x.B, x.n + 1⟩) ∧
    (k = 11 → nxF x k t o = ⟨x.th, x.va, x.vo, x.lk, x.pa, x.T.set t.toNat (3, 0, 0), x.O, x.B, x.n + 1⟩) ∧
    (k ≠ 5 → k ≠ 6 → k ≠ 7 → k ≠ 9 → k ≠ 10 → k ≠ 11 → nxF x k t o = ⟨x.th, x.va, x.vo, x.lk, x.pa, x.T, x.O, x.B, x.n + 1⟩) := by
  rw [show nxF x k t o = nextF x k t o from if_pos hc]
  refine ⟨?_, ?_, ?_, ?_, ?_, ?_, ?_⟩
  · rintro rfl; simp [nextF]
  · rintro rfl; simp [nextF]
  · rintro rfl; simp [nextF]
  · rintro rfl; simp [nextF]
  · rintro rfl; simp [nextF]
  · rintro rfl; simp [nextF]
  · intro a b c d e f; simp [nextF, a, b, c, d, e, f]
theorem stF_set {x : CS} {T' : List T3} {th va vo lk : Int} {pa O : List Int} {B : List T2} {n : Int} {t : Int} {s : T3} (h0 : 0 ≤ t) (h : t.toNat < x.T.length) (hT : T' = x.T.set t.toNat s) (u : Int) : stF ⟨th, va, vo, lk, pa, T', O, B, n⟩ u = if u = t then s else stF x u := by
  subst hT
  unfold stF
  split
  · rename_i h1; rw [if_neg (by omega)]
  · rename_i h1
    show (x.T.set t.toNat s).getD u.toNat _ = _
    rw [getD_set h]
    by_cases e : u = t
    · subst e; rw [if_pos rfl, if_pos rfl]
    · rw [if_neg e, if_neg (by omega)]
theorem owV_set {x : CS} {O' : List Int} {th va vo lk : Int} {pa : List Int} {T : List T3} {B : List T2} {n : Int} {l : Int} {v : Int} (h0 : 0 ≤ l) (h : l.toNat < x.O.length) (hO : O' = x.O.set l.toNat v) (u : Int) : owV ⟨th, va, vo, lk, pa, T, O', B, n⟩ u = if u = l then v else owV x u := by
  subst hO
  unfold owV
  split
  · rename_i h1; rw [if_neg (by omega)]
  · rename_i h1
    show (x.O.set l.toNat v).getD u.toNat _ = _
    rw [getD_set h]
    by_cases e : u = l
    · subst e; rw [if_pos rfl, if_pos rfl]
    · rw [if_neg e, if_neg (by omega)]
theorem owF_set {x : CS} {O' : List Int} {th va vo lk : Int} {pa : List Int} {T : List T3} {B : List T2} {n : Int} {l : Int} {v : Int} (h0 : 0 ≤ l) (h : l.toNat < x.O.length) (hO : O' = x.O.set l.toNat v) (u : Int) : owF ⟨th, va, vo, lk, pa, T, O', B, n⟩ u = if u = l then (if v = -1 then none else some v) else owF x u := by
  unfold owF
  rw [owV_set h0 h hO]
  by_cases e : u = l
  · rw [if_pos e, if_pos e]
  · rw [if_neg e, if_neg e]
theorem rel_st {x : CS} {Fs : Int → Option T3} {Fo : Int → Option Int} (hR : RelC Fs Fo x) {t : Int} {s : T3} (h0 : 0 ≤ t) (h : t.toNat < x.T.length) {th va vo lk : Int} {pa : List Int} {B : List T2} {n : Int} : RelC (upd Fs t (some s)) Fo ⟨th, va, vo, lk, pa, x.T.set t.toNat s, x.O, B, n⟩ :=
  ⟨fun u => by
    rw [stF_set h0 h rfl]
    unfold upd
    split
    · rfl
    · exact hR.st u, fun l => hR.ow l⟩
theorem rel_ow {x : CS} {Fs : Int → Option T3} {Fo : Int → Option Int} (hR : RelC Fs Fo x) {l v : Int} (h0 : 0 ≤ l) (h : l.toNat < x.O.length) {th va vo lk : Int} {pa : List Int} {B : List T2} {n : Int} : RelC Fs (upd Fo l (if v = -1 then none else some v)) ⟨th, va, vo, lk, pa, x.T, x.O.set l.toNat v, B, n⟩ :=
  ⟨fun u => hR.st u, fun u => by
    rw [owF_set h0 h rfl]
    unfold upd
    split
    · rfl
    · exact hR.ow u⟩
theorem rel_n {x : CS} {Fs : Int → Option T3} {Fo : Int → Option Int} (hR : RelC Fs Fo x) {th va vo lk : Int} {pa : List Int} {B : List T2} {n : Int} : RelC Fs Fo ⟨th, va, vo, lk, pa, x.T, x.O, B, n⟩ := ⟨hR.st, hR.ow⟩
theorem can_obj {x : CS} (hx : CInv x) {k t o : Int} (hc : canF x k t o) : (k = 5 ∨ k = 6 → 0 ≤ o ∧ o.toNat < x.O.length) ∧ (k = 7 → 0 ≤ o ∧ o.toNat < x.T.length ∧ (stF x o).1 = 0) ∧ (k = 9 → 0 ≤ o ∧ o.toNat < x.B.length ∧ o.toNat < x.pa.length ∧ (stF x t).1 = 1) ∧ (k = 10 → (stF x t).1 = 2 ∧ fullF x t ∧ o = (stF x t).2.1) ∧ (k = 11 → (stF x t).1 = 1) := by
  have h1 := hx.tl
  have h2 := hx.ol
  have h3 := hx.bl
  obtain ⟨k1, k2, k3, k4, k5, k6, k7, k8, k9⟩ := okK_k (x := x) (k := k) (t := t) (o := o)
  rcases hc with ⟨a, rfl, c, d⟩ | ⟨a, b, c⟩
  · exact ⟨fun h => by omega, fun h => by omega, fun h => by omega, fun _ => ⟨a, d, c⟩, fun h => by omega⟩
  · refine ⟨?_, ?_, ?_, ?_, fun _ => a⟩
    · rintro (h | h)
      · have := (k3 h).1 c; omega
      · have := (k4 h).1 c; omega
    · intro h; have := (k5 h).1 c; exact ⟨b, by omega, this.2⟩
    · intro h; have := (k7 h).1 c; exact ⟨b, by omega, by omega, a⟩
    · intro h; exact absurd c (k9 (by omega) (by omega) (by omega) (by omega) (by omega) (by omega) (by omega) (by omega) (by omega) (by omega))
theorem new_inv {th va vo lk : Int} {pa : List Int} (h : OkS th va vo lk pa) : CInv (newF th va vo lk pa) := by
  have h1 := h.th
  have h2 := h.lk
  have key : ∀ s ∈ (newF th va vo lk pa).T, s = (1, 0, 0) ∨ s = (0, 0, 0) := fun s hs => by
    rcases List.mem_or_eq_of_mem_set hs with h | h
    · exact .inr (List.mem_replicate.1 h).2
    · exact .inl h
  refine ⟨h, by simp [newF]; omega, by simp [newF]; omega, by simp [newF], ?_, ?_, ?_, Int.le_refl _⟩
  · intro s hs
    rcases key s hs with rfl | rfl <;> simp
  · intro i o p ho hp
    have : o = (0, 0) := (List.mem_replicate.1 (List.mem_of_getElem? ho)).2
    subst this
    have := h.pa p (List.mem_of_getElem? hp)
    simp [newF]; omega
  · intro v hv
    exact .inl (List.mem_replicate.1 hv).2
theorem opF_set {x : CS} {b : Int} {q : T2} (hb : b.toNat < x.B.length) {th va vo lk : Int} {pa O : List Int} {T : List T3} {n : Int} (u : Int) : opF ⟨th, va, vo, lk, pa, T, O, x.B.set b.toNat q, n⟩ u = if u.toNat = b.toNat then q else opF x u := by
  unfold opF
  exact getD_set hb
/-- What holds stays. -/
theorem next_inv {x : CS} (hx : CInv x) (k t o : Int) : CInv (nxF x k t o) := by
  by_cases hc : canF x k t o
  · obtain ⟨n5, n6, n7, n9, n10, n11, nn⟩ := nxF_k hc
    obtain ⟨o5, o7, o9, o10, o11⟩ := can_obj hx hc
    obtain ⟨t0, t1, t2⟩ := stF_nz (can_th hc)
    have hst := stF_inv hx t
    have hn := hx.n0
    have hop : ∀ (i : Nat) (o : T2) (p : Int), x.B[i]? = some o → x.pa[i]? = some p → 0 ≤ o.1 ∧ o.1 ≤ x.n + 1 ∧ 0 ≤ o.2 ∧ o.2 < p := fun i o p h1 h2 => by have := hx.op i o p h1 h2; omega
    have hstk : ∀ (s : T3) (y : CS), y.B = x.B → s ∈ x.T → 0 ≤ s.1 ∧ s.1 ≤ 3 ∧ (s.1 = 2 → 0 ≤ s.2.1 ∧ s.2.1 < y.B.length ∧ 0 ≤ s.2.2 ∧ s.2.2 ≤ (opF y s.2.1).1) ∧ (s.1 ≠ 2 → s.2 = (0, 0)) := fun s y hy hs => by
      have := hx.st s hs
      rw [hy, show opF y s.2.1 = opF x s.2.1 by unfold opF; rw [hy]]; exact this
    have how : ∀ (t' : Int) (s : T3), 0 ≤ t' → t'.toNat < x.T.length → s.1 ≠ 0 → ∀ {pa : List Int} {B : List T2} {n : Int}, ∀ v ∈ x.O, v = -1 ∨ (stF ⟨x.th, x.va, x.vo, x.lk, pa, x.T.set t'.toNat s, x.O, B, n⟩ v).1 ≠ 0 := fun t' s h1 h2 h3 pa B n v hv => by
      rw [stF_set h1 h2 rfl]
      split
      · exact .inr h3
      · exact hx.ow v hv
    by_cases k5 : k = 5
    · obtain ⟨a, b⟩ := o5 (.inl k5)
      rw [n5 k5]
      refine ⟨hx.sh, hx.tl, by show ((x.O.set _ _).length : Int) = _; rw [List.length_set]; exact hx.ol, hx.bl, fun s hs => hstk s _ rfl hs, hop, fun v hv => ?_, by show 0 ≤ x.n + 1; omega⟩
      rcases List.mem_or_eq_of_mem_set hv with h | rfl
      · exact hx.ow v h
      · exact .inr (can_th (x := x) hc)
    by_cases k6 : k = 6
    · obtain ⟨a, b⟩ := o5 (.inr k6)
      rw [n6 k6]
      refine ⟨hx.sh, hx.tl, by show ((x.O.set _ _).length : Int) = _; rw [List.length_set]; exact hx.ol, hx.bl, fun s hs => hstk s _ rfl hs, hop, fun v hv => ?_, by show 0 ≤ x.n + 1; omega⟩
      rcases List.mem_or_eq_of_mem_set hv with h | rfl
      · exact hx.ow v h
      · exact .inl rfl
    have hsetT : ∀ (t' : Int) (s : T3), 0 ≤ t' → t'.toNat < x.T.length → s.1 ≠ 0 → (0 ≤ s.1 ∧ s.1 ≤ 3 ∧ s.1 ≠ 2 ∧ s.2 = (0, 0)) → CInv ⟨x.th, x.va, x.vo, x.lk, x.pa, x.T.set t'.toNat s, x.O, x.B, x.n + 1⟩ := fun t' s h1 h2 h3 h4 => by
      refine ⟨hx.sh, by show ((x.T.set _ _).length : Int) = _; rw [List.length_set]; exact hx.tl, hx.ol, hx.bl, fun q hq => ?_, hop, how t' s h1 h2 h3, by show 0 ≤ x.n + 1; omega⟩
      rcases List.mem_or_eq_of_mem_set hq with h | rfl
      · exact hstk q _ rfl h
      · exact ⟨h4.1, h4.2.1, fun e => absurd e h4.2.2.1, fun _ => h4.2.2.2⟩
    by_cases k7 : k = 7
    · obtain ⟨a, b, c⟩ := o7 k7
      rw [n7 k7]
      exact hsetT o (1, 0, 0) a b (by decide) (by decide)
    by_cases k10 : k = 10
    · rw [n10 k10]; exact hsetT t (1, 0, 0) t0 t1 (by decide) (by decide)
    by_cases k11 : k = 11
    · rw [n11 k11]; exact hsetT t (3, 0, 0) t0 t1 (by decide) (by decide)
    by_cases k9 : k = 9
    · obtain ⟨a, b, c, d⟩ := o9 k9
      rw [n9 k9]
      have hbo := opF_at (x := x) a (by omega)
      obtain ⟨p, hp⟩ := get_lt c
      rw [getD_some hp]
      have hbp := hx.op _ _ _ hbo hp
      have hpp := hx.sh.pa p (List.mem_of_getElem? hp)
      have har : (arrF (opF x o) p).1 = (opF x o).1 ∨ (arrF (opF x o) p).1 = (opF x o).1 + 1 := by unfold arrF; split <;> simp
      have har2 : 0 ≤ (arrF (opF x o) p).2 ∧ (arrF (opF x o) p).2 < p := by unfold arrF; split <;> simp <;> omega
      refine ⟨hx.sh, by show ((x.T.set _ _).length : Int) = _; rw [List.length_set]; exact hx.tl, hx.ol, by show (x.B.set _ _).length = _; rw [List.length_set]; exact hx.bl, fun q hq => ?_, fun i q r hi hr => ?_, how t _ t0 t1 (by show (2 : Int) ≠ 0; decide), by show 0 ≤ x.n + 1; omega⟩
      · rw [opF_set b]
        show _ ∧ _ ∧ (_ → _ ∧ q.2.1 < ((x.B.set _ _).length : Int) ∧ _) ∧ _
        rw [List.length_set]
        rcases List.mem_or_eq_of_mem_set hq with h | rfl
        · have h1 := hx.st q h
          refine ⟨h1.1, h1.2.1, fun e => ?_, h1.2.2.2⟩
          have h2 := h1.2.2.1 e
          refine ⟨h2.1, h2.2.1, h2.2.2.1, ?_⟩
          split
          · rename_i e2
            have : opF x q.2.1 = opF x o := by unfold opF; rw [e2]
            rw [this] at h2; omega
          · exact h2.2.2.2
        · refine ⟨(by decide : (0 : Int) ≤ 2), (by decide : (2 : Int) ≤ 3), fun _ => ⟨a, by show o < _; omega, hbp.1, ?_⟩, fun e => absurd rfl e⟩
          rw [if_pos rfl]; show (opF x o).1 ≤ _; omega
      · have hi' : (x.B.set o.toNat (arrF (opF x o) p))[i]? = some q := hi
        show 0 ≤ q.1 ∧ q.1 ≤ x.n + 1 ∧ _
        rw [List.getElem?_set] at hi'
        split at hi'
        · rename_i e; subst e
          cases hi'
          have hr' : x.pa[o.toNat]? = some r := hr
          rw [hp] at hr'; cases hr'
          omega
        · exact hop i q r hi' hr
    · rw [nn k5 k6 k7 k9 k10 k11]
      exact ⟨hx.sh, hx.tl, hx.ol, hx.bl, fun s hs => hstk s _ rfl hs, hop, hx.ow, by show 0 ≤ x.n + 1; omega⟩
  · rw [show nxF x k t o = x from if_neg hc]; exact hx
theorem full_spec (pa : Option Addr) (pc b : Nat) (x : CS) (hx : CInv x) (t : Int) : Spec Try.prog 76 [.pointer (some ⟨b, 0, none⟩), .int .i64 t] [ck pa pc b x] (fun (_ : Unit) => .bool (decide (fullF x t))) (fun _ => True) (fun _ => [ck pa pc b x]) := by
 refine spec_mk (n := 31) Try.func76 rfl rfl rfl ?_
 intro Γ w0
 simp only [argE, List.cons_append, List.nil_append, Nat.zero_add, Nat.reduceAdd]
 refine c_seq ?_
 refine c_plain (.q 0 (.done)) (by kernel_rfl) ?_
 refine q_assign rfl rfl rfl rfl ?_
 refine r_done ?_
 refine k_then_n ?_
 refine c_seq ?_
 refine c_seq ?_
 refine c_plain (.q 0 ((.l 1 [] (.done)))) (by kernel_rfl) ?_
 refine q_move rfl rfl rfl rfl ?_
 have sp_1 := none_spec pa pc b x
 refine l_call rfl rfl rfl rfl rfl rfl Try.call62 (sp_1) (by (repeat ((with_reducible apply Z2); focus (first | (with_reducible (repeat (first | exact Z0 | apply Z1)); done) | (repeat (first | exact Z0 | apply Z1))))); exact Z3) ?_
 rintro ⟨⟩ -
 try simp only [List.cons_append, List.nil_append]
 refine ag_nil ?_
 refine r_done ?_
 refine k_then_n ?_
 refine c_cond_f rfl ?_
 refine c_skip ?_
 refine k_then_n ?_
 refine c_seq ?_
 refine s_take (A := ck pa pc b x) (by with_reducible (repeat (first | exact Z0 | apply Z1))) ?_
 refine ck_open fun m1 m2 Fs Fo oa oc hR => ?_
 refine c_plain (.q 0 (.q 1 (.q 2 (.q 3 (.q 4 (.q 5 ((.l 6 [] ((.l 7 [] (.done))))))))))) (by kernel_rfl) ?_
 refine q_move rfl rfl rfl rfl ?_
 refine q_nil_p rfl rfl rfl rfl ?_
 refine q_field (k := 5) rfl rfl rfl rfl Try.underlying129 rfl Try.sizeOf126 rfl ?_
 refine q_load_c (j := 5) rfl rfl rfl rfl Try.isAgg126 (by with_reducible (repeat (first | exact Z0 | apply Z1))) (by first | rfl | exact (Nat.add_zero _).symm) (by rfl) ?_
 refine q_move rfl rfl rfl rfl ?_
 refine q_lookup1 (ek := ekZ) (ev1 := ev3) (F := Fs) (m := m1) (k := t) (0, 0, 0) rfl rfl rfl rfl rfl Try.underlying126 (keyOK_int Try.underlying3) Try.zeroValue79 (by with_reducible (repeat (first | exact Z0 | apply Z1))) ?_
 refine s_eq 13 rfl (v' := .agg #[.int .i64 ((stF x t).1), .int .i64 ((stF x t).2.1), .int .i64 ((stF x t).2.2)]) (by rw [hR.st]) ?_
 refine l_alloc rfl rfl rfl Try.zeroValue79 (zs := [.int .i64 0, .int .i64 0, .int .i64 0]) rfl ?_
 intro b5
 refine ag_nil ?_
 refine l_store (j := 0) rfl rfl rfl rfl Try.sizeOf79 (us := [_, _, _]) rfl rfl rfl (by with_reducible (repeat (first | exact Z0 | apply Z1))) (by first | rfl | exact (Nat.add_zero _).symm) (by first | decide | (simp; done) | omega) ?_
 simp only [setL, List.set]
 refine ag_nil ?_
 refine r_done ?_
 refine s_keep [0, 5] (e' := [(0, _), (5, _)]) rfl ?_
 refine k_then_n ?_
 refine c_seq ?_
 refine c_draw rfl (.q 0 (.q 1 (.q 2 (.q 3 (.q 4 (.q 5 (.q 6 (.q 7 (.q 8 (.q 9 (.q 10 (.q 11 (.q 12 (.q 13 (.q 14 (.q 15 (.q 16 (.q 17 (.done))))))))))))))))))) (by kernel_rfl) ?_
 refine q_field (k := 0) rfl rfl rfl rfl Try.underlying79 rfl Try.sizeOf77 rfl ?_
 refine q_load_c (j := 0) rfl rfl rfl rfl Try.isAgg77 (by with_reducible (repeat (first | exact Z0 | apply Z1))) (by first | rfl | exact (Nat.add_zero _).symm) (by rfl) ?_
 refine q_int rfl rfl rfl rfl rfl (b_eql _ _ _ _) ?_
 refine q_move rfl rfl rfl rfl ?_
 refine s_bool_p 17 rfl (fun h2 => ?_) (fun h2 => ?_)
 ·
  have hsi := (stF_inv hx t).2.2.1 h2
  have hop := opF_at hsi.1 hsi.2.1
  refine q_field (k := 2) rfl rfl rfl rfl Try.underlying79 rfl Try.sizeOf3 rfl ?_
  refine q_load_c (j := 2) rfl rfl rfl rfl Try.isAgg3 (by with_reducible (repeat (first | exact Z0 | apply Z1))) (by first | rfl | exact (Nat.add_zero _).symm) (by rfl) ?_
  refine q_move rfl rfl rfl rfl ?_
  refine q_nil_p rfl rfl rfl rfl ?_
  refine q_field (k := 7) rfl rfl rfl rfl Try.underlying129 rfl Try.sizeOf111 rfl ?_
  refine q_load_c (j := 7) rfl rfl rfl rfl Try.isAgg111 (by with_reducible (repeat (first | exact Z0 | apply Z1))) (by first | rfl | exact (Nat.add_zero _).symm) (by rfl) ?_
  refine q_field (k := 1) rfl rfl rfl rfl Try.underlying79 rfl Try.sizeOf3 rfl ?_
  refine q_load_c (j := 1) rfl rfl rfl rfl Try.isAgg3 (by with_reducible (repeat (first | exact Z0 | apply Z1))) (by first | rfl | exact (Nat.add_zero _).symm) (by rfl) ?_
  refine q_idxO (sz := 1) (k := (stF x t).2.1.toNat) (enc := enc2) (xs := x.B) rfl rfl rfl rfl rfl Try.underlying111 Try.sizeOf74 hop (by first | rfl | omega) (by omega) (by with_reducible (repeat (first | exact Z0 | apply Z1))) ?_
  intro ib26 io26 ha26 hl26 hc26
  refine q_field (k := 0) rfl rfl rfl rfl Try.underlying74 rfl Try.sizeOf3 rfl ?_
  refine q_load_O (v := (.int .i64 ((opF x (stF x t).2.1).1))) (j := 0) (k' := (stF x t).2.1.toNat) (enc := enc2) (off := io26) rfl rfl rfl rfl Try.isAgg3 ha26 enc2_len hop (by with_reducible (repeat (first | exact Z0 | apply Z1))) (by first | rfl | exact (Nat.add_zero _).symm | omega) (by rfl) ?_
  refine q_int rfl rfl rfl rfl rfl (b_lss _ _ _ _) ?_
  refine q_pick_t rfl rfl rfl rfl rfl ?_
  refine q_assign rfl rfl rfl rfl ?_
  refine r_done ?_
  refine s_keep [4] (e' := [(4, _)]) rfl ?_
  refine k_then_n ?_
  refine c_ret ?_
  refine ck_fold (b := b) x (pa := pa) (pc := pc) (m1 := m1) (m2 := m2) (oa := oa) (oc := oc) (by (repeat ((with_reducible apply Z2); focus (first | (with_reducible (repeat (first | exact Z0 | apply Z1)); done) | (repeat (first | exact Z0 | apply Z1))))); exact Z3) (by rfl) (by rfl) (hR) ?_
  refine ret1 rfl rfl (()) (by congr 1; first | (rw [decide_eq_decide]; simp [fullF, h2]; done) | (symm; rw [decide_eq_false_iff_not]; simp [fullF, h2])) (by trivial) ?_
  (repeat ((with_reducible apply Z2); focus (first | (with_reducible (repeat (first | exact Z0 | apply Z1)); done) | (repeat (first | exact Z0 | apply Z1))))); (repeat (first | exact Z3 | exact Takes.self | refine takes_drop2 ?_))
 ·
  refine q_skip rfl rfl rfl rfl ?_
  refine q_skip rfl rfl rfl rfl ?_
  refine q_skip rfl rfl rfl rfl ?_
  refine q_skip rfl rfl rfl rfl ?_
  refine q_skip rfl rfl rfl rfl ?_
  refine q_skip rfl rfl rfl rfl ?_
  refine q_skip rfl rfl rfl rfl ?_
  refine q_skip rfl rfl rfl rfl ?_
  refine q_skip rfl rfl rfl rfl ?_
  refine q_skip rfl rfl rfl rfl ?_
  refine q_skip rfl rfl rfl rfl ?_
  refine q_skip rfl rfl rfl rfl ?_
  refine q_pick_f rfl rfl rfl rfl rfl ?_
  refine q_assign rfl rfl rfl rfl ?_
  refine r_done ?_
  refine s_keep [4] (e' := [(4, _)]) rfl ?_
  refine k_then_n ?_
  refine c_ret ?_
  refine ck_fold (b := b) x (pa := pa) (pc := pc) (m1 := m1) (m2 := m2) (oa := oa) (oc := oc) (by (repeat ((with_reducible apply Z2); focus (first | (with_reducible (repeat (first | exact Z0 | apply Z1)); done) | (repeat (first | exact Z0 | apply Z1))))); exact Z3) (by rfl) (by rfl) (hR) ?_
  refine ret1 rfl rfl (()) (by congr 1; first | (rw [decide_eq_decide]; simp [fullF, h2]; done) | (symm; rw [decide_eq_false_iff_not]; simp [fullF, h2])) (by trivial) ?_
  (repeat ((with_reducible apply Z2); focus (first | (with_reducible (repeat (first | exact Z0 | apply Z1)); done) | (repeat (first | exact Z0 | apply Z1))))); (repeat (first | exact Z3 | exact Takes.self | refine takes_drop2 ?_))

theorem can_spec (pa : Option Addr) (pc b : Nat) (x : CS) (hx : CInv x) (k t o : Int) : Spec Try.prog 60 [.pointer (some ⟨b, 0, none⟩), .agg #[.int .i64 k, .int .i64 t, .int .i64 o]] [ck pa pc b x] (fun (_ : Unit) => .bool (decide (canF x k t o))) (fun _ => True) (fun _ => [ck pa pc b x]) := by
 refine spec_mk (n := 139) Try.func60 rfl rfl rfl ?_
 intro Γ w0
 simp only [argE, List.cons_append, List.nil_append, Nat.zero_add, Nat.reduceAdd]
 refine c_seq ?_
 refine c_plain ((.l 0 [] (.q 1 (.done)))) (by kernel_rfl) ?_
 refine l_box rfl rfl rfl rfl (us := [_, _, _]) rfl ?_
 intro b3
 refine ag_nil ?_
 refine q_assign rfl rfl rfl rfl ?_
 refine r_done ?_
 refine k_then_n ?_
 refine c_seq ?_
 refine c_seq ?_
 refine c_plain (.q 0 ((.l 1 [] (.done)))) (by kernel_rfl) ?_
 refine q_move rfl rfl rfl rfl ?_
 have sp_1 := none_spec pa pc b x
 refine l_call rfl rfl rfl rfl rfl rfl Try.call62 (sp_1) (by (repeat ((with_reducible apply Z2); focus (first | (with_reducible (repeat (first | exact Z0 | apply Z1)); done) | (repeat (first | exact Z0 | apply Z1))))); exact Z3) ?_
 rintro ⟨⟩ -
 try simp only [List.cons_append, List.nil_append]
 refine ag_nil ?_
 refine r_done ?_
 refine k_then_n ?_
 refine c_cond_f rfl ?_
 refine c_skip ?_
 refine k_then_n ?_
 refine c_seq ?_
 refine s_take (A := ck pa pc b x) (by with_reducible (repeat (first | exact Z0 | apply Z1))) ?_
 refine ck_open fun m1 m2 Fs Fo oa oc hR => ?_
 refine c_draw rfl (.q 0 (.q 1 (.q 2 (.q 3 (.q 4 (.q 5 (.q 6 ((.l 7 [3, 5, 6] ((.l 8 [] (.done)))))))))))) (by kernel_rfl) ?_
 refine q_move rfl rfl rfl rfl ?_
 refine q_nil_p rfl rfl rfl rfl ?_
 refine q_field (k := 5) rfl rfl rfl rfl Try.underlying129 rfl Try.sizeOf126 rfl ?_
 refine q_load_c (j := 5) rfl rfl rfl rfl Try.isAgg126 (by with_reducible (repeat (first | exact Z0 | apply Z1))) (by first | rfl | exact (Nat.add_zero _).symm) (by rfl) ?_
 refine q_field (k := 1) rfl rfl rfl rfl Try.underlying40 rfl Try.sizeOf3 rfl ?_
 refine q_load_c (j := 1) rfl rfl rfl rfl Try.isAgg3 (by with_reducible (repeat (first | exact Z0 | apply Z1))) (by first | rfl | exact (Nat.add_zero _).symm) (by rfl) ?_
 refine q_lookup1 (ek := ekZ) (ev1 := ev3) (F := Fs) (m := m1) (k := t) (0, 0, 0) rfl rfl rfl rfl rfl Try.underlying126 (keyOK_int Try.underlying3) Try.zeroValue79 (by with_reducible (repeat (first | exact Z0 | apply Z1))) ?_
 refine s_eq 18 rfl (v' := .agg #[.int .i64 ((stF x t).1), .int .i64 ((stF x t).2.1), .int .i64 ((stF x t).2.2)]) (by rw [hR.st]) ?_
 refine l_alloc rfl rfl rfl Try.zeroValue79 (zs := [.int .i64 0, .int .i64 0, .int .i64 0]) rfl ?_
 intro b5
 refine ag_load_c (q := 5) rfl rfl rfl Try.isAgg126 (by with_reducible (repeat (first | exact Z0 | apply Z1))) (by first | rfl | exact (Nat.add_zero _).symm) (by rfl) ?_
 refine ag_load_c (q := 1) rfl rfl rfl Try.isAgg3 (by with_reducible (repeat (first | exact Z0 | apply Z1))) (by first | rfl | exact (Nat.add_zero _).symm) (by rfl) ?_
 refine ag_lookup1 (ek := ekZ) (ev1 := ev3) (F := Fs) (m := m1) (k := t) (0, 0, 0) rfl rfl (by first | rfl | (rw [hR.st])) rfl rfl Try.underlying126 (keyOK_int Try.underlying3) Try.zeroValue79 (by with_reducible (repeat (first | exact Z0 | apply Z1))) ?_
 refine ag_nil ?_
 refine l_store (j := 0) rfl rfl rfl rfl Try.sizeOf79 (us := [_, _, _]) rfl rfl rfl (by with_reducible (repeat (first | exact Z0 | apply Z1))) (by first | rfl | exact (Nat.add_zero _).symm) (by first | decide | (simp; done) | omega) ?_
 simp only [setL, List.set]
 refine ag_nil ?_
 refine r_done ?_
 refine s_keep [0, 3, 5] (e' := [(0, _), (3, _), (5, _)]) rfl ?_
 refine k_then_n ?_
 refine c_seq ?_
 refine c_seq ?_
 refine c_plain (.q 0 (.q 1 (.q 2 (.done)))) (by kernel_rfl) ?_
 refine q_field (k := 0) rfl rfl rfl rfl Try.underlying79 rfl Try.sizeOf77 rfl ?_
 refine q_load_c (j := 0) rfl rfl rfl rfl Try.isAgg77 (by with_reducible (repeat (first | exact Z0 | apply Z1))) (by first | rfl | exact (Nat.add_zero _).symm) (by rfl) ?_
 refine q_int rfl rfl rfl rfl rfl (b_eql _ _ _ _) ?_
 refine r_done ?_
 refine k_then_n ?_
 refine c_cond_p rfl (fun h2 => ?_) (fun h2 => ?_)
 ·
  refine c_seq ?_
  refine c_plain (.q 0 (.q 1 (.q 2 (.q 3 (.q 4 (.q 5 (.q 6 (.q 7 (.q 8 (.q 9 (.q 10 (.q 11 (.q 12 (.q 13 ((.l 14 [] (.q 15 (.q 16 (.done))))))))))))))))))) (by kernel_rfl) ?_
  refine q_field (k := 0) rfl rfl rfl rfl Try.underlying40 rfl Try.sizeOf38 rfl ?_
  refine q_load_c (j := 0) rfl rfl rfl rfl Try.isAgg38 (by with_reducible (repeat (first | exact Z0 | apply Z1))) (by first | rfl | exact (Nat.add_zero _).symm) (by rfl) ?_
  refine q_int rfl rfl rfl rfl rfl (b_eql _ _ _ _) ?_
  refine q_move rfl rfl rfl rfl ?_
  refine s_bool_p 25 rfl (fun h10 => ?_) (fun h10 => ?_)
  ·
   refine q_field (k := 2) rfl rfl rfl rfl Try.underlying40 rfl Try.sizeOf3 rfl ?_
   refine q_load_c (j := 2) rfl rfl rfl rfl Try.isAgg3 (by with_reducible (repeat (first | exact Z0 | apply Z1))) (by first | rfl | exact (Nat.add_zero _).symm) (by rfl) ?_
   refine q_field (k := 1) rfl rfl rfl rfl Try.underlying79 rfl Try.sizeOf3 rfl ?_
   refine q_load_c (j := 1) rfl rfl rfl rfl Try.isAgg3 (by with_reducible (repeat (first | exact Z0 | apply Z1))) (by first | rfl | exact (Nat.add_zero _).symm) (by rfl) ?_
   refine q_int rfl rfl rfl rfl rfl (b_eql _ _ _ _) ?_
   refine q_pick_t rfl rfl rfl rfl rfl ?_
   refine q_move rfl rfl rfl rfl ?_
   refine s_bool_p 32 rfl (fun hob => ?_) (fun hob => ?_)
   ·
    refine q_move rfl rfl rfl rfl ?_
    refine q_field (k := 1) rfl rfl rfl rfl Try.underlying40 rfl Try.sizeOf3 rfl ?_
    refine q_load_c (j := 1) rfl rfl rfl rfl Try.isAgg3 (by with_reducible (repeat (first | exact Z0 | apply Z1))) (by first | rfl | exact (Nat.add_zero _).symm) (by rfl) ?_
    refine ck_fold (b := b) x (pa := pa) (pc := pc) (m1 := m1) (m2 := m2) (oa := oa) (oc := oc) (by (repeat ((with_reducible apply Z2); focus (first | (with_reducible (repeat (first | exact Z0 | apply Z1)); done) | (repeat (first | exact Z0 | apply Z1))))); exact Z3) (by rfl) (by rfl) (hR) ?_
    have sp_2 := full_spec pa pc b x hx t
    refine l_call rfl rfl rfl rfl rfl rfl Try.call76 (sp_2) (by (repeat ((with_reducible apply Z2); focus (first | (with_reducible (repeat (first | exact Z0 | apply Z1)); done) | (repeat (first | exact Z0 | apply Z1))))); exact Z3) ?_
    rintro ⟨⟩ -
    try simp only [List.cons_append, List.nil_append]
    refine ag_nil ?_
    refine s_take (A := ck pa pc b x) (by with_reducible (repeat (first | exact Z0 | apply Z1))) ?_
    refine ck_open fun m1 m2 Fs Fo oa oc hR => ?_
    refine q_pick_t rfl rfl rfl rfl rfl ?_
    refine q_assign rfl rfl rfl rfl ?_
    refine r_done ?_
    refine s_keep [4] (e' := [(4, _)]) rfl ?_
    refine k_then_n ?_
    refine c_ret ?_
    refine k_then_ret ?_
    refine ck_fold (b := b) x (pa := pa) (pc := pc) (m1 := m1) (m2 := m2) (oa := oa) (oc := oc) (by (repeat ((with_reducible apply Z2); focus (first | (with_reducible (repeat (first | exact Z0 | apply Z1)); done) | (repeat (first | exact Z0 | apply Z1))))); exact Z3) (by rfl) (by rfl) (hR) ?_
    refine ret1 rfl rfl (()) (by congr 1; first | (rw [decide_eq_decide, can_wait h2]; simp_all; done) | (symm; rw [decide_eq_false_iff_not, can_wait h2]; simp_all)) (by trivial) ?_
    (repeat ((with_reducible apply Z2); focus (first | (with_reducible (repeat (first | exact Z0 | apply Z1)); done) | (repeat (first | exact Z0 | apply Z1))))); (repeat (first | exact Z3 | exact Takes.self | refine takes_drop2 ?_))
   ·
    refine q_skip rfl rfl rfl rfl ?_
    refine q_skip rfl rfl rfl rfl ?_
    refine q_skip rfl rfl rfl rfl ?_
    refine l_skip rfl rfl rfl rfl ?_
    refine q_pick_f rfl rfl rfl rfl rfl ?_
    refine q_assign rfl rfl rfl rfl ?_
    refine r_done ?_
    refine s_keep [4] (e' := [(4, _)]) rfl ?_
    refine k_then_n ?_
    refine c_ret ?_
    refine k_then_ret ?_
    refine ck_fold (b := b) x (pa := pa) (pc := pc) (m1 := m1) (m2 := m2) (oa := oa) (oc := oc) (by (repeat ((with_reducible apply Z2); focus (first | (with_reducible (repeat (first | exact Z0 | apply Z1)); done) | (repeat (first | exact Z0 | apply Z1))))); exact Z3) (by rfl) (by rfl) (hR) ?_
    refine ret1 rfl rfl (()) (by congr 1; first | (rw [decide_eq_decide, can_wait h2]; simp_all; done) | (symm; rw [decide_eq_false_iff_not, can_wait h2]; simp_all)) (by trivial) ?_
    (repeat ((with_reducible apply Z2); focus (first | (with_reducible (repeat (first | exact Z0 | apply Z1)); done) | (repeat (first | exact Z0 | apply Z1))))); (repeat (first | exact Z3 | exact Takes.self | refine takes_drop2 ?_))
  ·
   refine q_skip rfl rfl rfl rfl ?_
   refine q_skip rfl rfl rfl rfl ?_
   refine q_skip rfl rfl rfl rfl ?_
   refine q_skip rfl rfl rfl rfl ?_
   refine q_skip rfl rfl rfl rfl ?_
   refine q_pick_f rfl rfl rfl rfl rfl ?_
   refine q_move rfl rfl rfl rfl ?_
   refine q_skip rfl rfl rfl rfl ?_
   refine q_skip rfl rfl rfl rfl ?_
   refine q_skip rfl rfl rfl rfl ?_
   refine l_skip rfl rfl rfl rfl ?_
   refine q_pick_f rfl rfl rfl rfl rfl ?_
   refine q_assign rfl rfl rfl rfl ?_
   refine r_done ?_
   refine s_keep [4] (e' := [(4, _)]) rfl ?_
   refine k_then_n ?_
   refine c_ret ?_
   refine k_then_ret ?_
   refine ck_fold (b := b) x (pa := pa) (pc := pc) (m1 := m1) (m2 := m2) (oa := oa) (oc := oc) (by (repeat ((with_reducible apply Z2); focus (first | (with_reducible (repeat (first | exact Z0 | apply Z1)); done) | (repeat (first | exact Z0 | apply Z1))))); exact Z3) (by rfl) (by rfl) (hR) ?_
   refine ret1 rfl rfl (()) (by congr 1; first | (rw [decide_eq_decide, can_wait h2]; simp_all; done) | (symm; rw [decide_eq_false_iff_not, can_wait h2]; simp_all)) (by trivial) ?_
   (repeat ((with_reducible apply Z2); focus (first | (with_reducible (repeat (first | exact Z0 | apply Z1)); done) | (repeat (first | exact Z0 | apply Z1))))); (repeat (first | exact Z3 | exact Takes.self | refine takes_drop2 ?_))
 ·
  refine c_skip ?_
  refine k_then_n ?_
  refine c_seq ?_
  refine c_seq ?_
  refine c_plain (.q 0 (.q 1 (.q 2 (.q 3 (.q 4 (.q 5 (.q 6 (.q 7 (.done))))))))) (by kernel_rfl) ?_
  refine q_field (k := 0) rfl rfl rfl rfl Try.underlying79 rfl Try.sizeOf77 rfl ?_
  refine q_load_c (j := 0) rfl rfl rfl rfl Try.isAgg77 (by with_reducible (repeat (first | exact Z0 | apply Z1))) (by first | rfl | exact (Nat.add_zero _).symm) (by rfl) ?_
  refine q_int rfl rfl rfl rfl rfl (b_neq _ _ _ _) ?_
  refine q_move rfl rfl rfl rfl ?_
  refine s_bool_p 41 rfl (fun h3 => ?_) (fun h3 => ?_)
  ·
   refine q_skip rfl rfl rfl rfl ?_
   refine q_skip rfl rfl rfl rfl ?_
   refine q_skip rfl rfl rfl rfl ?_
   refine q_pick_t rfl rfl rfl rfl rfl ?_
   refine r_done ?_
   refine s_keep [0, 3, 45] (e' := [(0, _), (3, _), (45, _)]) rfl ?_
   refine k_then_n ?_
   refine c_cond_t rfl ?_
   refine c_seq ?_
   refine c_plain (.q 0 (.done)) (by kernel_rfl) ?_
   refine q_assign rfl rfl rfl rfl ?_
   refine r_done ?_
   refine k_then_n ?_
   refine c_ret ?_
   refine k_then_ret ?_
   refine ck_fold (b := b) x (pa := pa) (pc := pc) (m1 := m1) (m2 := m2) (oa := oa) (oc := oc) (by (repeat ((with_reducible apply Z2); focus (first | (with_reducible (repeat (first | exact Z0 | apply Z1)); done) | (repeat (first | exact Z0 | apply Z1))))); exact Z3) (by rfl) (by rfl) (hR) ?_
   refine ret1 rfl rfl (()) (by congr 1; symm; rw [decide_eq_false_iff_not]; exact can_not h2 (by first | omega | (simp at h1; omega))) (by trivial) ?_
   (repeat ((with_reducible apply Z2); focus (first | (with_reducible (repeat (first | exact Z0 | apply Z1)); done) | (repeat (first | exact Z0 | apply Z1))))); (repeat (first | exact Z3 | exact Takes.self | refine takes_drop2 ?_))
  ·
   refine q_field (k := 2) rfl rfl rfl rfl Try.underlying40 rfl Try.sizeOf3 rfl ?_
   refine q_load_c (j := 2) rfl rfl rfl rfl Try.isAgg3 (by with_reducible (repeat (first | exact Z0 | apply Z1))) (by first | rfl | exact (Nat.add_zero _).symm) (by rfl) ?_
   refine q_int rfl rfl rfl rfl rfl (b_lss _ _ _ _) ?_
   refine q_pick_f rfl rfl rfl rfl rfl ?_
   refine r_done ?_
   refine s_keep [0, 3, 45] (e' := [(0, _), (3, _), (45, _)]) rfl ?_
   refine k_then_n ?_
   refine c_cond_p rfl (fun h1 => ?_) (fun h1 => ?_)
   ·
    refine c_seq ?_
    refine c_plain (.q 0 (.done)) (by kernel_rfl) ?_
    refine q_assign rfl rfl rfl rfl ?_
    refine r_done ?_
    refine k_then_n ?_
    refine c_ret ?_
    refine k_then_ret ?_
    refine ck_fold (b := b) x (pa := pa) (pc := pc) (m1 := m1) (m2 := m2) (oa := oa) (oc := oc) (by (repeat ((with_reducible apply Z2); focus (first | (with_reducible (repeat (first | exact Z0 | apply Z1)); done) | (repeat (first | exact Z0 | apply Z1))))); exact Z3) (by rfl) (by rfl) (hR) ?_
    refine ret1 rfl rfl (()) (by congr 1; symm; rw [decide_eq_false_iff_not]; exact can_not h2 (by first | omega | (simp at h1; omega))) (by trivial) ?_
    (repeat ((with_reducible apply Z2); focus (first | (with_reducible (repeat (first | exact Z0 | apply Z1)); done) | (repeat (first | exact Z0 | apply Z1))))); (repeat (first | exact Z3 | exact Takes.self | refine takes_drop2 ?_))
   ·
    have h1 : (stF x t).1 = 1 ∧ 0 ≤ o := by first | omega | (simp at h1; omega)
    refine c_skip ?_
    refine k_then_n ?_
    refine c_seq ?_
    refine c_draw rfl (.q 0 (.q 1 (.q 2 (.q 3 (.q 4 (.q 5 (.q 6 (.q 7 (.q 8 (.q 9 (.q 10 (.q 11 (.done))))))))))))) (by kernel_rfl) ?_
    refine q_move rfl rfl rfl rfl ?_
    refine q_nil_p rfl rfl rfl rfl ?_
    refine q_field (k := 6) rfl rfl rfl rfl Try.underlying129 rfl Try.sizeOf127 rfl ?_
    refine q_load_c (j := 6) rfl rfl rfl rfl Try.isAgg127 (by with_reducible (repeat (first | exact Z0 | apply Z1))) (by first | rfl | exact (Nat.add_zero _).symm) (by rfl) ?_
    refine q_field (k := 2) rfl rfl rfl rfl Try.underlying40 rfl Try.sizeOf3 rfl ?_
    refine q_load_c (j := 2) rfl rfl rfl rfl Try.isAgg3 (by with_reducible (repeat (first | exact Z0 | apply Z1))) (by first | rfl | exact (Nat.add_zero _).symm) (by rfl) ?_
    refine q_lookup2 (ek := ekZ) (ev1 := ekZ) (F := Fo) (m := m2) (k := o) 0 rfl rfl rfl rfl rfl Try.underlying127 (keyOK_int Try.underlying3) Try.zeroValue3 (by with_reducible (repeat (first | exact Z0 | apply Z1))) ?_
    refine s_eq 53 rfl (v' := .tuple #[.int .i64 ((owF x o).getD 0), .bool ((owF x o).isSome)]) (by rw [hR.ow]) ?_
    refine q_move rfl rfl rfl rfl ?_
    refine q_extract rfl rfl rfl rfl rfl ?_
    refine q_extract rfl rfl rfl rfl rfl ?_
    refine q_assign rfl rfl rfl rfl ?_
    refine q_assign rfl rfl rfl rfl ?_
    refine r_done ?_
    refine s_keep [0, 3, 6, 7] (e' := [(0, _), (3, _), (6, _), (7, _)]) rfl ?_
    refine k_then_n ?_
    refine c_seq ?_
    refine c_draw rfl (.q 0 (.q 1 (.q 2 (.q 3 (.q 4 (.q 5 (.q 6 ((.l 7 [3, 5, 6] ((.l 8 [] (.done)))))))))))) (by kernel_rfl) ?_
    refine q_move rfl rfl rfl rfl ?_
    refine q_nil_p rfl rfl rfl rfl ?_
    refine q_field (k := 5) rfl rfl rfl rfl Try.underlying129 rfl Try.sizeOf126 rfl ?_
    refine q_load_c (j := 5) rfl rfl rfl rfl Try.isAgg126 (by with_reducible (repeat (first | exact Z0 | apply Z1))) (by first | rfl | exact (Nat.add_zero _).symm) (by rfl) ?_
    refine q_field (k := 2) rfl rfl rfl rfl Try.underlying40 rfl Try.sizeOf3 rfl ?_
    refine q_load_c (j := 2) rfl rfl rfl rfl Try.isAgg3 (by with_reducible (repeat (first | exact Z0 | apply Z1))) (by first | rfl | exact (Nat.add_zero _).symm) (by rfl) ?_
    refine q_lookup1 (ek := ekZ) (ev1 := ev3) (F := Fs) (m := m1) (k := o) (0, 0, 0) rfl rfl rfl rfl rfl Try.underlying126 (keyOK_int Try.underlying3) Try.zeroValue79 (by with_reducible (repeat (first | exact Z0 | apply Z1))) ?_
    refine s_eq 62 rfl (v' := .agg #[.int .i64 ((stF x o).1), .int .i64 ((stF x o).2.1), .int .i64 ((stF x o).2.2)]) (by rw [hR.st]) ?_
    refine l_alloc rfl rfl rfl Try.zeroValue79 (zs := [.int .i64 0, .int .i64 0, .int .i64 0]) rfl ?_
    intro b8
    refine ag_load_c (q := 5) rfl rfl rfl Try.isAgg126 (by with_reducible (repeat (first | exact Z0 | apply Z1))) (by first | rfl | exact (Nat.add_zero _).symm) (by rfl) ?_
    refine ag_load_c (q := 2) rfl rfl rfl Try.isAgg3 (by with_reducible (repeat (first | exact Z0 | apply Z1))) (by first | rfl | exact (Nat.add_zero _).symm) (by rfl) ?_
    refine ag_lookup1 (ek := ekZ) (ev1 := ev3) (F := Fs) (m := m1) (k := o) (0, 0, 0) rfl rfl (by first | rfl | (rw [hR.st])) rfl rfl Try.underlying126 (keyOK_int Try.underlying3) Try.zeroValue79 (by with_reducible (repeat (first | exact Z0 | apply Z1))) ?_
    refine ag_nil ?_
    refine l_store (j := 0) rfl rfl rfl rfl Try.sizeOf79 (us := [_, _, _]) rfl rfl rfl (by with_reducible (repeat (first | exact Z0 | apply Z1))) (by first | rfl | exact (Nat.add_zero _).symm) (by first | decide | (simp; done) | omega) ?_
    simp only [setL, List.set]
    refine ag_nil ?_
    refine r_done ?_
    refine s_keep [0, 3, 6, 7, 8] (e' := [(0, _), (3, _), (6, _), (7, _), (8, _)]) rfl ?_
    refine k_then_n ?_
    refine c_seq ?_
    refine c_plain (.q 0 (.done)) (by kernel_rfl) ?_
    refine q_assign rfl rfl rfl rfl ?_
    refine r_done ?_
    refine k_then_n ?_
    refine c_seq ?_
    refine c_seq ?_
    refine c_plain (.q 0 (.q 1 (.done))) (by kernel_rfl) ?_
    refine q_field (k := 0) rfl rfl rfl rfl Try.underlying40 rfl Try.sizeOf38 rfl ?_
    refine q_load_c (j := 0) rfl rfl rfl rfl Try.isAgg38 (by with_reducible (repeat (first | exact Z0 | apply Z1))) (by first | rfl | exact (Nat.add_zero _).symm) (by rfl) ?_
    refine r_done ?_
    refine k_then_n ?_
    refine c_block ?_
    refine c_seq ?_
    refine c_block ?_
    refine c_seq ?_
    refine c_block ?_
    refine c_seq ?_
    refine c_block ?_
    refine c_seq ?_
    refine c_block ?_
    refine c_seq ?_
    refine c_block ?_
    refine c_seq ?_
    refine c_block ?_
    refine c_seq ?_
    refine c_block ?_
    refine c_block ?_
    refine c_seq ?_
    refine c_block ?_
    refine c_block ?_
    refine c_seq ?_
    refine c_seq ?_
    refine c_seq ?_
    refine c_plain (.q 0 (.q 1 (.done))) (by kernel_rfl) ?_
    refine q_int rfl rfl rfl rfl rfl (b_eql _ _ _ _) ?_
    refine q_assign rfl rfl rfl rfl ?_
    refine r_done ?_
    refine k_then_n ?_
    refine c_cond_p rfl (fun k2 => ?_) (fun k2 => ?_)
    ·
     refine c_exit ?_
     refine k_then_exit ?_
     refine k_then_exit ?_
     refine k_blk_here ?_
     refine k_blk_n ?_
     refine k_then_n ?_
     refine c_seq ?_
     refine c_plain (.q 0 (.q 1 (.q 2 (.q 3 (.q 4 (.q 5 (.done))))))) (by kernel_rfl) ?_
     refine q_move rfl rfl rfl rfl ?_
     refine q_nil_p rfl rfl rfl rfl ?_
     refine q_field (k := 0) rfl rfl rfl rfl Try.underlying129 rfl Try.sizeOf24 rfl ?_
     refine q_field (k := 1) rfl rfl rfl rfl Try.underlying24 rfl Try.sizeOf3 rfl ?_
     refine q_load_c (j := 1) rfl rfl rfl rfl Try.isAgg3 (by with_reducible (repeat (first | exact Z0 | apply Z1))) (by first | rfl | exact (Nat.add_zero _).symm) (by rfl) ?_
     refine q_assign rfl rfl rfl rfl ?_
     refine r_done ?_
     refine s_keep [3, 9] (e' := [(3, _), (9, _)]) rfl ?_
     refine k_then_n ?_
     refine c_exit ?_
     refine k_blk_out rfl ?_
     refine k_blk_out rfl ?_
     refine k_then_exit ?_
     refine k_blk_out rfl ?_
     refine k_then_exit ?_
     refine k_blk_out rfl ?_
     refine k_then_exit ?_
     refine k_blk_out rfl ?_
     refine k_then_exit ?_
     refine k_blk_out rfl ?_
     refine k_then_exit ?_
     refine k_blk_out rfl ?_
     refine k_then_exit ?_
     refine k_blk_out rfl ?_
     refine k_then_exit ?_
     refine k_blk_here ?_
     refine k_then_n ?_
     refine c_seq ?_
     refine c_plain (.q 0 (.q 1 (.q 2 (.q 3 (.q 4 (.done)))))) (by kernel_rfl) ?_
     refine q_field (k := 2) rfl rfl rfl rfl Try.underlying40 rfl Try.sizeOf3 rfl ?_
     refine q_load_c (j := 2) rfl rfl rfl rfl Try.isAgg3 (by with_reducible (repeat (first | exact Z0 | apply Z1))) (by first | rfl | exact (Nat.add_zero _).symm) (by rfl) ?_
     refine q_move rfl rfl rfl rfl ?_
     refine q_int rfl rfl rfl rfl rfl (b_lss _ _ _ _) ?_
     refine q_assign rfl rfl rfl rfl ?_
     refine r_done ?_
     refine s_keep [4] (e' := [(4, _)]) rfl ?_
     refine k_then_n ?_
     refine c_ret ?_
     refine ck_fold (b := b) x (pa := pa) (pc := pc) (m1 := m1) (m2 := m2) (oa := oa) (oc := oc) (by (repeat ((with_reducible apply Z2); focus (first | (with_reducible (repeat (first | exact Z0 | apply Z1)); done) | (repeat (first | exact Z0 | apply Z1))))); exact Z3) (by rfl) (by rfl) (hR) ?_
     refine ret1 rfl rfl (()) (by congr 1; rw [decide_eq_decide, can_run h1.1 h1.2, okK_k.1 (.inr k2)]; try rfl) (by trivial) ?_
     (repeat ((with_reducible apply Z2); focus (first | (with_reducible (repeat (first | exact Z0 | apply Z1)); done) | (repeat (first | exact Z0 | apply Z1))))); (repeat (first | exact Z3 | exact Takes.self | refine takes_drop2 ?_))
    ·
     refine c_skip ?_
     refine k_then_n ?_
     refine c_seq ?_
     refine c_seq ?_
     refine c_plain (.q 0 (.q 1 (.done))) (by kernel_rfl) ?_
     refine q_int rfl rfl rfl rfl rfl (b_eql _ _ _ _) ?_
     refine q_assign rfl rfl rfl rfl ?_
     refine r_done ?_
     refine s_keep [0, 3, 6, 7, 8, 9, 64, 67] (e' := [(0, _), (3, _), (6, _), (7, _), (8, _), (9, _), (64, _), (67, _)]) rfl ?_
     refine k_then_n ?_
     refine c_cond_p rfl (fun k1 => ?_) (fun k1 => ?_)
     ·
      refine c_exit ?_
      refine k_then_exit ?_
      refine k_then_exit ?_
      refine k_blk_out rfl ?_
      refine k_blk_here ?_
      refine k_then_n ?_
      refine c_seq ?_
      refine c_plain (.q 0 (.q 1 (.q 2 (.q 3 (.q 4 (.q 5 (.done))))))) (by kernel_rfl) ?_
      refine q_move rfl rfl rfl rfl ?_
      refine q_nil_p rfl rfl rfl rfl ?_
      refine q_field (k := 0) rfl rfl rfl rfl Try.underlying129 rfl Try.sizeOf24 rfl ?_
      refine q_field (k := 1) rfl rfl rfl rfl Try.underlying24 rfl Try.sizeOf3 rfl ?_
      refine q_load_c (j := 1) rfl rfl rfl rfl Try.isAgg3 (by with_reducible (repeat (first | exact Z0 | apply Z1))) (by first | rfl | exact (Nat.add_zero _).symm) (by rfl) ?_
      refine q_assign rfl rfl rfl rfl ?_
      refine r_done ?_
      refine s_keep [3, 9] (e' := [(3, _), (9, _)]) rfl ?_
      refine k_then_n ?_
      refine c_exit ?_
      refine k_blk_out rfl ?_
      refine k_blk_out rfl ?_
      refine k_then_exit ?_
      refine k_blk_out rfl ?_
      refine k_then_exit ?_
      refine k_blk_out rfl ?_
      refine k_then_exit ?_
      refine k_blk_out rfl ?_
      refine k_then_exit ?_
      refine k_blk_out rfl ?_
      refine k_then_exit ?_
      refine k_blk_out rfl ?_
      refine k_then_exit ?_
      refine k_blk_out rfl ?_
      refine k_then_exit ?_
      refine k_blk_here ?_
      refine k_then_n ?_
      refine c_seq ?_
      refine c_plain (.q 0 (.q 1 (.q 2 (.q 3 (.q 4 (.done)))))) (by kernel_rfl) ?_
      refine q_field (k := 2) rfl rfl rfl rfl Try.underlying40 rfl Try.sizeOf3 rfl ?_
      refine q_load_c (j := 2) rfl rfl rfl rfl Try.isAgg3 (by with_reducible (repeat (first | exact Z0 | apply Z1))) (by first | rfl | exact (Nat.add_zero _).symm) (by rfl) ?_
      refine q_move rfl rfl rfl rfl ?_
      refine q_int rfl rfl rfl rfl rfl (b_lss _ _ _ _) ?_
      refine q_assign rfl rfl rfl rfl ?_
      refine r_done ?_
      refine s_keep [4] (e' := [(4, _)]) rfl ?_
      refine k_then_n ?_
      refine c_ret ?_
      refine ck_fold (b := b) x (pa := pa) (pc := pc) (m1 := m1) (m2 := m2) (oa := oa) (oc := oc) (by (repeat ((with_reducible apply Z2); focus (first | (with_reducible (repeat (first | exact Z0 | apply Z1)); done) | (repeat (first | exact Z0 | apply Z1))))); exact Z3) (by rfl) (by rfl) (hR) ?_
      refine ret1 rfl rfl (()) (by congr 1; rw [decide_eq_decide, can_run h1.1 h1.2, okK_k.1 (.inl k1)]; try rfl) (by trivial) ?_
      (repeat ((with_reducible apply Z2); focus (first | (with_reducible (repeat (first | exact Z0 | apply Z1)); done) | (repeat (first | exact Z0 | apply Z1))))); (repeat (first | exact Z3 | exact Takes.self | refine takes_drop2 ?_))
     ·
      refine c_skip ?_
      refine k_then_n ?_
      refine c_seq ?_
      refine c_seq ?_
      refine c_plain (.q 0 (.q 1 (.done))) (by kernel_rfl) ?_
      refine q_int rfl rfl rfl rfl rfl (b_eql _ _ _ _) ?_
      refine q_assign rfl rfl rfl rfl ?_
      refine r_done ?_
      refine k_then_n ?_
      refine c_cond_p rfl (fun k4 => ?_) (fun k4 => ?_)
      ·
       refine c_exit ?_
       refine k_then_exit ?_
       refine k_then_exit ?_
       refine k_blk_out rfl ?_
       refine k_blk_out rfl ?_
       refine k_then_exit ?_
       refine k_blk_here ?_
       refine k_blk_n ?_
       refine k_then_n ?_
       refine c_seq ?_
       refine c_plain (.q 0 (.q 1 (.q 2 (.q 3 (.q 4 (.q 5 (.done))))))) (by kernel_rfl) ?_
       refine q_move rfl rfl rfl rfl ?_
       refine q_nil_p rfl rfl rfl rfl ?_
       refine q_field (k := 0) rfl rfl rfl rfl Try.underlying129 rfl Try.sizeOf24 rfl ?_
       refine q_field (k := 2) rfl rfl rfl rfl Try.underlying24 rfl Try.sizeOf3 rfl ?_
       refine q_load_c (j := 2) rfl rfl rfl rfl Try.isAgg3 (by with_reducible (repeat (first | exact Z0 | apply Z1))) (by first | rfl | exact (Nat.add_zero _).symm) (by rfl) ?_
       refine q_assign rfl rfl rfl rfl ?_
       refine r_done ?_
       refine s_keep [3, 9] (e' := [(3, _), (9, _)]) rfl ?_
       refine k_then_n ?_
       refine c_exit ?_
       refine k_blk_out rfl ?_
       refine k_then_exit ?_
       refine k_blk_out rfl ?_
       refine k_then_exit ?_
       refine k_blk_out rfl ?_
       refine k_then_exit ?_
       refine k_blk_out rfl ?_
       refine k_then_exit ?_
       refine k_blk_out rfl ?_
       refine k_then_exit ?_
       refine k_blk_out rfl ?_
       refine k_then_exit ?_
       refine k_blk_here ?_
       refine k_then_n ?_
       refine c_seq ?_
       refine c_plain (.q 0 (.q 1 (.q 2 (.q 3 (.q 4 (.done)))))) (by kernel_rfl) ?_
       refine q_field (k := 2) rfl rfl rfl rfl Try.underlying40 rfl Try.sizeOf3 rfl ?_
       refine q_load_c (j := 2) rfl rfl rfl rfl Try.isAgg3 (by with_reducible (repeat (first | exact Z0 | apply Z1))) (by first | rfl | exact (Nat.add_zero _).symm) (by rfl) ?_
       refine q_move rfl rfl rfl rfl ?_
       refine q_int rfl rfl rfl rfl rfl (b_lss _ _ _ _) ?_
       refine q_assign rfl rfl rfl rfl ?_
       refine r_done ?_
       refine s_keep [4] (e' := [(4, _)]) rfl ?_
       refine k_then_n ?_
       refine c_ret ?_
       refine ck_fold (b := b) x (pa := pa) (pc := pc) (m1 := m1) (m2 := m2) (oa := oa) (oc := oc) (by (repeat ((with_reducible apply Z2); focus (first | (with_reducible (repeat (first | exact Z0 | apply Z1)); done) | (repeat (first | exact Z0 | apply Z1))))); exact Z3) (by rfl) (by rfl) (hR) ?_
       refine ret1 rfl rfl (()) (by congr 1; rw [decide_eq_decide, can_run h1.1 h1.2, okK_k.2.1 (.inr k4)]; try rfl) (by trivial) ?_
       (repeat ((with_reducible apply Z2); focus (first | (with_reducible (repeat (first | exact Z0 | apply Z1)); done) | (repeat (first | exact Z0 | apply Z1))))); (repeat (first | exact Z3 | exact Takes.self | refine takes_drop2 ?_))
      ·
       refine c_skip ?_
       refine k_then_n ?_
       refine c_seq ?_
       refine c_seq ?_
       refine c_plain (.q 0 (.q 1 (.done))) (by kernel_rfl) ?_
       refine q_int rfl rfl rfl rfl rfl (b_eql _ _ _ _) ?_
       refine q_assign rfl rfl rfl rfl ?_
       refine r_done ?_
       refine s_keep [0, 3, 6, 7, 8, 9, 64, 71] (e' := [(0, _), (3, _), (6, _), (7, _), (8, _), (9, _), (64, _), (71, _)]) rfl ?_
       refine k_then_n ?_
       refine c_cond_p rfl (fun k3 => ?_) (fun k3 => ?_)
       ·
        refine c_exit ?_
        refine k_then_exit ?_
        refine k_then_exit ?_
        refine k_blk_out rfl ?_
        refine k_blk_out rfl ?_
        refine k_then_exit ?_
        refine k_blk_out rfl ?_
        refine k_blk_here ?_
        refine k_then_n ?_
        refine c_seq ?_
        refine c_plain (.q 0 (.q 1 (.q 2 (.q 3 (.q 4 (.q 5 (.done))))))) (by kernel_rfl) ?_
        refine q_move rfl rfl rfl rfl ?_
        refine q_nil_p rfl rfl rfl rfl ?_
        refine q_field (k := 0) rfl rfl rfl rfl Try.underlying129 rfl Try.sizeOf24 rfl ?_
        refine q_field (k := 2) rfl rfl rfl rfl Try.underlying24 rfl Try.sizeOf3 rfl ?_
        refine q_load_c (j := 2) rfl rfl rfl rfl Try.isAgg3 (by with_reducible (repeat (first | exact Z0 | apply Z1))) (by first | rfl | exact (Nat.add_zero _).symm) (by rfl) ?_
        refine q_assign rfl rfl rfl rfl ?_
        refine r_done ?_
        refine s_keep [3, 9] (e' := [(3, _), (9, _)]) rfl ?_
        refine k_then_n ?_
        refine c_exit ?_
        refine k_blk_out rfl ?_
        refine k_then_exit ?_
        refine k_blk_out rfl ?_
        refine k_then_exit ?_
        refine k_blk_out rfl ?_
        refine k_then_exit ?_
        refine k_blk_out rfl ?_
        refine k_then_exit ?_
        refine k_blk_out rfl ?_
        refine k_then_exit ?_
        refine k_blk_out rfl ?_
        refine k_then_exit ?_
        refine k_blk_here ?_
        refine k_then_n ?_
        refine c_seq ?_
        refine c_plain (.q 0 (.q 1 (.q 2 (.q 3 (.q 4 (.done)))))) (by kernel_rfl) ?_
        refine q_field (k := 2) rfl rfl rfl rfl Try.underlying40 rfl Try.sizeOf3 rfl ?_
        refine q_load_c (j := 2) rfl rfl rfl rfl Try.isAgg3 (by with_reducible (repeat (first | exact Z0 | apply Z1))) (by first | rfl | exact (Nat.add_zero _).symm) (by rfl) ?_
        refine q_move rfl rfl rfl rfl ?_
        refine q_int rfl rfl rfl rfl rfl (b_lss _ _ _ _) ?_
        refine q_assign rfl rfl rfl rfl ?_
        refine r_done ?_
        refine s_keep [4] (e' := [(4, _)]) rfl ?_
        refine k_then_n ?_
        refine c_ret ?_
        refine ck_fold (b := b) x (pa := pa) (pc := pc) (m1 := m1) (m2 := m2) (oa := oa) (oc := oc) (by (repeat ((with_reducible apply Z2); focus (first | (with_reducible (repeat (first | exact Z0 | apply Z1)); done) | (repeat (first | exact Z0 | apply Z1))))); exact Z3) (by rfl) (by rfl) (hR) ?_
        refine ret1 rfl rfl (()) (by congr 1; rw [decide_eq_decide, can_run h1.1 h1.2, okK_k.2.1 (.inl k3)]; try rfl) (by trivial) ?_
        (repeat ((with_reducible apply Z2); focus (first | (with_reducible (repeat (first | exact Z0 | apply Z1)); done) | (repeat (first | exact Z0 | apply Z1))))); (repeat (first | exact Z3 | exact Takes.self | refine takes_drop2 ?_))
       ·
        refine c_skip ?_
        refine k_then_n ?_
        refine c_seq ?_
        refine c_seq ?_
        refine c_plain (.q 0 (.q 1 (.done))) (by kernel_rfl) ?_
        refine q_int rfl rfl rfl rfl rfl (b_eql _ _ _ _) ?_
        refine q_assign rfl rfl rfl rfl ?_
        refine r_done ?_
        refine k_then_n ?_
        refine c_cond_p rfl (fun k6 => ?_) (fun k6 => ?_)
        ·
         refine c_exit ?_
         refine k_then_exit ?_
         refine k_then_exit ?_
         refine k_blk_out rfl ?_
         refine k_blk_out rfl ?_
         refine k_then_exit ?_
         refine k_blk_out rfl ?_
         refine k_blk_out rfl ?_
         refine k_then_exit ?_
         refine k_blk_here ?_
         refine k_then_n ?_
         refine c_seq ?_
         refine c_seq ?_
         refine c_seq ?_
         refine c_plain (.q 0 (.q 1 (.q 2 (.q 3 (.q 4 (.q 5 (.q 6 (.q 7 (.done))))))))) (by kernel_rfl) ?_
         refine q_move rfl rfl rfl rfl ?_
         refine q_not rfl rfl rfl rfl ?_
         refine q_move rfl rfl rfl rfl ?_
         refine s_bool 97 rfl (fun hh => ?_) (fun hh => ?_)
         ·
          try simp only [Bool.and_eq_true, Bool.or_eq_true, Bool.not_eq_true', Bool.not_eq_false', Bool.and_eq_false_iff, Bool.or_eq_false_iff, decide_eq_true_eq, decide_eq_false_iff_not] at hh
          have hw : owF x o = none := by simpa using hh
          refine q_skip rfl rfl rfl rfl ?_
          refine q_skip rfl rfl rfl rfl ?_
          refine q_skip rfl rfl rfl rfl ?_
          refine q_skip rfl rfl rfl rfl ?_
          refine q_pick_t rfl rfl rfl rfl rfl ?_
          refine r_done ?_
          refine s_keep [0, 3, 102] (e' := [(0, _), (3, _), (102, _)]) rfl ?_
          refine k_then_n ?_
          refine c_cond_t rfl ?_
          refine c_seq ?_
          refine c_plain (.q 0 (.done)) (by kernel_rfl) ?_
          refine q_assign rfl rfl rfl rfl ?_
          refine r_done ?_
          refine k_then_n ?_
          refine c_ret ?_
          refine k_then_ret ?_
          refine k_then_ret ?_
          refine k_blk_ret ?_
          refine k_then_ret ?_
          refine k_blk_ret ?_
          refine k_then_ret ?_
          refine k_blk_ret ?_
          refine k_then_ret ?_
          refine k_blk_ret ?_
          refine k_then_ret ?_
          refine k_blk_ret ?_
          refine k_then_ret ?_
          refine k_blk_ret ?_
          refine k_then_ret ?_
          refine ck_fold (b := b) x (pa := pa) (pc := pc) (m1 := m1) (m2 := m2) (oa := oa) (oc := oc) (by (repeat ((with_reducible apply Z2); focus (first | (with_reducible (repeat (first | exact Z0 | apply Z1)); done) | (repeat (first | exact Z0 | apply Z1))))); exact Z3) (by rfl) (by rfl) (hR) ?_
          refine ret1 rfl rfl (()) (by congr 1; symm; rw [decide_eq_false_iff_not, can_run h1.1 h1.2, okK_k.2.2.2.1 (k6)]; rw [hw]; rintro ⟨-, h⟩; cases h) (by trivial) ?_
          (repeat ((with_reducible apply Z2); focus (first | (with_reducible (repeat (first | exact Z0 | apply Z1)); done) | (repeat (first | exact Z0 | apply Z1))))); (repeat (first | exact Z3 | exact Takes.self | refine takes_drop2 ?_))
         ·
          try simp only [Bool.and_eq_true, Bool.or_eq_true, Bool.not_eq_true', Bool.not_eq_false', Bool.and_eq_false_iff, Bool.or_eq_false_iff, decide_eq_true_eq, decide_eq_false_iff_not] at hh
          obtain ⟨v, hw⟩ : ∃ v, owF x o = some v := Option.isSome_iff_exists.1 (by simpa using hh)
          refine q_move rfl rfl rfl rfl ?_
          refine q_field (k := 1) rfl rfl rfl rfl Try.underlying40 rfl Try.sizeOf3 rfl ?_
          refine q_load_c (j := 1) rfl rfl rfl rfl Try.isAgg3 (by with_reducible (repeat (first | exact Z0 | apply Z1))) (by first | rfl | exact (Nat.add_zero _).symm) (by rfl) ?_
          refine q_int rfl rfl rfl rfl rfl (b_neq _ _ _ _) ?_
          refine q_pick_f rfl rfl rfl rfl rfl ?_
          refine r_done ?_
          refine s_keep [0, 3, 102] (e' := [(0, _), (3, _), (102, _)]) rfl ?_
          refine k_then_n ?_
          refine c_cond_p rfl (fun hv => ?_) (fun hv => ?_)
          ·
           refine c_seq ?_
           refine c_plain (.q 0 (.done)) (by kernel_rfl) ?_
           refine q_assign rfl rfl rfl rfl ?_
           refine r_done ?_
           refine k_then_n ?_
           refine c_ret ?_
           refine k_then_ret ?_
           refine k_then_ret ?_
           refine k_blk_ret ?_
           refine k_then_ret ?_
           refine k_blk_ret ?_
           refine k_then_ret ?_
           refine k_blk_ret ?_
           refine k_then_ret ?_
           refine k_blk_ret ?_
           refine k_then_ret ?_
           refine k_blk_ret ?_
           refine k_then_ret ?_
           refine k_blk_ret ?_
           refine k_then_ret ?_
           refine ck_fold (b := b) x (pa := pa) (pc := pc) (m1 := m1) (m2 := m2) (oa := oa) (oc := oc) (by (repeat ((with_reducible apply Z2); focus (first | (with_reducible (repeat (first | exact Z0 | apply Z1)); done) | (repeat (first | exact Z0 | apply Z1))))); exact Z3) (by rfl) (by rfl) (hR) ?_
           refine ret1 rfl rfl (()) (by congr 1; symm; rw [decide_eq_false_iff_not, can_run h1.1 h1.2, okK_k.2.2.2.1 (k6)]; rw [hw] at hv ⊢; rintro ⟨-, h⟩; cases h; exact hv rfl) (by trivial) ?_
           (repeat ((with_reducible apply Z2); focus (first | (with_reducible (repeat (first | exact Z0 | apply Z1)); done) | (repeat (first | exact Z0 | apply Z1))))); (repeat (first | exact Z3 | exact Takes.self | refine takes_drop2 ?_))
          ·
           refine c_skip ?_
           refine k_then_n ?_
           refine c_plain (.q 0 (.q 1 (.q 2 (.q 3 (.q 4 (.q 5 (.done))))))) (by kernel_rfl) ?_
           refine q_move rfl rfl rfl rfl ?_
           refine q_nil_p rfl rfl rfl rfl ?_
           refine q_field (k := 0) rfl rfl rfl rfl Try.underlying129 rfl Try.sizeOf24 rfl ?_
           refine q_field (k := 3) rfl rfl rfl rfl Try.underlying24 rfl Try.sizeOf3 rfl ?_
           refine q_load_c (j := 3) rfl rfl rfl rfl Try.isAgg3 (by with_reducible (repeat (first | exact Z0 | apply Z1))) (by first | rfl | exact (Nat.add_zero _).symm) (by rfl) ?_
           refine q_assign rfl rfl rfl rfl ?_
           refine r_done ?_
           refine s_keep [3, 9] (e' := [(3, _), (9, _)]) rfl ?_
           refine k_then_n ?_
           refine c_exit ?_
           refine k_blk_out rfl ?_
           refine k_then_exit ?_
           refine k_blk_out rfl ?_
           refine k_then_exit ?_
           refine k_blk_out rfl ?_
           refine k_then_exit ?_
           refine k_blk_out rfl ?_
           refine k_then_exit ?_
           refine k_blk_out rfl ?_
           refine k_then_exit ?_
           refine k_blk_here ?_
           refine k_then_n ?_
           refine c_seq ?_
           refine c_plain (.q 0 (.q 1 (.q 2 (.q 3 (.q 4 (.done)))))) (by kernel_rfl) ?_
           refine q_field (k := 2) rfl rfl rfl rfl Try.underlying40 rfl Try.sizeOf3 rfl ?_
           refine q_load_c (j := 2) rfl rfl rfl rfl Try.isAgg3 (by with_reducible (repeat (first | exact Z0 | apply Z1))) (by first | rfl | exact (Nat.add_zero _).symm) (by rfl) ?_
           refine q_move rfl rfl rfl rfl ?_
           refine q_int rfl rfl rfl rfl rfl (b_lss _ _ _ _) ?_
           refine q_assign rfl rfl rfl rfl ?_
           refine r_done ?_
           refine s_keep [4] (e' := [(4, _)]) rfl ?_
           refine k_then_n ?_
           refine c_ret ?_
           refine ck_fold (b := b) x (pa := pa) (pc := pc) (m1 := m1) (m2 := m2) (oa := oa) (oc := oc) (by (repeat ((with_reducible apply Z2); focus (first | (with_reducible (repeat (first | exact Z0 | apply Z1)); done) | (repeat (first | exact Z0 | apply Z1))))); exact Z3) (by rfl) (by rfl) (hR) ?_
           refine ret1 rfl rfl (()) (by congr 1; rw [decide_eq_decide, can_run h1.1 h1.2, okK_k.2.2.2.1 (k6)]; rw [hw] at hv ⊢; have hv2 : v = t := Classical.byContradiction hv; exact ⟨fun h => ⟨h, by rw [hv2]⟩, fun h => h.1⟩) (by trivial) ?_
           (repeat ((with_reducible apply Z2); focus (first | (with_reducible (repeat (first | exact Z0 | apply Z1)); done) | (repeat (first | exact Z0 | apply Z1))))); (repeat (first | exact Z3 | exact Takes.self | refine takes_drop2 ?_))
        ·
         refine c_skip ?_
         refine k_then_n ?_
         refine c_seq ?_
         refine c_seq ?_
         refine c_plain (.q 0 (.q 1 (.done))) (by kernel_rfl) ?_
         refine q_int rfl rfl rfl rfl rfl (b_eql _ _ _ _) ?_
         refine q_assign rfl rfl rfl rfl ?_
         refine r_done ?_
         refine s_keep [0, 3, 7, 8, 9, 64, 75] (e' := [(0, _), (3, _), (7, _), (8, _), (9, _), (64, _), (75, _)]) rfl ?_
         refine k_then_n ?_
         refine c_cond_p rfl (fun k5 => ?_) (fun k5 => ?_)
         ·
          refine c_exit ?_
          refine k_then_exit ?_
          refine k_then_exit ?_
          refine k_blk_out rfl ?_
          refine k_blk_out rfl ?_
          refine k_then_exit ?_
          refine k_blk_out rfl ?_
          refine k_blk_out rfl ?_
          refine k_then_exit ?_
          refine k_blk_out rfl ?_
          refine k_then_exit ?_
          refine k_blk_here ?_
          refine k_then_n ?_
          refine c_seq ?_
          refine c_seq ?_
          refine c_seq ?_
          refine c_plain (.q 0 (.done)) (by kernel_rfl) ?_
          refine q_move rfl rfl rfl rfl ?_
          refine r_done ?_
          refine s_keep [0, 3, 108] (e' := [(0, _), (3, _), (108, _)]) rfl ?_
          refine k_then_n ?_
          refine c_cond rfl (fun hh => ?_) (fun hh => ?_)
          ·
           try simp only [Bool.and_eq_true, Bool.or_eq_true, Bool.not_eq_true', Bool.not_eq_false', Bool.and_eq_false_iff, Bool.or_eq_false_iff, decide_eq_true_eq, decide_eq_false_iff_not] at hh
           obtain ⟨v, hw⟩ : ∃ v, owF x o = some v := Option.isSome_iff_exists.1 (by simpa using hh)
           refine c_seq ?_
           refine c_plain (.q 0 (.done)) (by kernel_rfl) ?_
           refine q_assign rfl rfl rfl rfl ?_
           refine r_done ?_
           refine k_then_n ?_
           refine c_ret ?_
           refine k_then_ret ?_
           refine k_then_ret ?_
           refine k_blk_ret ?_
           refine k_then_ret ?_
           refine k_blk_ret ?_
           refine k_then_ret ?_
           refine k_blk_ret ?_
           refine k_then_ret ?_
           refine k_blk_ret ?_
           refine k_then_ret ?_
           refine k_blk_ret ?_
           refine k_then_ret ?_
           refine ck_fold (b := b) x (pa := pa) (pc := pc) (m1 := m1) (m2 := m2) (oa := oa) (oc := oc) (by (repeat ((with_reducible apply Z2); focus (first | (with_reducible (repeat (first | exact Z0 | apply Z1)); done) | (repeat (first | exact Z0 | apply Z1))))); exact Z3) (by rfl) (by rfl) (hR) ?_
           refine ret1 rfl rfl (()) (by congr 1; symm; rw [decide_eq_false_iff_not, can_run h1.1 h1.2, okK_k.2.2.1 (k5)]; rw [hw]; rintro ⟨-, h⟩; cases h) (by trivial) ?_
           (repeat ((with_reducible apply Z2); focus (first | (with_reducible (repeat (first | exact Z0 | apply Z1)); done) | (repeat (first | exact Z0 | apply Z1))))); (repeat (first | exact Z3 | exact Takes.self | refine takes_drop2 ?_))
          ·
           try simp only [Bool.and_eq_true, Bool.or_eq_true, Bool.not_eq_true', Bool.not_eq_false', Bool.and_eq_false_iff, Bool.or_eq_false_iff, decide_eq_true_eq, decide_eq_false_iff_not] at hh
           have hw : owF x o = none := by simpa using hh
           refine c_skip ?_
           refine k_then_n ?_
           refine c_plain (.q 0 (.q 1 (.q 2 (.q 3 (.q 4 (.q 5 (.done))))))) (by kernel_rfl) ?_
           refine q_move rfl rfl rfl rfl ?_
           refine q_nil_p rfl rfl rfl rfl ?_
           refine q_field (k := 0) rfl rfl rfl rfl Try.underlying129 rfl Try.sizeOf24 rfl ?_
           refine q_field (k := 3) rfl rfl rfl rfl Try.underlying24 rfl Try.sizeOf3 rfl ?_
           refine q_load_c (j := 3) rfl rfl rfl rfl Try.isAgg3 (by with_reducible (repeat (first | exact Z0 | apply Z1))) (by first | rfl | exact (Nat.add_zero _).symm) (by rfl) ?_
           refine q_assign rfl rfl rfl rfl ?_
           refine r_done ?_
           refine s_keep [3, 9] (e' := [(3, _), (9, _)]) rfl ?_
           refine k_then_n ?_
           refine c_exit ?_
           refine k_blk_out rfl ?_
           refine k_then_exit ?_
           refine k_blk_out rfl ?_
           refine k_then_exit ?_
           refine k_blk_out rfl ?_
           refine k_then_exit ?_
           refine k_blk_out rfl ?_
           refine k_then_exit ?_
           refine k_blk_here ?_
           refine k_then_n ?_
           refine c_seq ?_
           refine c_plain (.q 0 (.q 1 (.q 2 (.q 3 (.q 4 (.done)))))) (by kernel_rfl) ?_
           refine q_field (k := 2) rfl rfl rfl rfl Try.underlying40 rfl Try.sizeOf3 rfl ?_
           refine q_load_c (j := 2) rfl rfl rfl rfl Try.isAgg3 (by with_reducible (repeat (first | exact Z0 | apply Z1))) (by first | rfl | exact (Nat.add_zero _).symm) (by rfl) ?_
           refine q_move rfl rfl rfl rfl ?_
           refine q_int rfl rfl rfl rfl rfl (b_lss _ _ _ _) ?_
           refine q_assign rfl rfl rfl rfl ?_
           refine r_done ?_
           refine s_keep [4] (e' := [(4, _)]) rfl ?_
           refine k_then_n ?_
           refine c_ret ?_
           refine ck_fold (b := b) x (pa := pa) (pc := pc) (m1 := m1) (m2 := m2) (oa := oa) (oc := oc) (by (repeat ((with_reducible apply Z2); focus (first | (with_reducible (repeat (first | exact Z0 | apply Z1)); done) | (repeat (first | exact Z0 | apply Z1))))); exact Z3) (by rfl) (by rfl) (hR) ?_
           refine ret1 rfl rfl (()) (by congr 1; rw [decide_eq_decide, can_run h1.1 h1.2, okK_k.2.2.1 (k5)]; exact ⟨fun h => ⟨h, hw⟩, fun h => h.1⟩) (by trivial) ?_
           (repeat ((with_reducible apply Z2); focus (first | (with_reducible (repeat (first | exact Z0 | apply Z1)); done) | (repeat (first | exact Z0 | apply Z1))))); (repeat (first | exact Z3 | exact Takes.self | refine takes_drop2 ?_))
         ·
          refine c_skip ?_
          refine k_then_n ?_
          refine c_seq ?_
          refine c_seq ?_
          refine c_plain (.q 0 (.q 1 (.done))) (by kernel_rfl) ?_
          refine q_int rfl rfl rfl rfl rfl (b_eql _ _ _ _) ?_
          refine q_assign rfl rfl rfl rfl ?_
          refine r_done ?_
          refine k_then_n ?_
          refine c_cond_p rfl (fun k7 => ?_) (fun k7 => ?_)
          ·
           refine c_exit ?_
           refine k_then_exit ?_
           refine k_then_exit ?_
           refine k_blk_out rfl ?_
           refine k_blk_out rfl ?_
           refine k_then_exit ?_
           refine k_blk_out rfl ?_
           refine k_blk_out rfl ?_
           refine k_then_exit ?_
           refine k_blk_out rfl ?_
           refine k_then_exit ?_
           refine k_blk_out rfl ?_
           refine k_then_exit ?_
           refine k_blk_here ?_
           refine k_then_n ?_
           refine c_seq ?_
           refine c_seq ?_
           refine c_seq ?_
           refine c_plain (.q 0 (.q 1 (.q 2 (.done)))) (by kernel_rfl) ?_
           refine q_field (k := 0) rfl rfl rfl rfl Try.underlying79 rfl Try.sizeOf77 rfl ?_
           refine q_load_c (j := 0) rfl rfl rfl rfl Try.isAgg77 (by with_reducible (repeat (first | exact Z0 | apply Z1))) (by first | rfl | exact (Nat.add_zero _).symm) (by rfl) ?_
           refine q_int rfl rfl rfl rfl rfl (b_neq _ _ _ _) ?_
           refine r_done ?_
           refine s_keep [0, 3, 116] (e' := [(0, _), (3, _), (116, _)]) rfl ?_
           refine k_then_n ?_
           refine c_cond_p rfl (fun hp => ?_) (fun hp => ?_)
           ·
            refine c_seq ?_
            refine c_plain (.q 0 (.done)) (by kernel_rfl) ?_
            refine q_assign rfl rfl rfl rfl ?_
            refine r_done ?_
            refine k_then_n ?_
            refine c_ret ?_
            refine k_then_ret ?_
            refine k_then_ret ?_
            refine k_blk_ret ?_
            refine k_then_ret ?_
            refine k_blk_ret ?_
            refine k_then_ret ?_
            refine k_blk_ret ?_
            refine k_then_ret ?_
            refine k_blk_ret ?_
            refine k_then_ret ?_
            refine ck_fold (b := b) x (pa := pa) (pc := pc) (m1 := m1) (m2 := m2) (oa := oa) (oc := oc) (by (repeat ((with_reducible apply Z2); focus (first | (with_reducible (repeat (first | exact Z0 | apply Z1)); done) | (repeat (first | exact Z0 | apply Z1))))); exact Z3) (by rfl) (by rfl) (hR) ?_
            refine ret1 rfl rfl (()) (by congr 1; symm; rw [decide_eq_false_iff_not, can_run h1.1 h1.2, okK_k.2.2.2.2.1 (k7)]; rintro ⟨-, h⟩; exact hp h) (by trivial) ?_
            (repeat ((with_reducible apply Z2); focus (first | (with_reducible (repeat (first | exact Z0 | apply Z1)); done) | (repeat (first | exact Z0 | apply Z1))))); (repeat (first | exact Z3 | exact Takes.self | refine takes_drop2 ?_))
           ·
            refine c_skip ?_
            refine k_then_n ?_
            refine c_plain (.q 0 (.q 1 (.q 2 (.q 3 (.q 4 (.q 5 (.done))))))) (by kernel_rfl) ?_
            refine q_move rfl rfl rfl rfl ?_
            refine q_nil_p rfl rfl rfl rfl ?_
            refine q_field (k := 0) rfl rfl rfl rfl Try.underlying129 rfl Try.sizeOf24 rfl ?_
            refine q_field (k := 0) rfl rfl rfl rfl Try.underlying24 rfl Try.sizeOf3 rfl ?_
            refine q_load_c (j := 0) rfl rfl rfl rfl Try.isAgg3 (by with_reducible (repeat (first | exact Z0 | apply Z1))) (by first | rfl | exact (Nat.add_zero _).symm) (by rfl) ?_
            refine q_assign rfl rfl rfl rfl ?_
            refine r_done ?_
            refine s_keep [3, 9] (e' := [(3, _), (9, _)]) rfl ?_
            refine k_then_n ?_
            refine c_exit ?_
            refine k_blk_out rfl ?_
            refine k_then_exit ?_
            refine k_blk_out rfl ?_
            refine k_then_exit ?_
            refine k_blk_out rfl ?_
            refine k_then_exit ?_
            refine k_blk_here ?_
            refine k_then_n ?_
            refine c_seq ?_
            refine c_plain (.q 0 (.q 1 (.q 2 (.q 3 (.q 4 (.done)))))) (by kernel_rfl) ?_
            refine q_field (k := 2) rfl rfl rfl rfl Try.underlying40 rfl Try.sizeOf3 rfl ?_
            refine q_load_c (j := 2) rfl rfl rfl rfl Try.isAgg3 (by with_reducible (repeat (first | exact Z0 | apply Z1))) (by first | rfl | exact (Nat.add_zero _).symm) (by rfl) ?_
            refine q_move rfl rfl rfl rfl ?_
            refine q_int rfl rfl rfl rfl rfl (b_lss _ _ _ _) ?_
            refine q_assign rfl rfl rfl rfl ?_
            refine r_done ?_
            refine s_keep [4] (e' := [(4, _)]) rfl ?_
            refine k_then_n ?_
            refine c_ret ?_
            refine ck_fold (b := b) x (pa := pa) (pc := pc) (m1 := m1) (m2 := m2) (oa := oa) (oc := oc) (by (repeat ((with_reducible apply Z2); focus (first | (with_reducible (repeat (first | exact Z0 | apply Z1)); done) | (repeat (first | exact Z0 | apply Z1))))); exact Z3) (by rfl) (by rfl) (hR) ?_
            refine ret1 rfl rfl (()) (by congr 1; rw [decide_eq_decide, can_run h1.1 h1.2, okK_k.2.2.2.2.1 (k7)]; exact ⟨fun h => ⟨h, Classical.byContradiction hp⟩, fun h => h.1⟩) (by trivial) ?_
            (repeat ((with_reducible apply Z2); focus (first | (with_reducible (repeat (first | exact Z0 | apply Z1)); done) | (repeat (first | exact Z0 | apply Z1))))); (repeat (first | exact Z3 | exact Takes.self | refine takes_drop2 ?_))
          ·
           refine c_skip ?_
           refine k_then_n ?_
           refine c_seq ?_
           refine c_seq ?_
           refine c_plain (.q 0 (.q 1 (.done))) (by kernel_rfl) ?_
           refine q_int rfl rfl rfl rfl rfl (b_eql _ _ _ _) ?_
           refine q_assign rfl rfl rfl rfl ?_
           refine r_done ?_
           refine s_keep [0, 3, 8, 9, 64, 79] (e' := [(0, _), (3, _), (8, _), (9, _), (64, _), (79, _)]) rfl ?_
           refine k_then_n ?_
           refine c_cond_p rfl (fun k8 => ?_) (fun k8 => ?_)
           ·
            refine c_exit ?_
            refine k_then_exit ?_
            refine k_then_exit ?_
            refine k_blk_out rfl ?_
            refine k_blk_out rfl ?_
            refine k_then_exit ?_
            refine k_blk_out rfl ?_
            refine k_blk_out rfl ?_
            refine k_then_exit ?_
            refine k_blk_out rfl ?_
            refine k_then_exit ?_
            refine k_blk_out rfl ?_
            refine k_then_exit ?_
            refine k_blk_out rfl ?_
            refine k_then_exit ?_
            refine k_blk_here ?_
            refine k_then_n ?_
            refine c_seq ?_
            refine c_seq ?_
            refine c_seq ?_
            refine c_plain (.q 0 (.q 1 (.q 2 (.done)))) (by kernel_rfl) ?_
            refine q_field (k := 0) rfl rfl rfl rfl Try.underlying79 rfl Try.sizeOf77 rfl ?_
            refine q_load_c (j := 0) rfl rfl rfl rfl Try.isAgg77 (by with_reducible (repeat (first | exact Z0 | apply Z1))) (by first | rfl | exact (Nat.add_zero _).symm) (by rfl) ?_
            refine q_int rfl rfl rfl rfl rfl (b_neq _ _ _ _) ?_
            refine r_done ?_
            refine s_keep [0, 3, 124] (e' := [(0, _), (3, _), (124, _)]) rfl ?_
            refine k_then_n ?_
            refine c_cond_p rfl (fun hp => ?_) (fun hp => ?_)
            ·
             refine c_seq ?_
             refine c_plain (.q 0 (.done)) (by kernel_rfl) ?_
             refine q_assign rfl rfl rfl rfl ?_
             refine r_done ?_
             refine k_then_n ?_
             refine c_ret ?_
             refine k_then_ret ?_
             refine k_then_ret ?_
             refine k_blk_ret ?_
             refine k_then_ret ?_
             refine k_blk_ret ?_
             refine k_then_ret ?_
             refine k_blk_ret ?_
             refine k_then_ret ?_
             refine ck_fold (b := b) x (pa := pa) (pc := pc) (m1 := m1) (m2 := m2) (oa := oa) (oc := oc) (by (repeat ((with_reducible apply Z2); focus (first | (with_reducible (repeat (first | exact Z0 | apply Z1)); done) | (repeat (first | exact Z0 | apply Z1))))); exact Z3) (by rfl) (by rfl) (hR) ?_
             refine ret1 rfl rfl (()) (by congr 1; symm; rw [decide_eq_false_iff_not, can_run h1.1 h1.2, okK_k.2.2.2.2.2.1 (k8)]; rintro ⟨-, h⟩; exact hp h) (by trivial) ?_
             (repeat ((with_reducible apply Z2); focus (first | (with_reducible (repeat (first | exact Z0 | apply Z1)); done) | (repeat (first | exact Z0 | apply Z1))))); (repeat (first | exact Z3 | exact Takes.self | refine takes_drop2 ?_))
            ·
             refine c_skip ?_
             refine k_then_n ?_
             refine c_plain (.q 0 (.q 1 (.q 2 (.q 3 (.q 4 (.q 5 (.done))))))) (by kernel_rfl) ?_
             refine q_move rfl rfl rfl rfl ?_
             refine q_nil_p rfl rfl rfl rfl ?_
             refine q_field (k := 0) rfl rfl rfl rfl Try.underlying129 rfl Try.sizeOf24 rfl ?_
             refine q_field (k := 0) rfl rfl rfl rfl Try.underlying24 rfl Try.sizeOf3 rfl ?_
             refine q_load_c (j := 0) rfl rfl rfl rfl Try.isAgg3 (by with_reducible (repeat (first | exact Z0 | apply Z1))) (by first | rfl | exact (Nat.add_zero _).symm) (by rfl) ?_
             refine q_assign rfl rfl rfl rfl ?_
             refine r_done ?_
             refine s_keep [3, 9] (e' := [(3, _), (9, _)]) rfl ?_
             refine k_then_n ?_
             refine c_exit ?_
             refine k_blk_out rfl ?_
             refine k_then_exit ?_
             refine k_blk_out rfl ?_
             refine k_then_exit ?_
             refine k_blk_here ?_
             refine k_then_n ?_
             refine c_seq ?_
             refine c_plain (.q 0 (.q 1 (.q 2 (.q 3 (.q 4 (.done)))))) (by kernel_rfl) ?_
             refine q_field (k := 2) rfl rfl rfl rfl Try.underlying40 rfl Try.sizeOf3 rfl ?_
             refine q_load_c (j := 2) rfl rfl rfl rfl Try.isAgg3 (by with_reducible (repeat (first | exact Z0 | apply Z1))) (by first | rfl | exact (Nat.add_zero _).symm) (by rfl) ?_
             refine q_move rfl rfl rfl rfl ?_
             refine q_int rfl rfl rfl rfl rfl (b_lss _ _ _ _) ?_
             refine q_assign rfl rfl rfl rfl ?_
             refine r_done ?_
             refine s_keep [4] (e' := [(4, _)]) rfl ?_
             refine k_then_n ?_
             refine c_ret ?_
             refine ck_fold (b := b) x (pa := pa) (pc := pc) (m1 := m1) (m2 := m2) (oa := oa) (oc := oc) (by (repeat ((with_reducible apply Z2); focus (first | (with_reducible (repeat (first | exact Z0 | apply Z1)); done) | (repeat (first | exact Z0 | apply Z1))))); exact Z3) (by rfl) (by rfl) (hR) ?_
             refine ret1 rfl rfl (()) (by congr 1; rw [decide_eq_decide, can_run h1.1 h1.2, okK_k.2.2.2.2.2.1 (k8)]; exact ⟨fun h => ⟨h, Classical.byContradiction hp⟩, fun h => h.1⟩) (by trivial) ?_
             (repeat ((with_reducible apply Z2); focus (first | (with_reducible (repeat (first | exact Z0 | apply Z1)); done) | (repeat (first | exact Z0 | apply Z1))))); (repeat (first | exact Z3 | exact Takes.self | refine takes_drop2 ?_))
           ·
            refine c_skip ?_
            refine k_then_n ?_
            refine c_seq ?_
            refine c_seq ?_
            refine c_plain (.q 0 (.q 1 (.done))) (by kernel_rfl) ?_
            refine q_int rfl rfl rfl rfl rfl (b_eql _ _ _ _) ?_
            refine q_assign rfl rfl rfl rfl ?_
            refine r_done ?_
            refine k_then_n ?_
            refine c_cond_p rfl (fun k9 => ?_) (fun k9 => ?_)
            ·
             refine c_exit ?_
             refine k_then_exit ?_
             refine k_then_exit ?_
             refine k_blk_out rfl ?_
             refine k_blk_out rfl ?_
             refine k_then_exit ?_
             refine k_blk_out rfl ?_
             refine k_blk_out rfl ?_
             refine k_then_exit ?_
             refine k_blk_out rfl ?_
             refine k_then_exit ?_
             refine k_blk_out rfl ?_
             refine k_then_exit ?_
             refine k_blk_out rfl ?_
             refine k_then_exit ?_
             refine k_blk_out rfl ?_
             refine k_then_exit ?_
             refine k_blk_here ?_
             refine k_then_n ?_
             refine c_seq ?_
             refine c_plain (.q 0 (.q 1 (.q 2 (.q 3 (.q 4 (.q 5 (.done))))))) (by kernel_rfl) ?_
             refine q_move rfl rfl rfl rfl ?_
             refine q_nil_p rfl rfl rfl rfl ?_
             refine q_field (k := 7) rfl rfl rfl rfl Try.underlying129 rfl Try.sizeOf111 rfl ?_
             refine q_load_c (j := 7) rfl rfl rfl rfl Try.isAgg111 (by with_reducible (repeat (first | exact Z0 | apply Z1))) (by first | rfl | exact (Nat.add_zero _).symm) (by rfl) ?_
             refine q_len rfl rfl rfl rfl Try.underlying111 ?_
             refine q_assign rfl rfl rfl rfl ?_
             refine r_done ?_
             refine s_keep [3, 9] (e' := [(3, _), (9, _)]) rfl ?_
             refine k_then_n ?_
             refine c_exit ?_
             refine k_blk_out rfl ?_
             refine k_then_exit ?_
             refine k_blk_here ?_
             refine k_then_n ?_
             refine c_seq ?_
             refine c_plain (.q 0 (.q 1 (.q 2 (.q 3 (.q 4 (.done)))))) (by kernel_rfl) ?_
             refine q_field (k := 2) rfl rfl rfl rfl Try.underlying40 rfl Try.sizeOf3 rfl ?_
             refine q_load_c (j := 2) rfl rfl rfl rfl Try.isAgg3 (by with_reducible (repeat (first | exact Z0 | apply Z1))) (by first | rfl | exact (Nat.add_zero _).symm) (by rfl) ?_
             refine q_move rfl rfl rfl rfl ?_
             refine q_int rfl rfl rfl rfl rfl (b_lss _ _ _ _) ?_
             refine q_assign rfl rfl rfl rfl ?_
             refine r_done ?_
             refine s_keep [4] (e' := [(4, _)]) rfl ?_
             refine k_then_n ?_
             refine c_ret ?_
             refine ck_fold (b := b) x (pa := pa) (pc := pc) (m1 := m1) (m2 := m2) (oa := oa) (oc := oc) (by (repeat ((with_reducible apply Z2); focus (first | (with_reducible (repeat (first | exact Z0 | apply Z1)); done) | (repeat (first | exact Z0 | apply Z1))))); exact Z3) (by rfl) (by rfl) (hR) ?_
             refine ret1 rfl rfl (()) (by congr 1; rw [decide_eq_decide, can_run h1.1 h1.2, okK_k.2.2.2.2.2.2.1 (k9)]; try rfl) (by trivial) ?_
             (repeat ((with_reducible apply Z2); focus (first | (with_reducible (repeat (first | exact Z0 | apply Z1)); done) | (repeat (first | exact Z0 | apply Z1))))); (repeat (first | exact Z3 | exact Takes.self | refine takes_drop2 ?_))
            ·
             refine c_skip ?_
             refine k_then_n ?_
             refine c_seq ?_
             refine c_plain (.q 0 (.q 1 (.done))) (by kernel_rfl) ?_
             refine q_int rfl rfl rfl rfl rfl (b_eql _ _ _ _) ?_
             refine q_assign rfl rfl rfl rfl ?_
             refine r_done ?_
             refine s_keep [3, 9, 83] (e' := [(3, _), (9, _), (83, _)]) rfl ?_
             refine k_then_n ?_
             refine c_cond_p rfl (fun k11 => ?_) (fun k11 => ?_)
             ·
              refine c_exit ?_
              refine k_then_exit ?_
              refine k_blk_out rfl ?_
              refine k_blk_out rfl ?_
              refine k_then_exit ?_
              refine k_blk_out rfl ?_
              refine k_blk_out rfl ?_
              refine k_then_exit ?_
              refine k_blk_out rfl ?_
              refine k_then_exit ?_
              refine k_blk_out rfl ?_
              refine k_then_exit ?_
              refine k_blk_out rfl ?_
              refine k_then_exit ?_
              refine k_blk_out rfl ?_
              refine k_then_exit ?_
              refine k_blk_out rfl ?_
              refine k_then_exit ?_
              refine k_blk_here ?_
              refine k_then_n ?_
              refine c_seq ?_
              refine c_plain (.q 0 (.done)) (by kernel_rfl) ?_
              refine q_assign rfl rfl rfl rfl ?_
              refine r_done ?_
              refine k_then_n ?_
              refine c_exit ?_
              refine k_blk_here ?_
              refine k_then_n ?_
              refine c_seq ?_
              refine c_plain (.q 0 (.q 1 (.q 2 (.q 3 (.q 4 (.done)))))) (by kernel_rfl) ?_
              refine q_field (k := 2) rfl rfl rfl rfl Try.underlying40 rfl Try.sizeOf3 rfl ?_
              refine q_load_c (j := 2) rfl rfl rfl rfl Try.isAgg3 (by with_reducible (repeat (first | exact Z0 | apply Z1))) (by first | rfl | exact (Nat.add_zero _).symm) (by rfl) ?_
              refine q_move rfl rfl rfl rfl ?_
              refine q_int rfl rfl rfl rfl rfl (b_lss _ _ _ _) ?_
              refine q_assign rfl rfl rfl rfl ?_
              refine r_done ?_
              refine s_keep [4] (e' := [(4, _)]) rfl ?_
              refine k_then_n ?_
              refine c_ret ?_
              refine ck_fold (b := b) x (pa := pa) (pc := pc) (m1 := m1) (m2 := m2) (oa := oa) (oc := oc) (by (repeat ((with_reducible apply Z2); focus (first | (with_reducible (repeat (first | exact Z0 | apply Z1)); done) | (repeat (first | exact Z0 | apply Z1))))); exact Z3) (by rfl) (by rfl) (hR) ?_
              refine ret1 rfl rfl (()) (by congr 1; rw [decide_eq_decide, can_run h1.1 h1.2, okK_k.2.2.2.2.2.2.2.1 (k11)]; try rfl) (by trivial) ?_
              (repeat ((with_reducible apply Z2); focus (first | (with_reducible (repeat (first | exact Z0 | apply Z1)); done) | (repeat (first | exact Z0 | apply Z1))))); (repeat (first | exact Z3 | exact Takes.self | refine takes_drop2 ?_))
             ·
              refine c_skip ?_
              refine k_then_n ?_
              refine c_exit ?_
              refine k_blk_out rfl ?_
              refine k_blk_out rfl ?_
              refine k_then_exit ?_
              refine k_blk_out rfl ?_
              refine k_blk_out rfl ?_
              refine k_then_exit ?_
              refine k_blk_out rfl ?_
              refine k_then_exit ?_
              refine k_blk_out rfl ?_
              refine k_then_exit ?_
              refine k_blk_out rfl ?_
              refine k_then_exit ?_
              refine k_blk_out rfl ?_
              refine k_then_exit ?_
              refine k_blk_out rfl ?_
              refine k_then_exit ?_
              refine k_blk_out rfl ?_
              refine k_then_exit ?_
              refine k_blk_here ?_
              refine k_then_n ?_
              refine c_seq ?_
              refine c_plain (.q 0 (.q 1 (.q 2 (.q 3 (.q 4 (.done)))))) (by kernel_rfl) ?_
              refine q_field (k := 2) rfl rfl rfl rfl Try.underlying40 rfl Try.sizeOf3 rfl ?_
              refine q_load_c (j := 2) rfl rfl rfl rfl Try.isAgg3 (by with_reducible (repeat (first | exact Z0 | apply Z1))) (by first | rfl | exact (Nat.add_zero _).symm) (by rfl) ?_
              refine q_move rfl rfl rfl rfl ?_
              refine q_int rfl rfl rfl rfl rfl (b_lss _ _ _ _) ?_
              refine q_assign rfl rfl rfl rfl ?_
              refine r_done ?_
              refine s_keep [4] (e' := [(4, _)]) rfl ?_
              refine k_then_n ?_
              refine c_ret ?_
              refine ck_fold (b := b) x (pa := pa) (pc := pc) (m1 := m1) (m2 := m2) (oa := oa) (oc := oc) (by (repeat ((with_reducible apply Z2); focus (first | (with_reducible (repeat (first | exact Z0 | apply Z1)); done) | (repeat (first | exact Z0 | apply Z1))))); exact Z3) (by rfl) (by rfl) (hR) ?_
              refine ret1 rfl rfl (()) (by congr 1; rw [decide_eq_decide, can_run h1.1 h1.2]; exact ⟨fun h => by omega, fun h => absurd h (okK_k.2.2.2.2.2.2.2.2 k1 k2 k3 k4 k5 k6 k7 k8 k9 k11)⟩) (by trivial) ?_
              (repeat ((with_reducible apply Z2); focus (first | (with_reducible (repeat (first | exact Z0 | apply Z1)); done) | (repeat (first | exact Z0 | apply Z1))))); (repeat (first | exact Z3 | exact Takes.self | refine takes_drop2 ?_))
end Go.Ab.Fe
