/- What the threads know of one another: what stays. -/
import Derived.Test.YtkoclbjiaofkhaaDj3
set_option linter.unusedVariables false
set_option linter.unusedSimpArgs false
set_option maxRecDepth 100000
namespace Go.Ab.Dj
open Go Go.Proofs Go.Ab Go.Ab.Fe Go.Ab.Vc
theorem count_set {α : Type} {p : α → Bool} {b : α} : ∀ {l : List α} {i : Nat} {a : α}, l[i]? = some a → (l.set i b).countP p + (if p a then 1 else 0) = l.countP p + (if p b then 1 else 0)
  | [], i, a, h => by simp at h
  | c :: l, 0, a, h => by
    simp at h; subst h
    simp only [List.set_cons_zero, List.countP_cons]
    omega
  | c :: l, i + 1, a, h => by
    simp at h
    have := count_set (p := p) (b := b) h
    simp only [List.set_cons_succ, List.countP_cons]
    omega
theorem upd_some {κ ν : Type} [DecidableEq κ] {T : κ → Option ν} {k q : κ} {v : Option ν} {l : ν} (h : upd T k v q = some l) : (q = k ∧ v = some l) ∨ (q ≠ k ∧ T q = some l) := by
  unfold upd at h
  split at h
  · rename_i e; exact .inl ⟨e, h⟩
  · rename_i e; exact .inr ⟨e, h⟩
theorem mg_cv {m : Option (List Int)} {l : List Int} (hl : CV l) (h : ∀ q, m = some q → CV q) : CV (mgF m l) := by
  cases m with
  | none => exact hl
  | some q => exact jn_cv hl (h q rfl)
theorem wtN_set {c : CS} {th va vo lk : Int} {pa O : List Int} {B : List T2} {n : Int} {i : Nat} {s s' : T3} (hs : c.T[i]? = some s) (b r : Int) :
    wtN ⟨th, va, vo, lk, pa, c.T.set i s', O, B, n⟩ b r + (if s = (2, b, r) then 1 else 0) = wtN c b r + (if s' = (2, b, r) then 1 else 0) := by
  have := count_set (p := fun s => decide (s = (2, b, r))) (b := s') hs
  simpa [wtN] using this
theorem wtN_zero {c : CS} (hc : CInv c) {b r : Int} (h : (opF c b).1 < r) : wtN c b r = 0 := by
  unfold wtN
  rw [List.countP_eq_zero]
  intro s hs h2
  have h3 := of_decide_eq_true h2
  have h4 := (hc.st s hs).2.2.1 (by rw [h3])
  rw [h3] at h4
  simp at h4; omega
theorem opF_set {c : CS} {th va vo lk : Int} {pa O : List Int} {T : List T3} {n : Int} {o : Int} {v : T2} (h0 : 0 ≤ o) (h : o.toNat < c.B.length) {b : Int} (hb : 0 ≤ b) : opF ⟨th, va, vo, lk, pa, T, O, c.B.set o.toNat v, n⟩ b = if b = o then v else opF c b := by
  unfold opF
  show (c.B.set o.toNat v).getD b.toNat _ = _
  rw [getD_set h]
  by_cases e : b = o
  · subst e; rw [if_pos rfl, if_pos rfl]
  · rw [if_neg e, if_neg (by omega)]
theorem icD_cv {x : VS} (hx : VInv x) {k t o : Int} (hvc : vcanF x k t o) (hk : relK k) {l : List Int} (hth : x.th t = some l) : CV (icL l t.toNat) := by
  obtain ⟨h0, h1⟩ := th_rng hx (can_th hvc.1)
  have := hvc.2 hk
  rw [thF_eq hth] at this
  exact icL_cv (hx.thc _ _ hth) (by omega) this
theorem pres {x : CS} (hx : CInv x) {k t o : Int} (hc : canF x k t o) (u : Int) : (stF (nxF x k t o) u).1 ≠ 0 ↔ (stF x u).1 ≠ 0 ∨ (k = 7 ∧ u = o) := by
  obtain ⟨n5, n6, n7, n9, n10, n11, nn⟩ := nxF_k hc
  obtain ⟨o5, o7, o9, o10, o11⟩ := can_obj hx hc
  obtain ⟨t0, t1, t2⟩ := stF_nz (can_th hc)
  have hth := can_th hc
  by_cases k5 : k = 5
  · rw [n5 k5]; show (stF x u).1 ≠ 0 ↔ _; omega
  by_cases k6 : k = 6
  · rw [n6 k6]; show (stF x u).1 ≠ 0 ↔ _; omega
  by_cases k7 : k = 7
  · obtain ⟨p0, p1, p2⟩ := o7 k7
    rw [n7 k7, stF_set p0 p1 rfl]
    split
    · rename_i e; simp [k7, e]
    · rename_i e; simp [e]
  by_cases k9 : k = 9
  · rw [n9 k9, stF_set t0 t1 rfl]
    split
    · rename_i e; subst e; simp [hth]
    · rename_i e; simp [k7]
  by_cases k10 : k = 10
  · rw [n10 k10, stF_set t0 t1 rfl]
    split
    · rename_i e; subst e; simp [hth]
    · rename_i e; simp [k7]
  by_cases k11 : k = 11
  · rw [n11 k11, stF_set t0 t1 rfl]
    split
    · rename_i e; subst e; simp [hth]
    · rename_i e; simp [k7]
  rw [nn k5 k6 k7 k9 k10 k11]; show (stF x u).1 ≠ 0 ↔ _; omega
theorem isS_upd {T : Int → Option (List Int)} {t u : Int} {l : List Int} : (upd T t (some l) u).isSome = true ↔ u = t ∨ (T u).isSome = true := by
  unfold upd
  split
  · rename_i e; simp [e]
  · rename_i e; simp [e]
/-- The threads' counts behind an event. -/
theorem wt_next {x : CS} (hx : CInv x) {k t o : Int} (hc : canF x k t o) (b r : Int) :
    (k = 9 → wtN (nxF x k t o) b r = wtN x b r + (if b = o ∧ r = (opF x o).1 then 1 else 0)) ∧
    (k = 10 → wtN (nxF x k t o) b r + (if b = o ∧ r = (stF x t).2.2 then 1 else 0) = wtN x b r) ∧
    (k ≠ 9 → k ≠ 10 → wtN (nxF x k t o) b r = wtN x b r) := by
  obtain ⟨n5, n6, n7, n9, n10, n11, nn⟩ := nxF_k hc
  obtain ⟨o5, o7, o9, o10, o11⟩ := can_obj hx hc
  obtain ⟨t0, t1, t2⟩ := stF_nz (can_th hc)
  have hth := can_th hc
  refine ⟨fun k9 => ?_, fun k10 => ?_, fun k9 k10 => ?_⟩
  · rw [n9 k9]
    have h := wtN_set (th := x.th) (va := x.va) (vo := x.vo) (lk := x.lk) (pa := x.pa) (O := x.O) (B := x.B.set o.toNat (arrF (opF x o) (x.pa.getD o.toNat 0))) (n := x.n + 1) (s' := (2, o, (opF x o).1)) t2 b r
    rw [if_neg (fun e => by have := (o9 k9).2.2.2; rw [e] at this; simp at this)] at h
    rw [Nat.add_zero] at h
    rw [h]
    by_cases e : b = o ∧ r = (opF x o).1
    · rw [if_pos e, if_pos (by rw [e.1, e.2])]
    · rw [if_neg e, if_neg (fun h => e (by simp at h; exact ⟨h.1.symm, h.2.symm⟩))]
  · rw [n10 k10]
    have h := wtN_set (th := x.th) (va := x.va) (vo := x.vo) (lk := x.lk) (pa := x.pa) (O := x.O) (B := x.B) (n := x.n + 1) (s' := (1, 0, 0)) t2 b r
    rw [if_neg (c := ((1 : Int), (0 : Int), (0 : Int)) = (2, b, r)) (by simp), Nat.add_zero] at h
    rw [← h]
    obtain ⟨q1, q2, q3⟩ := o10 k10
    by_cases e : b = o ∧ r = (stF x t).2.2
    · rw [if_pos e, if_pos (by rw [e.1, e.2, q3, ← q1])]
    · rw [if_neg e, if_neg (fun h => e (by rw [q3, h]; exact ⟨rfl, rfl⟩))]
  · by_cases k5 : k = 5
    · rw [n5 k5]; rfl
    by_cases k6 : k = 6
    · rw [n6 k6]; rfl
    by_cases k7 : k = 7
    · obtain ⟨p0, p1, p2⟩ := o7 k7
      rw [n7 k7]
      have h := wtN_set (th := x.th) (va := x.va) (vo := x.vo) (lk := x.lk) (pa := x.pa) (O := x.O) (B := x.B) (n := x.n + 1) (s' := (1, 0, 0)) (stF_at (x := x) p0 (by omega)) b r
      rw [if_neg (c := ((1 : Int), (0 : Int), (0 : Int)) = (2, b, r)) (by simp), if_neg (fun e => by rw [e] at p2; simp at p2)] at h
      omega
    by_cases k11 : k = 11
    · rw [n11 k11]
      have h := wtN_set (th := x.th) (va := x.va) (vo := x.vo) (lk := x.lk) (pa := x.pa) (O := x.O) (B := x.B) (n := x.n + 1) (s' := (3, 0, 0)) t2 b r
      rw [if_neg (c := ((3 : Int), (0 : Int), (0 : Int)) = (2, b, r)) (by simp), if_neg (fun e => by have := o11 k11; rw [e] at this; simp at this)] at h
      omega
    rw [nn k5 k6 k7 k9 k10 k11]; rfl
theorem opF_next {x : CS} (hx : CInv x) {k t o : Int} (hc : canF x k t o) {b : Int} (hb : 0 ≤ b) : opF (nxF x k t o) b = if k = 9 ∧ b = o then arrF (opF x o) (x.pa.getD o.toNat 0) else opF x b := by
  obtain ⟨n5, n6, n7, n9, n10, n11, nn⟩ := nxF_k hc
  obtain ⟨o5, o7, o9, o10, o11⟩ := can_obj hx hc
  by_cases k9 : k = 9
  · obtain ⟨p0, p1, p2, p3⟩ := o9 k9
    rw [n9 k9, opF_set p0 p1 hb]
    by_cases e : b = o
    · rw [if_pos e, if_pos ⟨k9, e⟩]
    · rw [if_neg e, if_neg (fun h => e h.2)]
  rw [if_neg (fun h => k9 h.1)]
  by_cases k5 : k = 5
  · rw [n5 k5]; rfl
  by_cases k6 : k = 6
  · rw [n6 k6]; rfl
  by_cases k7 : k = 7
  · rw [n7 k7]; rfl
  by_cases k10 : k = 10
  · rw [n10 k10]; rfl
  by_cases k11 : k = 11
  · rw [n11 k11]; rfl
  rw [nn k5 k6 k7 k9 k10 k11]; rfl
theorem nx_B {x : CS} (hx : CInv x) {k t o : Int} (hc : canF x k t o) : (nxF x k t o).B.length = x.B.length := by
  rw [(next_inv hx k t o).bl, hx.bl, nx_pa]
theorem vn_ck {x : VS} {k t o : Int} : (vnF x k t o).ck = nxF x.ck k t o := by
  unfold vnF
  repeat (split; · rfl)
  rfl
/-- The rounds behind an event. -/
theorem vn_rd {x : VS} {k t o : Int} : (vnF x k t o).rd = if k = 10 then upd x.rd (rdK x t o) (if (rdF x (rdK x t o)).2 - 1 ≤ 0 then none else some ((rdF x (rdK x t o)).1, (rdF x (rdK x t o)).2 - 1))
    else if k = 9 then upd x.rd (o, (opF x.ck o).1) (some (mgF ((x.rd (o, (opF x.ck o).1)).map (·.1)) (thF x t), x.ck.pa.getD o.toNat 0)) else x.rd := by
  unfold vnF
  by_cases k5 : k = 5
  · simp [k5]
  by_cases k3 : k = 3
  · simp [k3]
  by_cases k8 : k = 8
  · simp [k8]
  by_cases k10 : k = 10
  · simp [k10]
  by_cases k6 : k = 6
  · simp [k6]
  by_cases k4 : k = 4
  · simp [k4]
  by_cases k9 : k = 9
  · simp [k9]
  by_cases k7 : k = 7
  · simp [k7]
  simp [*]
theorem next_vinv {x : VS} (hx : VInv x) {k t o : Int} (hvc : vcanF x k t o) : VInv (vnF x k t o) := by
  have hc := hvc.1
  obtain ⟨l, hth⟩ := th_some hx (can_th hc)
  have hlc := hx.thc _ _ hth
  obtain ⟨o5, o7, o9, o10, o11⟩ := can_obj hx.ck hc
  have hts : (x.th t).isSome = true := by rw [hth]; rfl
  have hic : relK k → CV (icL l t.toNat) := fun h => icD_cv hx hvc h hth
  have hpp : k = 9 → 1 ≤ x.ck.pa.getD o.toNat 0 ∧ x.ck.pa.getD o.toNat 0 ≤ 65535 := fun k9 => by
    obtain ⟨pp, hp⟩ := get_lt (o9 k9).2.2.1
    rw [getD_some hp]; exact hx.ck.sh.pa pp (List.mem_of_getElem? hp)
  refine ⟨by rw [vn_ck]; exact next_inv hx.ck k t o, fun u => ?_, ?_, ?_, ?_, fun r p h => ?_, fun r p h => ?_, fun b r => ?_, fun b hb0 hb1 => ?_⟩
  · rw [vn_ck, pres hx.ck hc u, ← hx.th u]
    by_cases k5 : k = 5
    · rw [vn5 hth k5, isS_upd]; constructor
      · rintro (rfl | h) <;> simp_all
      · rintro (h | h)
        · exact .inr h
        · omega
    by_cases k3 : k = 3
    · rw [vn3 hth k3, isS_upd]; constructor
      · rintro (rfl | h) <;> simp_all
      · rintro (h | h)
        · exact .inr h
        · omega
    by_cases k8 : k = 8
    · rw [vn8 hth k8, isS_upd]; constructor
      · rintro (rfl | h) <;> simp_all
      · rintro (h | h)
        · exact .inr h
        · omega
    by_cases k10 : k = 10
    · rw [vn10 hth k10, dpF, isS_upd]; constructor
      · rintro (rfl | h) <;> simp_all
      · rintro (h | h)
        · exact .inr h
        · omega
    by_cases k6 : k = 6
    · rw [vn6 hth k6, isS_upd]; constructor
      · rintro (rfl | h) <;> simp_all
      · rintro (h | h)
        · exact .inr h
        · omega
    by_cases k4 : k = 4
    · rw [vn4 hth k4, isS_upd]; constructor
      · rintro (rfl | h) <;> simp_all
      · rintro (h | h)
        · exact .inr h
        · omega
    by_cases k9 : k = 9
    · rw [vn9 hth k9, isS_upd]; constructor
      · rintro (rfl | h) <;> simp_all
      · rintro (h | h)
        · exact .inr h
        · omega
    by_cases k7 : k = 7
    · rw [vn7 hth k7, isS_upd, isS_upd]; constructor
      · rintro (rfl | rfl | h) <;> simp_all
      · rintro (h | h)
        · exact .inr (.inr h)
        · exact .inr (.inl h.2)
    rw [vn0 k5 k3 k8 k10 k6 k4 k9 k7]; simp [k7]
  · intro u q h
    have key : ∀ {v : List Int}, CV v → upd x.th t (some v) u = some q → CV q := fun hv h => by
      rcases upd_some h with ⟨-, h⟩ | ⟨-, h⟩
      · cases h; exact hv
      · exact hx.thc _ _ h
    by_cases k5 : k = 5
    · rw [vn5 hth k5] at h; exact key (mg_cv hlc (hx.lkc _)) h
    by_cases k3 : k = 3
    · rw [vn3 hth k3] at h; exact key (mg_cv hlc (hx.voc _)) h
    by_cases k8 : k = 8
    · rw [vn8 hth k8] at h; exact key (mg_cv hlc (hx.thc _)) h
    by_cases k10 : k = 10
    · rw [vn10 hth k10, dpF, thF_eq hth] at h
      obtain ⟨p, hp, -⟩ := rd_some hx (o10 k10).1 (o10 k10).2.2
      refine key (jn_cv hlc ?_) h
      rw [rdF, hp]; exact hx.rdc _ _ hp
    by_cases k6 : k = 6
    · rw [vn6 hth k6] at h; exact key (hic (by unfold relK; omega)) h
    by_cases k4 : k = 4
    · rw [vn4 hth k4] at h; exact key (hic (by unfold relK; omega)) h
    by_cases k9 : k = 9
    · rw [vn9 hth k9] at h; exact key (hic (by unfold relK; omega)) h
    by_cases k7 : k = 7
    · rw [vn7 hth k7] at h
      obtain ⟨p0, p1, p2⟩ := o7 k7
      have h3 := hx.ck.tl
      have h4 := hx.ck.sh.th
      rcases upd_some h with ⟨-, h⟩ | ⟨-, h⟩
      · cases h; exact hic (by unfold relK; omega)
      · rcases upd_some h with ⟨-, h⟩ | ⟨-, h⟩
        · cases h; exact stL_cv hlc (by omega) (by decide) (by decide)
        · exact hx.thc _ _ h
    rw [vn0 k5 k3 k8 k10 k6 k4 k9 k7] at h; exact hx.thc _ _ h
  · intro u q h
    by_cases k6 : k = 6
    · rw [vn6 hth k6] at h
      rcases upd_some h with ⟨-, h⟩ | ⟨-, h⟩
      · cases h; exact hlc
      · exact hx.lkc _ _ h
    have e : (vnF x k t o).lk = x.lk := by
      unfold vnF
      rw [if_neg k6]
      repeat (split; · rfl)
      rfl
    rw [e] at h; exact hx.lkc _ _ h
  · intro u q h
    by_cases k4 : k = 4
    · rw [vn4 hth k4] at h
      rcases upd_some h with ⟨-, h⟩ | ⟨-, h⟩
      · cases h; exact mg_cv hlc (hx.voc _)
      · exact hx.voc _ _ h
    have e : (vnF x k t o).vo = x.vo := by
      unfold vnF
      rw [if_neg k4]
      repeat (split; · rfl)
      rfl
    rw [e] at h; exact hx.voc _ _ h
  · rw [vn_rd] at h
    split at h
    · rename_i k10
      rcases upd_some h with ⟨-, h⟩ | ⟨-, h⟩
      · obtain ⟨p2, hp, -⟩ := rd_some hx (o10 k10).1 (o10 k10).2.2
        split at h
        · cases h
        · cases h
          show CV (rdF x (rdK x t o)).1
          rw [rdK, rdF, hp]; exact hx.rdc _ _ hp
      · exact hx.rdc _ _ h
    · split at h
      · rcases upd_some h with ⟨-, h⟩ | ⟨-, h⟩
        · cases h
          show CV (mgF _ _)
          rw [thF_eq hth]
          exact mg_cv hlc fun q hq => map_fst_cv hx hq
        · exact hx.rdc _ _ h
      · exact hx.rdc _ _ h
  · rw [vn_rd] at h
    split at h
    · rename_i k10
      rcases upd_some h with ⟨-, h⟩ | ⟨-, h⟩
      · obtain ⟨p2, hp, -⟩ := rd_some hx (o10 k10).1 (o10 k10).2.2
        have h5 := hx.rds _ _ hp
        split at h
        · cases h
        · rename_i h6
          cases h
          have h7 : rdF x (rdK x t o) = p2 := by rw [rdK, rdF, hp]; rfl
          rw [h7] at h6 ⊢
          exact ⟨by show 0 ≤ p2.2 - 1; omega, by show p2.2 - 1 ≤ 65535; omega⟩
      · exact hx.rds _ _ h
    · split at h
      · rename_i k9
        rcases upd_some h with ⟨-, h⟩ | ⟨-, h⟩
        · cases h
          have := hpp k9
          exact ⟨by show 0 ≤ x.ck.pa.getD _ _; omega, this.2⟩
        · exact hx.rds _ _ h
      · exact hx.rds _ _ h
  · rw [vn_ck]
    obtain ⟨w9, w10, w0⟩ := wt_next hx.ck hc b r
    have h1 := hx.wt b r
    rw [rdF, vn_rd]
    by_cases k10 : k = 10
    · rw [if_pos k10]
      have hw := w10 k10
      by_cases e : b = o ∧ r = (stF x.ck t).2.2
      · rw [if_pos e] at hw
        have e2 : ((b, r) : Int × Int) = rdK x t o := by rw [rdK, e.1, e.2]
        rw [e2] at h1 ⊢
        rw [upd_same]
        split
        · simp; omega
        · simp; omega
      · rw [if_neg e] at hw
        have e2 : ((b, r) : Int × Int) ≠ rdK x t o := fun h => e (by rw [rdK] at h; simp at h; exact h)
        rw [upd_ne e2]
        show _ ≤ (rdF x (b, r)).2
        omega
    · rw [if_neg k10]
      by_cases k9 : k = 9
      · rw [if_pos k9]
        have hw := w9 k9
        by_cases e : b = o ∧ r = (opF x.ck o).1
        · rw [if_pos e] at hw
          have e2 : ((b, r) : Int × Int) = (o, (opF x.ck o).1) := by rw [e.1, e.2]
          rw [e2, upd_same]
          obtain ⟨p0, p1, p2, p3⟩ := o9 k9
          obtain ⟨pp, hp⟩ := get_lt p2
          have h2 := hx.wo o p0 (by omega)
          have h3 := hx.ck.op _ _ _ (opF_at (x := x.ck) p0 (by omega)) hp
          rw [getD_some hp]
          rw [e.1, e.2] at hw
          rw [e.1, e.2]
          show _ ≤ pp
          omega
        · rw [if_neg e] at hw
          have e2 : ((b, r) : Int × Int) ≠ (o, (opF x.ck o).1) := fun h => e (by simp at h; exact h)
          rw [upd_ne e2]
          show _ ≤ (rdF x (b, r)).2
          omega
      · rw [if_neg k9, w0 k9 k10]; exact h1
  · rw [vn_ck] at hb1 ⊢
    rw [nx_B hx.ck hc] at hb1
    have h1 := hx.wo b hb0 hb1
    rw [opF_next hx.ck hc hb0]
    by_cases e : k = 9 ∧ b = o
    · rw [if_pos e]
      obtain ⟨k9, rfl⟩ := e
      obtain ⟨p0, p1, p2, p3⟩ := o9 k9
      obtain ⟨pp, hp⟩ := get_lt p2
      rw [getD_some hp]
      unfold arrF
      split
      · have hz := wtN_zero hx.ck (b := b) (r := (opF x.ck b).1 + 1) (by omega)
        have hw := (wt_next hx.ck hc b ((opF x.ck b).1 + 1)).1 k9
        rw [if_neg (by omega)] at hw
        simp; omega
      · have hw := (wt_next hx.ck hc b (opF x.ck b).1).1 k9
        rw [if_pos ⟨rfl, rfl⟩] at hw
        simp; omega
    · rw [if_neg e]
      obtain ⟨w9, w10, w0⟩ := wt_next hx.ck hc b (opF x.ck b).1
      by_cases k9 : k = 9
      · have hw := w9 k9
        rw [if_neg (fun h => e ⟨k9, h.1⟩)] at hw
        omega
      · by_cases k10 : k = 10
        · have hw := w10 k10
          omega
        · rw [w0 k9 k10]; exact h1
end Go.Ab.Dj
