/- A detector by full vectors: the law Grows. -/
import Derived.Test.YtkoclbjiaofkhaaDj10
import Derived.Test.YtkoclbjiaofkhaaFe7
set_option linter.unusedVariables false
set_option linter.unusedSimpArgs false
set_option maxRecDepth 100000
namespace Go.Ab.Dj
open Go Go.Proofs Go.Ab Go.Ab.Fe Go.Ab.Vc
/-- A list's entry, zero where there is none. -/
def eZ (l : List Int) (z : Int) : Int := if z < 0 then 0 else l.getD z.toNat 0
theorem gout {l : List Int} {i : Nat} (h : l.length ≤ i) : l.getD i 0 = 0 := by simp only [List.getD_eq_getElem?_getD]; rw [List.getElem?_eq_none h]; rfl
def mostP (a b : List Int) : Prop := ∀ i : Nat, i < b.length → b.getD i 0 ≤ a.getD i 0
instance (a b : List Int) : Decidable (mostP a b) := by unfold mostP; infer_instance
theorem thF_upd {c : CS} {T : Int → Option (List Int)} {t u : Int} {L : List Int} {a b r} : thF ⟨c, upd T t (some L), a, b, r⟩ u = if u = t then L else (T u).getD [] := by
  show (upd T t (some L) u).getD [] = _
  unfold upd; split <;> rfl
theorem mg_ge {m : Option (List Int)} {l : List Int} (hl : CV l) (h : ∀ q, m = some q → CV q) (i : Nat) : l.getD i 0 ≤ (mgF m l).getD i 0 := by
  cases m with
  | none => exact Int.le_refl _
  | some q => show _ ≤ (jn l q).getD i 0; rw [jn_g hl (h q rfl)]; omega
theorem mg_le {m : Option (List Int)} {l : List Int} {B : Int} (hl : CV l) (h : ∀ q, m = some q → CV q) (i : Nat) (h1 : l.getD i 0 ≤ B) (h2 : ∀ q, m = some q → q.getD i 0 ≤ B) : (mgF m l).getD i 0 ≤ B := by
  cases m with
  | none => exact h1
  | some q => show (jn l q).getD i 0 ≤ _; rw [jn_g hl (h q rfl)]; have := h2 q rfl; omega
theorem cv_nn {l : List Int} (h : CV l) (i : Nat) : 0 ≤ l.getD i 0 := (g_rng h.rng (by decide) i).1
theorem thF_cv {x : VS} (hx : VInv x) (u : Int) : CV (thF x u) := by
  unfold thF
  cases h : x.th u with
  | none => exact Vc.nil_cv
  | some l => exact hx.thc _ _ h
/-- No thread's vector becomes less. -/
theorem th_mono {x : VS} (hx : VInv x) {k t o : Int} (hvc : vcanF x k t o) (u : Int) (i : Nat) : (thF x u).getD i 0 ≤ (thF (vnF x k t o) u).getD i 0 := by
  obtain ⟨l, hth⟩ := th_some hx (can_th hvc.1)
  have hl := hx.thc _ _ hth
  have hlt := thF_eq hth
  obtain ⟨o5, o7, o9, o10, o11⟩ := can_obj hx.ck hvc.1
  have key : ∀ {T : Int → Option (List Int)} {L : List Int} {c a b r}, (∀ i, l.getD i 0 ≤ L.getD i 0) → ((x.th u).getD [] : List Int).getD i 0 ≤ ((T u).getD [] : List Int).getD i 0 → (thF x u).getD i 0 ≤ (thF ⟨c, upd T t (some L), a, b, r⟩ u).getD i 0 := by
    intro T L c a b r h1 h2
    rw [thF_upd]
    split
    · rename_i e; subst e; rw [hlt]; exact h1 i
    · exact h2
  have hic : ∀ i, l.getD i 0 ≤ (icL l t.toNat).getD i 0 := fun i => by
    rw [icL_g]; split
    · rename_i e; subst e; omega
    · exact Int.le_refl _
  by_cases k5 : k = 5
  · rw [vn5 hth k5]; exact key (mg_ge hl (hx.lkc _)) (Int.le_refl _)
  by_cases k3 : k = 3
  · rw [vn3 hth k3]; exact key (mg_ge hl (hx.voc _)) (Int.le_refl _)
  by_cases k8 : k = 8
  · rw [vn8 hth k8]; exact key (mg_ge hl (hx.thc _)) (Int.le_refl _)
  by_cases k10 : k = 10
  · rw [vn10 hth k10]
    obtain ⟨p, hp, -⟩ := rd_some hx (o10 k10).1 (o10 k10).2.2
    refine key (fun i => ?_) (Int.le_refl _)
    rw [hlt, rdF, hp]
    show _ ≤ (jn l p.1).getD i 0
    rw [jn_g hl (hx.rdc _ _ hp)]; omega
  by_cases k6 : k = 6
  · rw [vn6 hth k6]; exact key hic (Int.le_refl _)
  by_cases k4 : k = 4
  · rw [vn4 hth k4]; exact key hic (Int.le_refl _)
  by_cases k9 : k = 9
  · rw [vn9 hth k9]; exact key hic (Int.le_refl _)
  by_cases k7 : k = 7
  · rw [vn7 hth k7]
    obtain ⟨p0, p1, p2⟩ := o7 k7
    refine key hic ?_
    unfold upd
    split
    · rename_i e; subst e
      have hno : x.th u = none := by
        cases h : x.th u with
        | none => rfl
        | some q => exact absurd p2 ((hx.th u).1 (by rw [h]; rfl))
      rw [hno]
      have h3 := hx.ck.tl
      have h4 := hx.ck.sh.th
      exact Int.le_trans (by simp) (cv_nn (stL_cv hl (i := u.toNat) (by omega) (by decide) (by decide)) i)
    · exact Int.le_refl _
  rw [vn0 k5 k3 k8 k10 k6 k4 k9 k7]; exact Int.le_refl _
/-- All clocks are at most one more than there are events. -/
structure BInv (x : VS) : Prop where
  inv : VInv x
  th : ∀ t l, x.th t = some l → ∀ i : Nat, l.getD i 0 ≤ x.ck.n + 1
  lk : ∀ t l, x.lk t = some l → ∀ i : Nat, l.getD i 0 ≤ x.ck.n + 1
  vo : ∀ t l, x.vo t = some l → ∀ i : Nat, l.getD i 0 ≤ x.ck.n + 1
  rd : ∀ r p, x.rd r = some p → ∀ i : Nat, p.1.getD i 0 ≤ x.ck.n + 1
theorem b_can {x : VS} (hx : BInv x) (hn : x.ck.n ≤ 1000000) {k t o : Int} : vcanF x k t o ↔ canF x.ck k t o := by
  refine ⟨fun h => h.1, fun h => ⟨h, fun _ => ?_⟩⟩
  obtain ⟨l, hth⟩ := th_some hx.inv (can_th h)
  have := hx.th _ _ hth t.toNat
  rw [thF_eq hth]; simp only [maxC]; omega
theorem vn_n {x : VS} {k t o : Int} (h : canF x.ck k t o) : (vnF x k t o).ck.n = x.ck.n + 1 := by rw [vn_ck]; exact (nxF_can h).1
theorem b_next {x : VS} (hx : BInv x) {k t o : Int} (hvc : vcanF x k t o) : BInv (vnF x k t o) := by
  obtain ⟨l, hth⟩ := th_some hx.inv (can_th hvc.1)
  have hi := hx.inv
  have hl := hi.thc _ _ hth
  have hlt := thF_eq hth
  have hlb := hx.th _ _ hth
  have hnn := vn_n hvc.1
  obtain ⟨o5, o7, o9, o10, o11⟩ := can_obj hi.ck hvc.1
  have hic : ∀ i : Nat, (icL l t.toNat).getD i 0 ≤ x.ck.n + 1 + 1 := fun i => by
    rw [icL_g]; split
    · have := hlb t.toNat; omega
    · have := hlb i; omega
  refine ⟨next_vinv hi hvc, ?_, ?_, ?_, ?_⟩
  · intro u q h i
    rw [hnn]
    have key : ∀ {L : List Int}, (∀ i : Nat, L.getD i 0 ≤ x.ck.n + 1 + 1) → upd x.th t (some L) u = some q → q.getD i 0 ≤ x.ck.n + 1 + 1 := fun hL h => by
      rcases upd_some h with ⟨-, h⟩ | ⟨-, h⟩
      · cases h; exact hL i
      · have := hx.th _ _ h i; omega
    have up : ∀ {a : Int}, a ≤ x.ck.n + 1 → a ≤ x.ck.n + 1 + 1 := fun h => by omega
    by_cases k5 : k = 5
    · rw [vn5 hth k5] at h; exact key (fun i => up (mg_le hl (hi.lkc _) i (hlb i) fun q hq => hx.lk _ _ hq i)) h
    by_cases k3 : k = 3
    · rw [vn3 hth k3] at h; exact key (fun i => up (mg_le hl (hi.voc _) i (hlb i) fun q hq => hx.vo _ _ hq i)) h
    by_cases k8 : k = 8
    · rw [vn8 hth k8] at h; exact key (fun i => up (mg_le hl (hi.thc _) i (hlb i) fun q hq => hx.th _ _ hq i)) h
    by_cases k10 : k = 10
    · rw [vn10 hth k10] at h
      obtain ⟨p, hp, -⟩ := rd_some hi (o10 k10).1 (o10 k10).2.2
      refine key (fun i => ?_) h
      rw [hlt, rdF, hp]
      show (jn l p.1).getD i 0 ≤ _
      rw [jn_g hl (hi.rdc _ _ hp)]
      have h1 := hlb i
      have h2 := hx.rd _ _ hp i
      omega
    by_cases k6 : k = 6
    · rw [vn6 hth k6] at h; exact key hic h
    by_cases k4 : k = 4
    · rw [vn4 hth k4] at h; exact key hic h
    by_cases k9 : k = 9
    · rw [vn9 hth k9] at h; exact key hic h
    by_cases k7 : k = 7
    · rw [vn7 hth k7] at h
      rcases upd_some h with ⟨-, h⟩ | ⟨-, h⟩
      · cases h; exact hic i
      · rcases upd_some h with ⟨-, h⟩ | ⟨-, h⟩
        · cases h
          rw [stL_g]
          have h0 := hi.ck.n0
          split
          · omega
          · have := hlb i; omega
        · have := hx.th _ _ h i; omega
    rw [vn0 k5 k3 k8 k10 k6 k4 k9 k7] at h
    have := hx.th _ _ h i; omega
  · intro u q h i
    rw [hnn]
    by_cases k6 : k = 6
    · rw [vn6 hth k6] at h
      rcases upd_some h with ⟨-, h⟩ | ⟨-, h⟩
      · cases h; have := hlb i; omega
      · have := hx.lk _ _ h i; omega
    have e : (vnF x k t o).lk = x.lk := by
      unfold vnF
      rw [if_neg k6]
      repeat (split; · rfl)
      rfl
    rw [e] at h; have := hx.lk _ _ h i; omega
  · intro u q h i
    rw [hnn]
    by_cases k4 : k = 4
    · rw [vn4 hth k4] at h
      rcases upd_some h with ⟨-, h⟩ | ⟨-, h⟩
      · cases h; have := mg_le hl (hi.voc o) i (hlb i) (fun q hq => hx.vo o _ hq i); omega
      · have := hx.vo _ _ h i; omega
    have e : (vnF x k t o).vo = x.vo := by
      unfold vnF
      rw [if_neg k4]
      repeat (split; · rfl)
      rfl
    rw [e] at h; have := hx.vo _ _ h i; omega
  · intro r p h i
    rw [hnn]
    rw [vn_rd] at h
    split at h
    · rename_i k10
      rcases upd_some h with ⟨-, h⟩ | ⟨-, h⟩
      · obtain ⟨p2, hp, -⟩ := rd_some hi (o10 k10).1 (o10 k10).2.2
        split at h
        · cases h
        · cases h
          show (rdF x (rdK x t o)).1.getD i 0 ≤ _
          rw [rdK, rdF, hp]
          have := hx.rd _ _ hp i
          show p2.1.getD i 0 ≤ _; omega
      · have := hx.rd _ _ h i; omega
    · split at h
      · rcases upd_some h with ⟨-, h⟩ | ⟨-, h⟩
        · cases h
          show (mgF _ _).getD i 0 ≤ _
          rw [hlt]
          have := mg_le (m := (x.rd (o, (opF x.ck o).1)).map (·.1)) hl (fun q hq => map_fst_cv hi hq) i (hlb i) (fun q hq => by
            cases hr : x.rd (o, (opF x.ck o).1) with
            | none => rw [hr] at hq; cases hq
            | some p => rw [hr] at hq; cases hq; exact hx.rd _ _ hr i)
          omega
        · have := hx.rd _ _ h i; omega
      · have := hx.rd _ _ h i; omega
/-- What holds of every detector behind few events. -/
structure GInv (x : DS) : Prop where
  inv : DInv x
  b : BInv x.v
  vs : ∀ w ∈ x.vs, ∀ i : Nat, w.1.getD i 0 ≤ (thF x.v (i : Int)).getD i 0 ∧ w.2.1.getD i 0 ≤ (thF x.v (i : Int)).getD i 0
  ln : ∀ w ∈ x.vs, (w.1.length : Int) ≤ x.v.ck.th ∧ (w.2.1.length : Int) ≤ x.v.ck.th
theorem stL_len (l : List Int) (i : Nat) (v : Int) : (stL l i v).length ≤ max l.length (i + 1) := by
  unfold stL
  refine Nat.le_trans (tr_le _) ?_
  rw [List.length_set, pd_len]; exact Nat.le_refl _
theorem g_no {x : DS} {e : T3} (h : ¬ canE x e) : dEv x e = x := if_neg h
theorem g_next {x : DS} (hx : GInv x) (e : T3) : GInv (dEv x e) := by
  by_cases hc : canE x e
  · have hi := hx.inv
    obtain ⟨l, hth⟩ := th_some hi.v (can_th hc.1)
    have hlt := thF_eq hth
    obtain ⟨t0, t1⟩ := th_rng hi.v (can_th hc.1)
    have hv := de_v hc
    have hT : (e.2.1.toNat : Int) = e.2.1 := by omega
    obtain ⟨-, h2, h3⟩ := nxF_can hc.1
    have hth2 : (dEv x e).v.ck.th = x.v.ck.th := by rw [dEv, hv, vn_ck, h3]
    have htl := hi.v.ck.tl
    obtain ⟨-, s1, -⟩ := stF_nz (can_th hc.1)
    have mono : ∀ u (i : Nat), (thF x.v u).getD i 0 ≤ (thF (dEv x e).v u).getD i 0 := fun u i => by rw [dEv, hv]; exact th_mono hi.v hc u i
    refine ⟨de_inv hi _ _ _, by rw [dEv, hv]; exact b_next hx.b hc, fun w hw i => ?_, fun w hw => ?_⟩
    · by_cases hk : e.1 = 1 ∨ e.1 = 2
      · obtain ⟨p0, p1⟩ := acc_obj hc.1 hk
        have hlen := hi.len
        obtain ⟨w1, hw1⟩ := get_lt (l := x.vs) (i := e.2.2.toNat) (by omega)
        have hwm := hx.vs w1 (List.mem_of_getElem? hw1)
        have hown : l.getD e.2.1.toNat 0 ≤ (thF (dEv x e).v (e.2.1.toNat : Int)).getD e.2.1.toNat 0 := by
          have := mono (e.2.1.toNat : Int) e.2.1.toNat
          rw [hT, hlt] at this
          rw [hT]; exact this
        have hset : ∀ q : List Int, q.getD i 0 ≤ (thF x.v (i : Int)).getD i 0 → (stL q e.2.1.toNat (l.getD e.2.1.toNat 0)).getD i 0 ≤ (thF (dEv x e).v (i : Int)).getD i 0 := fun q hq => by
          rw [stL_g]
          split
          · rename_i he; subst he; exact hown
          · exact Int.le_trans hq (mono _ _)
        have hm : ∀ q : List Int, q.getD i 0 ≤ (thF x.v (i : Int)).getD i 0 → q.getD i 0 ≤ (thF (dEv x e).v (i : Int)).getD i 0 := fun q hq => Int.le_trans hq (mono _ _)
        have hw2 : w ∈ x.vs.set e.2.2.toNat (acW x.v.ck.n e.1 e.2.1 l w1) := by have h9 := hw; rw [dEv, de_acc hc hk hw1 hth] at h9; exact h9
        rcases List.mem_or_eq_of_mem_set hw2 with h | rfl
        · exact ⟨hm _ (hx.vs w h i).1, hm _ (hx.vs w h i).2⟩
        · have h5 := hwm i
          unfold acW
          constructor
          · show (if e.1 = 2 then w1.1 else _ : List Int).getD i 0 ≤ _
            split
            · exact hm _ h5.1
            · exact hset _ h5.1
          · show (if e.1 = 2 then _ else w1.2.1 : List Int).getD i 0 ≤ _
            split
            · exact hset _ h5.2
            · exact hm _ h5.2
      · have hw2 : w ∈ x.vs := by have h9 := hw; rw [dEv, de_no hc (by omega) (by omega)] at h9; exact h9
        exact ⟨Int.le_trans (hx.vs w hw2 i).1 (mono _ _), Int.le_trans (hx.vs w hw2 i).2 (mono _ _)⟩
    · rw [hth2]
      by_cases hk : e.1 = 1 ∨ e.1 = 2
      · obtain ⟨p0, p1⟩ := acc_obj hc.1 hk
        have hlen := hi.len
        obtain ⟨w1, hw1⟩ := get_lt (l := x.vs) (i := e.2.2.toNat) (by omega)
        have hwm := hx.ln w1 (List.mem_of_getElem? hw1)
        have hs : ∀ q : List Int, (q.length : Int) ≤ x.v.ck.th → ((stL q e.2.1.toNat (l.getD e.2.1.toNat 0)).length : Int) ≤ x.v.ck.th := fun q hq => by
          have := stL_len q e.2.1.toNat (l.getD e.2.1.toNat 0)
          omega
        have hw2 : w ∈ x.vs.set e.2.2.toNat (acW x.v.ck.n e.1 e.2.1 l w1) := by have h9 := hw; rw [dEv, de_acc hc hk hw1 hth] at h9; exact h9
        rcases List.mem_or_eq_of_mem_set hw2 with h | rfl
        · exact hx.ln w h
        · unfold acW
          constructor
          · show ((if e.1 = 2 then w1.1 else _ : List Int).length : Int) ≤ _
            split
            · exact hwm.1
            · exact hs _ hwm.1
          · show ((if e.1 = 2 then _ else w1.2.1 : List Int).length : Int) ≤ _
            split
            · exact hs _ hwm.2
            · exact hwm.2
      · have hw2 : w ∈ x.vs := by have h9 := hw; rw [dEv, de_no hc (by omega) (by omega)] at h9; exact h9
        exact hx.ln w hw2
  · rw [g_no hc]; exact hx
theorem flF_count (vs : List V4) : (flF vs).length = vs.countP (fun w => w.2.2.2) := by
  have h : ∀ (l : List V4) (k : Nat), ((l.zipIdx k).filter (fun p => p.1.2.2.2)).length = l.countP (fun w => w.2.2.2) := by
    intro l
    induction l with
    | nil => intro k; rfl
    | cons a l ih =>
      intro k
      rw [List.zipIdx_cons, List.filter_cons, List.countP_cons]
      cases ha : a.2.2.2 <;> simp [ih]
  rw [flF, List.length_map, h]
theorem g_lens {x : DS} (hx : GInv x) (z : Int) : ((rdsF (wF x z)).length : Int) ≤ x.v.ck.th ∧ ((wrsF (wF x z)).length : Int) ≤ x.v.ck.th := by
  have ht := hx.inv.v.ck.sh.th
  cases hw : wF x z with
  | none => simp [rdsF, wrsF]; omega
  | some w =>
    unfold wF at hw
    split at hw
    · exact hx.ln w (List.mem_of_getElem? hw)
    · cases hw
/-- What an event does to what is told. -/
theorem g_tells {x : DS} (hx : GInv x) (e : T3) : (wF (dEv x e) e.2.2).isSome = (wF x e.2.2).isSome ∧ mostP (rdsF (wF (dEv x e) e.2.2)) (rdsF (wF x e.2.2)) ∧ mostP (wrsF (wF (dEv x e) e.2.2)) (wrsF (wF x e.2.2)) ∧
    mostP (thF (dEv x e).v e.2.1) (thF x.v e.2.1) ∧ ((rdsF (wF (dEv x e) e.2.2)).length : Int) ≤ x.v.ck.th ∧ ((wrsF (wF (dEv x e) e.2.2)).length : Int) ≤ x.v.ck.th ∧ (flF x.vs).length ≤ (flF (dEv x e).vs).length ∧
    (canE x e → e.1 = 1 → eZ (rdsF (wF (dEv x e) e.2.2)) e.2.1 = eZ (thF x.v e.2.1) e.2.1 ∧ wrsF (wF (dEv x e) e.2.2) = wrsF (wF x e.2.2) ∧ (dEv x e).cost = x.cost + 1) ∧
    (canE x e → e.1 = 2 → eZ (wrsF (wF (dEv x e) e.2.2)) e.2.1 = eZ (thF x.v e.2.1) e.2.1 ∧ rdsF (wF (dEv x e) e.2.2) = rdsF (wF x e.2.2) ∧ (dEv x e).cost = x.cost + 2) ∧
    (canE x e → e.1 ≠ 1 → e.1 ≠ 2 → rdsF (wF (dEv x e) e.2.2) = rdsF (wF x e.2.2) ∧ wrsF (wF (dEv x e) e.2.2) = wrsF (wF x e.2.2) ∧ flF (dEv x e).vs = flF x.vs ∧ (dEv x e).cost = x.cost) := by
  have hi := hx.inv
  have mrefl : ∀ l : List Int, mostP l l := fun l i _ => Int.le_refl _
  have hlen0 : ∀ z, ((rdsF (wF x z)).length : Int) ≤ x.v.ck.th ∧ ((wrsF (wF x z)).length : Int) ≤ x.v.ck.th := fun z => by
    have ht := hi.v.ck.sh.th
    cases hw : wF x z with
    | none => simp [rdsF, wrsF]; omega
    | some w =>
      unfold wF at hw
      split at hw
      · exact hx.ln w (List.mem_of_getElem? hw)
      · cases hw
  by_cases hc : canE x e
  · obtain ⟨l, hth⟩ := th_some hi.v (can_th hc.1)
    have hlt := thF_eq hth
    obtain ⟨t0, t1⟩ := th_rng hi.v (can_th hc.1)
    have hT : (e.2.1.toNat : Int) = e.2.1 := by omega
    have mT : mostP (thF (dEv x e).v e.2.1) (thF x.v e.2.1) := fun i _ => by rw [dEv, de_v hc]; exact th_mono hi.v hc _ i
    by_cases hk : e.1 = 1 ∨ e.1 = 2
    · obtain ⟨p0, p1⟩ := acc_obj hc.1 hk
      have hlen := hi.len
      obtain ⟨w, hw⟩ := get_lt (l := x.vs) (i := e.2.2.toNat) (by omega)
      have hwF : wF x e.2.2 = some w := by rw [wF, if_pos p0, hw]
      have hwF2 : wF (dEv x e) e.2.2 = some (acW x.v.ck.n e.1 e.2.1 l w) := by rw [dEv, wF_acc hc hk hth p0 (by omega), if_pos rfl, hwF]; rfl
      have hwm := hx.vs w (List.mem_of_getElem? hw)
      have hln := (g_next hx e).ln
      have hth2 : (dEv x e).v.ck.th = x.v.ck.th := by rw [dEv, de_v hc, vn_ck, (nxF_can hc.1).2.2]
      have hmem : acW x.v.ck.n e.1 e.2.1 l w ∈ (dEv x e).vs := by
        unfold wF at hwF2
        rw [if_pos p0] at hwF2
        exact List.mem_of_getElem? hwF2
      have hl2 := hln _ hmem
      rw [hth2] at hl2
      have hst : ∀ q : List Int, (∀ i : Nat, q.getD i 0 ≤ (thF x.v (i : Int)).getD i 0) → mostP (stL q e.2.1.toNat (l.getD e.2.1.toNat 0)) q := fun q hq i _ => by
        rw [stL_g]
        split
        · rename_i he; subst he
          have := hq e.2.1.toNat
          rw [hT, hlt] at this; exact this
        · exact Int.le_refl _
      have hez : ∀ q : List Int, eZ (stL q e.2.1.toNat (l.getD e.2.1.toNat 0)) e.2.1 = eZ l e.2.1 := fun q => by
        unfold eZ; rw [if_neg (by omega), if_neg (by omega), stL_g, if_pos rfl]
      have hcost : (dEv x e).cost = x.cost + e.1 := by rw [dEv, de_acc hc hk hw hth]
      have hfl : (flF x.vs).length ≤ (flF (dEv x e).vs).length := by
        rw [flF_count, flF_count, dEv, de_acc hc hk hw hth]
        have h := count_set (p := fun w : V4 => w.2.2.2) (b := acW x.v.ck.n e.1 e.2.1 l w) hw
        cases hq : w.2.2.2 with
        | true =>
          have : (acW x.v.ck.n e.1 e.2.1 l w).2.2.2 = true := by simp [acW, hq]
          simp only [hq, this, if_true] at h
          show _ ≤ (x.vs.set _ _).countP _
          omega
        | false =>
          simp only [hq, Bool.false_eq_true, if_false] at h
          show _ ≤ (x.vs.set _ _).countP _
          omega
      rw [hwF, hwF2, hlt]
      refine ⟨rfl, ?_, ?_, by rw [← hlt]; exact mT, hl2.1, hl2.2, hfl, fun _ k1 => ⟨?_, ?_, by omega⟩, fun _ k2 => ⟨?_, ?_, by omega⟩, fun _ h1 h2 => absurd hk (by omega)⟩
      · show mostP (if e.1 = 2 then w.1 else _) w.1
        split
        · exact mrefl _
        · exact hst _ fun i => (hwm i).1
      · show mostP (if e.1 = 2 then _ else w.2.1) w.2.1
        split
        · exact hst _ fun i => (hwm i).2
        · exact mrefl _
      · show eZ (if e.1 = 2 then w.1 else _) e.2.1 = _
        rw [if_neg (by omega)]; exact hez _
      · show (if e.1 = 2 then _ else w.2.1) = w.2.1
        rw [if_neg (by omega)]
      · show eZ (if e.1 = 2 then _ else w.2.1) e.2.1 = _
        rw [if_pos k2]; exact hez _
      · show (if e.1 = 2 then w.1 else _) = w.1
        rw [if_pos k2]
    · have hw : ∀ z, wF (dEv x e) z = wF x z := fun z => by rw [dEv, wF_no hc hk]
      have hvs : (dEv x e).vs = x.vs := by rw [dEv, de_no hc (by omega) (by omega)]
      have hco : (dEv x e).cost = x.cost := by rw [dEv, de_no hc (by omega) (by omega)]
      rw [hw, hvs]
      exact ⟨rfl, mrefl _, mrefl _, mT, (hlen0 _).1, (hlen0 _).2, Nat.le_refl _, fun _ k1 => absurd (.inl k1) hk, fun _ k2 => absurd (.inr k2) hk, fun _ _ _ => ⟨rfl, rfl, rfl, hco⟩⟩
  · rw [g_no hc]
    exact ⟨rfl, mrefl _, mrefl _, mrefl _, (hlen0 _).1, (hlen0 _).2, Nat.le_refl _, fun h => absurd h hc, fun h => absurd h hc, fun h => absurd h hc⟩
theorem g_new {th va vo lk : Int} {pl : List Int} (hok : OkS th va vo lk pl) : GInv (dNew th va vo lk pl) := by
  have hi := new_dinv hok (new_inv hok)
  have ht := hok.th
  refine ⟨hi, ⟨hi.v, fun t l h i => ?_, fun t l h => (by cases h), fun t l h => (by cases h), fun r p h => (by cases h)⟩, fun w hw i => ?_, fun w hw => ?_⟩
  · rcases upd_some (show upd noF 0 (some [1]) t = some l from h) with ⟨-, h⟩ | ⟨-, h⟩
    · cases h
      show ([1] : List Int).getD i 0 ≤ 0 + 1
      rcases i with _ | i <;> simp
    · cases h
  · rw [(List.mem_replicate.1 hw).2]
    have := cv_nn (thF_cv hi.v (i : Int)) i
    simpa [v0] using this
  · rw [(List.mem_replicate.1 hw).2]
    show ((0 : Nat) : Int) ≤ th ∧ ((0 : Nat) : Int) ≤ th
    omega
theorem dAll_g {x : DS} (hx : GInv x) : ∀ es, GInv (dAll x es)
  | [] => hx
  | e :: es => dAll_g (g_next hx e) es
theorem entry_spec (xs : List Int) (ao : Option Addr) (n c : Nat) (A : HProp) (hn : xs.length = n) (hr : RdS A ao (xs.flatMap encU)) (z : Int) : Spec Try.prog 12 [.slice ao n c, .int .i64 z] [A] (fun (_ : Unit) => .int .u64 (eZ xs z)) (fun _ => True) (fun _ => [A]) := by
 refine spec_mk (n := 17) Try.func12 rfl rfl rfl ?_
 intro Γ w0
 simp only [argE, List.cons_append, List.nil_append, Nat.zero_add, Nat.reduceAdd]
 refine c_seq ?_
 refine c_plain (.q 0 (.done)) (by kernel_rfl) ?_
 refine q_assign rfl rfl rfl rfl ?_
 refine r_done ?_
 refine k_then_n ?_
 refine c_seq ?_
 refine c_seq ?_
 refine c_plain (.q 0 (.q 1 (.q 2 (.q 3 (.q 4 (.q 5 (.q 6 (.q 7 (.done))))))))) (by kernel_rfl) ?_
 refine q_move rfl rfl rfl rfl ?_
 refine q_int rfl rfl rfl rfl rfl (b_lss _ _ _ _) ?_
 refine q_move rfl rfl rfl rfl ?_
 refine s_bool_p 7 rfl (fun hn0 => ?_) (fun hn0 => ?_)
 ·
  have hgz : eZ xs z = 0 := if_pos hn0
  refine q_skip rfl rfl rfl rfl ?_
  refine q_skip rfl rfl rfl rfl ?_
  refine q_skip rfl rfl rfl rfl ?_
  refine q_skip rfl rfl rfl rfl ?_
  refine q_pick_t rfl rfl rfl rfl rfl ?_
  refine r_done ?_
  refine s_keep [0, 1, 12] (e' := [(0, _), (1, _), (12, _)]) rfl ?_
  refine k_then_n ?_
  refine c_cond_t rfl ?_
  refine c_seq ?_
  refine c_plain (.q 0 (.done)) (by kernel_rfl) ?_
  refine q_assign rfl rfl rfl rfl ?_
  refine r_done ?_
  refine k_then_n ?_
  refine c_ret ?_
  refine k_then_ret ?_
  refine ret1 rfl rfl (()) (by rw [hgz]) (by trivial) ?_
  (repeat ((with_reducible apply Z2); focus (first | (with_reducible (repeat (first | exact Z0 | apply Z1)); done) | (repeat (first | exact Z0 | apply Z1))))); (repeat (first | exact Z3 | exact Takes.self | refine takes_drop2 ?_))
 ·
  obtain ⟨i, rfl⟩ := Int.eq_ofNat_of_zero_le (show 0 ≤ z by omega)
  refine q_move rfl rfl rfl rfl ?_
  refine q_move rfl rfl rfl rfl ?_
  refine q_len rfl rfl rfl rfl Try.underlying31 ?_
  refine q_int rfl rfl rfl rfl rfl (b_geq _ _ _ _) ?_
  refine q_pick_f rfl rfl rfl rfl rfl ?_
  refine r_done ?_
  refine s_keep [0, 1, 12] (e' := [(0, _), (1, _), (12, _)]) rfl ?_
  refine k_then_n ?_
  refine c_cond_p rfl (fun hge => ?_) (fun hge => ?_)
  ·
   have hgz : eZ xs (i : Int) = 0 := by rw [eZ, if_neg (by omega), Int.toNat_natCast, gout (by omega)]
   refine c_seq ?_
   refine c_plain (.q 0 (.done)) (by kernel_rfl) ?_
   refine q_assign rfl rfl rfl rfl ?_
   refine r_done ?_
   refine k_then_n ?_
   refine c_ret ?_
   refine k_then_ret ?_
   refine ret1 rfl rfl (()) (by rw [hgz]) (by trivial) ?_
   (repeat ((with_reducible apply Z2); focus (first | (with_reducible (repeat (first | exact Z0 | apply Z1)); done) | (repeat (first | exact Z0 | apply Z1))))); (repeat (first | exact Z3 | exact Takes.self | refine takes_drop2 ?_))
  ·
   obtain ⟨x, hx⟩ := get_lt (l := xs) (i := i) (by omega)
   refine c_skip ?_
   refine k_then_n ?_
   refine c_seq ?_
   refine c_plain (.q 0 (.q 1 (.q 2 (.q 3 (.q 4 (.done)))))) (by kernel_rfl) ?_
   refine q_move rfl rfl rfl rfl ?_
   refine q_move rfl rfl rfl rfl ?_
   refine q_idxR (sz := 0) (k := i) rfl rfl rfl rfl rfl Try.underlying31 Try.sizeOf35 (hr) hx encU_len (by first | rfl | omega) (by omega) ?_
   intro ib15 io15 _ hd15
   refine q_load rfl rfl rfl rfl Try.isAgg35 (by with_reducible (repeat (first | exact Z0 | apply Z1))) (hd15 0 (.int .u64 x) rfl) ?_
   refine q_assign rfl rfl rfl rfl ?_
   refine r_done ?_
   refine s_keep [4] (e' := [(4, _)]) rfl ?_
   refine k_then_n ?_
   refine c_ret ?_
   refine ret1 rfl rfl (()) (by rw [eZ, if_neg (by omega), Int.toNat_natCast, getD_mem hx]) (by trivial) ?_
   (repeat ((with_reducible apply Z2); focus (first | (with_reducible (repeat (first | exact Z0 | apply Z1)); done) | (repeat (first | exact Z0 | apply Z1))))); (repeat (first | exact Z3 | exact Takes.self | refine takes_drop2 ?_))

theorem most_spec (xs ys : List Int) (ao bo : Option Addr) (n m c d : Nat) (A : HProp) (hn : xs.length = n) (hr : RdS A ao (xs.flatMap encU)) (hm : ys.length = m) (hr2 : RdS A bo (ys.flatMap encU)) (hb : m ≤ 4000000) : Spec Try.prog 28 [.slice ao n c, .slice bo m d] [A] (fun (_ : Unit) => .bool (decide (mostP xs ys))) (fun _ => True) (fun _ => [A]) := by
 refine spec_mk (n := 20) Try.func28 rfl rfl rfl ?_
 intro Γ w0
 simp only [argE, List.cons_append, List.nil_append, Nat.zero_add, Nat.reduceAdd]
 refine c_seq ?_
 refine c_plain (.q 0 (.done)) (by kernel_rfl) ?_
 refine q_assign rfl rfl rfl rfl ?_
 refine r_done ?_
 refine k_then_n ?_
 refine c_seq ?_
 refine c_seq ?_
 refine c_plain (.q 0 (.done)) (by kernel_rfl) ?_
 refine q_assign rfl rfl rfl rfl ?_
 refine r_done ?_
 refine k_then_n ?_
 refine c_block ?_
 refine c_loop2 (α := Nat) (fun (i : Nat) => i ≤ m ∧ (∀ j : Nat, j < i → ys.getD j 0 ≤ xs.getD j 0)) (fun (i : Nat) => [(5, .int .i64 ((i : Nat) : Int))]) (fun (i : Nat) => []) (fun (i : Nat) => m - i) [0, 1] (er := [(0, _), (1, _)]) rfl (0) ?_ (by exact ⟨rfl, trivial⟩) (by (try dsimp only); (try simp only [Nat.add_zero, Nat.zero_add]); (repeat ((with_reducible apply Z2); focus (first | (with_reducible (repeat (first | exact Z0 | apply Z1)); done) | (repeat (first | exact Z0 | apply Z1))))); exact Z3) ?_
 · exact ⟨Nat.zero_le _, fun j h => by omega⟩
 rintro i ⟨hle_i, hI⟩
 try simp only [List.cons_append, List.nil_append]
 refine c_seq ?_
 refine c_seq ?_
 refine c_plain (.q 0 (.q 1 (.q 2 (.q 3 (.done))))) (by kernel_rfl) ?_
 refine q_move rfl rfl rfl rfl ?_
 refine q_move rfl rfl rfl rfl ?_
 refine q_len rfl rfl rfl rfl Try.underlying31 ?_
 refine q_int rfl rfl rfl rfl rfl (b_lss _ _ _ _) ?_
 refine r_done ?_
 refine k_then_n ?_
 refine c_cond_p rfl (fun hlt => ?_) (fun hlt => ?_)
 ·
  refine c_skip ?_
  refine k_then_n ?_
  refine c_seq ?_
  refine c_block ?_
  refine c_seq ?_
  refine c_draw rfl (.q 0 (.q 1 (.q 3 (.q 4 (.q 5 (.q 6 ((.l 2 [6] (.q 7 (.done)))))))))) (by kernel_rfl) ?_
  refine q_move rfl rfl rfl rfl ?_
  refine q_move rfl rfl rfl rfl ?_
  refine q_move rfl rfl rfl rfl ?_
  refine q_move rfl rfl rfl rfl ?_
  obtain ⟨y, hy⟩ := get_lt (l := ys) (i := i) (by first | omega | (simp; done) | (simp; omega))
  refine q_idxR (sz := 0) (k := i) rfl rfl rfl rfl rfl Try.underlying31 Try.sizeOf35 (hr2) hy encU_len (by first | rfl | omega) (by omega) ?_
  intro ib17 io17 _ hd17
  refine q_load rfl rfl rfl rfl Try.isAgg35 (by with_reducible (repeat (first | exact Z0 | apply Z1))) (hd17 0 (.int .u64 y) rfl) ?_
  have sp_1 := entry_spec xs ao n c A hn hr (i : Int)
  refine l_call rfl rfl rfl rfl rfl rfl Try.call12 (sp_1) (by (repeat ((with_reducible apply Z2); focus (first | (with_reducible (repeat (first | exact Z0 | apply Z1)); done) | (repeat (first | exact Z0 | apply Z1))))); exact Z3) ?_
  rintro ⟨⟩ -
  try simp only [List.cons_append, List.nil_append]
  refine ag_load rfl rfl rfl Try.isAgg35 (by with_reducible (repeat (first | exact Z0 | apply Z1))) (hd17 0 (.int .u64 y) rfl) ?_
  refine ag_nil ?_
  refine q_int rfl rfl rfl rfl rfl (b_lss _ _ _ _) ?_
  refine r_done ?_
  refine s_keep [0, 1, 5, 19] (e' := [(0, _), (1, _), (5, _), (19, _)]) rfl ?_
  refine k_then_n ?_
  refine c_cond_p rfl (fun hlt2 => ?_) (fun hlt2 => ?_)
  ·
   refine c_seq ?_
   refine c_plain (.q 0 (.done)) (by kernel_rfl) ?_
   refine q_assign rfl rfl rfl rfl ?_
   refine r_done ?_
   refine s_keep [4] (e' := [(4, _)]) rfl ?_
   refine k_then_n ?_
   refine c_ret ?_
   refine k_blk_ret ?_
   refine k_then_ret ?_
   refine k_then_ret ?_
   refine k_blk_ret ?_
   refine k_then_ret ?_
   refine ret1 rfl rfl (()) (by congr 1; symm; simp only [decide_eq_false_iff_not]; intro h; have h9 := h i (by omega); rw [getD_mem hy] at h9; have h8 := hlt2; unfold eZ at h8; rw [if_neg (by omega), Int.toNat_natCast] at h8; omega) (by trivial) ?_
   (repeat ((with_reducible apply Z2); focus (first | (with_reducible (repeat (first | exact Z0 | apply Z1)); done) | (repeat (first | exact Z0 | apply Z1))))); (repeat (first | exact Z3 | exact Takes.self | refine takes_drop2 ?_))
  ·
   refine c_skip ?_
   refine k_blk_n ?_
   refine k_then_n ?_
   refine c_plain (.q 0 (.q 1 (.q 2 (.done)))) (by kernel_rfl) ?_
   refine q_move rfl rfl rfl rfl ?_
   refine q_int rfl rfl rfl rfl rfl (b_add' _ (by exact fits_i64 (by omega) (by omega))) ?_
   refine q_assign rfl rfl rfl rfl ?_
   refine r_done ?_
   refine k_then_n ?_
   refine loop_next (x := i) (i + 1) ?_ ?_ ?_ ?_
   · exact ⟨by omega, fun j hj => (by
         by_cases h : j = i
         · subst h; rw [getD_mem hy]; have h8 := hlt2; unfold eZ at h8; rw [if_neg (by omega), Int.toNat_natCast] at h8; omega
         · exact hI j (by omega))⟩
   · show m - (i + 1) < m - i; omega
   · exact ⟨rfl, rfl, rfl, trivial⟩
   · (try simp only [List.cons_append, List.nil_append]); (repeat ((with_reducible apply Z2); focus (first | (with_reducible (repeat (first | exact Z0 | apply Z1)); done) | (repeat (first | exact Z0 | apply Z1))))); (repeat (first | exact Z3 | exact Takes.self | refine takes_drop2 ?_))
 ·
  refine c_exit ?_
  refine k_then_exit ?_
  refine k_then_exit ?_
  refine k_blk_here ?_
  refine k_then_n ?_
  refine c_seq ?_
  refine c_plain (.q 0 (.done)) (by kernel_rfl) ?_
  refine q_assign rfl rfl rfl rfl ?_
  refine r_done ?_
  refine s_keep [4] (e' := [(4, _)]) rfl ?_
  refine k_then_n ?_
  refine c_ret ?_
  refine ret1 rfl rfl (()) (by congr 1; symm; simp only [decide_eq_true_eq]; intro j hj; exact hI j (by omega)) (by trivial) ?_
  (repeat ((with_reducible apply Z2); focus (first | (with_reducible (repeat (first | exact Z0 | apply Z1)); done) | (repeat (first | exact Z0 | apply Z1))))); (repeat (first | exact Z3 | exact Takes.self | refine takes_drop2 ?_))

theorem grows_ok (th va vo lk : Int) (pl : List Int) (ao : Option Addr) (n c : Nat) (A : HProp) (hr : RdS A ao (pl.flatMap encZ)) (hn : pl.length = n) (hb : n ≤ 4000000) (hok : OkS th va vo lk pl) (es : List T3) (eo : Option Addr) (m ec : Nat) (he_ : RdS A eo (es.flatMap enc3)) (hem : es.length = m) (hmb : m ≤ 4000000) : Spec Try.prog 7 [.agg #[.int .i64 th, .int .i64 va, .int .i64 vo, .int .i64 lk, .slice ao n c], .slice eo m ec] [A] (fun (_ : Unit) => .bool true) (fun _ => True) (fun _ => [A]) := by
 refine spec_mk (n := 262) Try.func7 rfl rfl rfl ?_
 intro Γ w0
 simp only [argE, List.cons_append, List.nil_append, Nat.zero_add, Nat.reduceAdd]
 refine c_seq ?_
 refine c_plain ((.l 0 [] (.q 1 (.done)))) (by kernel_rfl) ?_
 refine l_box rfl rfl rfl rfl (us := [_, _, _, _, _]) rfl ?_
 intro b2
 refine ag_nil ?_
 refine q_assign rfl rfl rfl rfl ?_
 refine r_done ?_
 refine k_then_n ?_
 refine c_seq ?_
 refine c_seq ?_
 refine c_plain ((.l 0 [] (.q 1 (.q 2 (.q 3 (.q 4 (.q 5 (.q 6 (.q 7 (.q 8 (.q 9 (.q 10 (.q 11 (.q 12 (.q 13 (.q 14 (.q 15 (.q 16 (.done))))))))))))))))))) (by kernel_rfl) ?_
 refine l_call rfl rfl rfl rfl rfl rfl Try.call8 (works_spec) (by (repeat ((with_reducible apply Z2); focus (first | (with_reducible (repeat (first | exact Z0 | apply Z1)); done) | (repeat (first | exact Z0 | apply Z1))))); exact Z3) ?_
 rintro ⟨⟩ -
 try simp only [List.cons_append, List.nil_append]
 refine ag_nil ?_
 refine q_not rfl rfl rfl rfl ?_
 refine s_eq 24 rfl (v' := .bool false) rfl ?_
 refine q_move rfl rfl rfl rfl ?_
 refine q_move rfl rfl rfl rfl ?_
 refine q_len rfl rfl rfl rfl Try.underlying25 ?_
 refine q_int rfl rfl rfl rfl rfl (b_gtr _ _ _ _) ?_
 refine q_pick_f rfl rfl rfl rfl rfl ?_
 refine q_move rfl rfl rfl rfl ?_
 refine s_bool_p 30 rfl (fun hb1 => ?_) (fun hb1 => ?_)
 ·
  refine q_skip rfl rfl rfl rfl ?_
  refine q_skip rfl rfl rfl rfl ?_
  refine q_skip rfl rfl rfl rfl ?_
  refine q_pick_t rfl rfl rfl rfl rfl ?_
  refine q_move rfl rfl rfl rfl ?_
  refine q_skip rfl rfl rfl rfl ?_
  refine q_skip rfl rfl rfl rfl ?_
  refine q_skip rfl rfl rfl rfl ?_
  refine q_pick_t rfl rfl rfl rfl rfl ?_
  refine r_done ?_
  refine s_keep [1, 2, 39] (e' := [(1, _), (2, _), (39, _)]) rfl ?_
  refine k_then_n ?_
  refine c_cond_t rfl ?_
  refine c_seq ?_
  refine c_plain ((.l 0 [] (.q 1 (.done)))) (by kernel_rfl) ?_
  refine l_call rfl rfl rfl rfl rfl rfl Try.call8 (works_spec) (by (repeat ((with_reducible apply Z2); focus (first | (with_reducible (repeat (first | exact Z0 | apply Z1)); done) | (repeat (first | exact Z0 | apply Z1))))); exact Z3) ?_
  rintro ⟨⟩ -
  try simp only [List.cons_append, List.nil_append]
  refine ag_nil ?_
  refine q_assign rfl rfl rfl rfl ?_
  refine r_done ?_
  refine s_keep [4] (e' := [(4, _)]) rfl ?_
  refine k_then_n ?_
  refine c_ret ?_
  refine k_then_ret ?_
  refine ret1 rfl rfl (()) (by first | rfl | (first | rfl | (congr 1; done) | (congr 1 <;> first | rfl | omega | (simp; done) | (simp; omega)))) (by trivial) ?_
  (repeat ((with_reducible apply Z2); focus (first | (with_reducible (repeat (first | exact Z0 | apply Z1)); done) | (repeat (first | exact Z0 | apply Z1))))); (repeat (first | exact Z3 | exact Takes.self | refine takes_drop2 ?_))
 ·
  refine q_field (k := 0) rfl rfl rfl rfl Try.underlying24 rfl Try.sizeOf3 rfl ?_
  refine q_load_c (j := 0) rfl rfl rfl rfl Try.isAgg3 (by with_reducible (repeat (first | exact Z0 | apply Z1))) (by first | rfl | exact (Nat.add_zero _).symm) (by rfl) ?_
  refine q_int rfl rfl rfl rfl rfl (b_gtr _ _ _ _) ?_
  refine q_pick_f rfl rfl rfl rfl rfl ?_
  refine q_move rfl rfl rfl rfl ?_
  refine s_bool_p 35 rfl (fun hb2 => ?_) (fun hb2 => ?_)
  ·
   refine q_skip rfl rfl rfl rfl ?_
   refine q_skip rfl rfl rfl rfl ?_
   refine q_skip rfl rfl rfl rfl ?_
   refine q_pick_t rfl rfl rfl rfl rfl ?_
   refine r_done ?_
   refine s_keep [1, 2, 39] (e' := [(1, _), (2, _), (39, _)]) rfl ?_
   refine k_then_n ?_
   refine c_cond_t rfl ?_
   refine c_seq ?_
   refine c_plain ((.l 0 [] (.q 1 (.done)))) (by kernel_rfl) ?_
   refine l_call rfl rfl rfl rfl rfl rfl Try.call8 (works_spec) (by (repeat ((with_reducible apply Z2); focus (first | (with_reducible (repeat (first | exact Z0 | apply Z1)); done) | (repeat (first | exact Z0 | apply Z1))))); exact Z3) ?_
   rintro ⟨⟩ -
   try simp only [List.cons_append, List.nil_append]
   refine ag_nil ?_
   refine q_assign rfl rfl rfl rfl ?_
   refine r_done ?_
   refine s_keep [4] (e' := [(4, _)]) rfl ?_
   refine k_then_n ?_
   refine c_ret ?_
   refine k_then_ret ?_
   refine ret1 rfl rfl (()) (by first | rfl | (first | rfl | (congr 1; done) | (congr 1 <;> first | rfl | omega | (simp; done) | (simp; omega)))) (by trivial) ?_
   (repeat ((with_reducible apply Z2); focus (first | (with_reducible (repeat (first | exact Z0 | apply Z1)); done) | (repeat (first | exact Z0 | apply Z1))))); (repeat (first | exact Z3 | exact Takes.self | refine takes_drop2 ?_))
  ·
   refine q_field (k := 1) rfl rfl rfl rfl Try.underlying24 rfl Try.sizeOf3 rfl ?_
   refine q_load_c (j := 1) rfl rfl rfl rfl Try.isAgg3 (by with_reducible (repeat (first | exact Z0 | apply Z1))) (by first | rfl | exact (Nat.add_zero _).symm) (by rfl) ?_
   refine q_int rfl rfl rfl rfl rfl (b_gtr _ _ _ _) ?_
   refine q_pick_f rfl rfl rfl rfl rfl ?_
   refine r_done ?_
   refine s_keep [1, 2, 39] (e' := [(1, _), (2, _), (39, _)]) rfl ?_
   refine k_then_n ?_
   refine c_cond_p rfl (fun hb3 => ?_) (fun hb3 => ?_)
   ·
    refine c_seq ?_
    refine c_plain ((.l 0 [] (.q 1 (.done)))) (by kernel_rfl) ?_
    refine l_call rfl rfl rfl rfl rfl rfl Try.call8 (works_spec) (by (repeat ((with_reducible apply Z2); focus (first | (with_reducible (repeat (first | exact Z0 | apply Z1)); done) | (repeat (first | exact Z0 | apply Z1))))); exact Z3) ?_
    rintro ⟨⟩ -
    try simp only [List.cons_append, List.nil_append]
    refine ag_nil ?_
    refine q_assign rfl rfl rfl rfl ?_
    refine r_done ?_
    refine s_keep [4] (e' := [(4, _)]) rfl ?_
    refine k_then_n ?_
    refine c_ret ?_
    refine k_then_ret ?_
    refine ret1 rfl rfl (()) (by first | rfl | (first | rfl | (congr 1; done) | (congr 1 <;> first | rfl | omega | (simp; done) | (simp; omega)))) (by trivial) ?_
    (repeat ((with_reducible apply Z2); focus (first | (with_reducible (repeat (first | exact Z0 | apply Z1)); done) | (repeat (first | exact Z0 | apply Z1))))); (repeat (first | exact Z3 | exact Takes.self | refine takes_drop2 ?_))
   ·
    refine c_skip ?_
    refine k_then_n ?_
    refine c_seq ?_
    refine c_plain (.q 0 ((.l 1 [] (.q 2 (.q 3 (.q 4 (.q 5 (.q 6 (.done))))))))) (by kernel_rfl) ?_
    refine q_loadN_c rfl rfl rfl rfl Try.isAgg24 Try.sizeOf24 (by with_reducible (repeat (first | exact Z0 | apply Z1))) 0 (us := [_, _, _, _, _]) (by first | rfl | exact (Nat.add_zero _).symm) rfl rfl ?_
    have sp_1 := Dj.new_spec th va vo lk pl ao n c A (hr) (by first | rfl | assumption | omega | (simp; done) | (simp; omega)) (by omega) hok
    refine l_call rfl rfl rfl rfl rfl rfl Try.call15 (sp_1) (by (repeat ((with_reducible apply Z2); focus (first | (with_reducible (repeat (first | exact Z0 | apply Z1)); done) | (repeat (first | exact Z0 | apply Z1))))); exact Z3) ?_
    rintro ⟨d, ⟨dpa, dpc⟩, dpo, dpoc⟩ -
    try simp only [List.cons_append, List.nil_append]
    refine ag_nil ?_
    refine q_move rfl rfl rfl rfl ?_
    refine q_extract rfl rfl rfl rfl rfl ?_
    refine q_extract rfl rfl rfl rfl rfl ?_
    refine q_assign rfl rfl rfl rfl ?_
    refine q_assign rfl rfl rfl rfl ?_
    refine r_done ?_
    obtain ⟨x0, hx0⟩ : ∃ y, y = dNew th va vo lk pl := ⟨_, rfl⟩
    rw [← hx0]
    have hi0 : DInv x0 := by rw [hx0]; exact new_dinv hok (new_inv hok)
    have hn0 : x0.v.ck.n = 0 := by rw [hx0]; rfl
    have hp0 : x0.v.ck.pa = pl := by rw [hx0]; rfl
    have hg0 : GInv x0 := by rw [hx0]; exact g_new hok
    have hc0 : x0.cost = 0 := by rw [hx0]; rfl
    refine s_keep [1, 2, 5, 6] (e' := [(1, _), (2, _), (5, _), (6, _)]) rfl ?_
    refine k_then_n ?_
    refine c_seq ?_
    refine c_plain (.q 0 ((.l 1 [] (.q 2 (.q 3 (.q 4 (.q 5 (.q 6 (.done))))))))) (by kernel_rfl) ?_
    refine q_loadN_c rfl rfl rfl rfl Try.isAgg24 Try.sizeOf24 (by with_reducible (repeat (first | exact Z0 | apply Z1))) 0 (us := [_, _, _, _, _]) (by first | rfl | exact (Nat.add_zero _).symm) rfl rfl ?_
    have sp_2 := Fe.rnew_spec th va vo lk pl ao n c A hr hn hb hok
    refine l_call rfl rfl rfl rfl rfl rfl Try.call24 (sp_2) (by (repeat ((with_reducible apply Z2); focus (first | (with_reducible (repeat (first | exact Z0 | apply Z1)); done) | (repeat (first | exact Z0 | apply Z1))))); exact Z3) ?_
    rintro ⟨k, kp, kc⟩ -
    try simp only [List.cons_append, List.nil_append]
    refine ag_nil ?_
    refine q_move rfl rfl rfl rfl ?_
    refine q_extract rfl rfl rfl rfl rfl ?_
    refine q_extract rfl rfl rfl rfl rfl ?_
    refine q_assign rfl rfl rfl rfl ?_
    refine q_assign rfl rfl rfl rfl ?_
    refine r_done ?_
    rw [show newF th va vo lk pl = x0.v.ck from by rw [hx0]; rfl]
    refine s_keep [1, 2, 5, 6, 7, 8] (e' := [(1, _), (2, _), (5, _), (6, _), (7, _), (8, _)]) rfl ?_
    refine k_then_n ?_
    refine c_seq ?_
    refine c_seq ?_
    refine c_plain (.q 0 ((.l 1 [] (.q 2 (.q 3 (.done)))))) (by kernel_rfl) ?_
    refine q_move rfl rfl rfl rfl ?_
    have sp_3 := num_spec 0
    refine l_call rfl rfl rfl rfl rfl rfl Try.call16 (sp_3) (by (repeat ((with_reducible apply Z2); focus (first | (with_reducible (repeat (first | exact Z0 | apply Z1)); done) | (repeat (first | exact Z0 | apply Z1))))); exact Z3) ?_
    rintro ⟨⟩ -
    try simp only [List.cons_append, List.nil_append]
    refine ag_nil ?_
    refine q_move rfl rfl rfl rfl ?_
    refine q_int rfl rfl rfl rfl rfl (b_neq _ _ _ _) ?_
    refine s_eq 54 rfl (v' := .bool false) (by first | rfl | simp) ?_
    refine r_done ?_
    refine s_keep [1, 2, 5, 7, 8, 54] (e' := [(1, _), (2, _), (5, _), (7, _), (8, _), (54, _)]) rfl ?_
    refine k_then_n ?_
    refine c_cond_f rfl ?_
    refine c_skip ?_
    refine k_then_n ?_
    refine c_seq ?_
    refine c_seq ?_
    refine c_plain (.q 0 (.q 1 (.done))) (by kernel_rfl) ?_
    refine q_move rfl rfl rfl rfl ?_
    refine q_int rfl rfl rfl rfl rfl (b_neq _ _ _ _) ?_
    refine s_eq 56 rfl (v' := .bool false) (by first | rfl | simp) ?_
    refine r_done ?_
    refine k_then_n ?_
    refine c_cond_f rfl ?_
    refine c_skip ?_
    refine k_then_n ?_
    refine c_seq ?_
    refine c_plain (.q 0 (.done)) (by kernel_rfl) ?_
    refine q_assign rfl rfl rfl rfl ?_
    refine r_done ?_
    refine s_eq 9 rfl (v' := .int .i64 x0.cost) (by rw [hc0]) ?_
    refine s_keep [1, 2, 5, 7, 9] (e' := [(1, _), (2, _), (5, _), (7, _), (9, _)]) rfl ?_
    refine k_then_n ?_
    refine c_seq ?_
    refine c_seq ?_
    refine c_plain (.q 0 (.done)) (by kernel_rfl) ?_
    refine q_assign rfl rfl rfl rfl ?_
    refine r_done ?_
    refine k_then_n ?_
    refine c_block ?_
    refine c_loop2 (α := Nat) (fun (i : Nat) => i ≤ m) (fun (i : Nat) => [(9, .int .i64 ((dAll x0 (es.take i)).cost)), (10, .int .i64 ((i : Nat) : Int))]) (fun (i : Nat) => [dR dpa dpc dpo dpoc d (dAll x0 (es.take i)), own 1 encZ dpa dpc pl, own 1 encZ dpo dpoc pl, rk kp kc k (dAll x0 (es.take i)).v.ck, own 1 encZ kp kc pl]) (fun (i : Nat) => m - i) [1, 2, 5, 7] (er := [(1, _), (2, _), (5, _), (7, _)]) rfl (0) ?_ (by exact ⟨rfl, rfl, trivial⟩) (by (try dsimp only); (try simp only [Nat.add_zero, Nat.zero_add]); (repeat ((with_reducible apply Z2); focus (first | (with_reducible (repeat (first | exact Z0 | apply Z1)); done) | (repeat (first | exact Z0 | apply Z1))))); exact Z3) ?_
    · exact Nat.zero_le _
    rintro i hle_i
    try simp only [List.cons_append, List.nil_append]
    obtain ⟨hdn, hdp, hdt, hdv⟩ := dAll_n (es.take i) x0
    rw [List.length_take] at hdn
    have hG := dAll_g hg0 (es.take i)
    have hI := hG.inv
    have hnz := hI.v.ck.n0
    have hcc := hI.c0
    refine c_seq ?_
    refine c_seq ?_
    refine c_plain (.q 0 (.q 1 (.q 2 (.q 3 (.done))))) (by kernel_rfl) ?_
    refine q_move rfl rfl rfl rfl ?_
    refine q_move rfl rfl rfl rfl ?_
    refine q_len rfl rfl rfl rfl Try.underlying25 ?_
    refine q_int rfl rfl rfl rfl rfl (b_lss _ _ _ _) ?_
    refine r_done ?_
    refine k_then_n ?_
    refine c_cond_p rfl (fun hlt => ?_) (fun hlt => ?_)
    ·
     refine c_skip ?_
     refine k_then_n ?_
     refine c_seq ?_
     refine c_block ?_
     refine c_seq ?_
     refine c_plain (.q 0 (.q 1 (.q 2 (.q 3 ((.l 4 [] ((.l 5 [] (.done))))))))) (by kernel_rfl) ?_
     refine q_move rfl rfl rfl rfl ?_
     refine q_move rfl rfl rfl rfl ?_
     obtain ⟨e, he⟩ := get_lt (l := es) (i := i) (by first | omega | (simp; done) | (simp; omega))
     refine q_idxR (sz := 2) (k := i) rfl rfl rfl rfl rfl Try.underlying25 Try.sizeOf40 (he_) he enc3_len (by first | rfl | omega) (by omega) ?_
     intro ib67 io67 _ hd67
     refine q_loadN (vs := [_, _, _]) rfl rfl rfl rfl Try.isAgg40 Try.sizeOf40 (by with_reducible (repeat (first | exact Z0 | apply Z1))) (hd67) rfl ?_
     refine l_alloc rfl rfl rfl Try.zeroValue40 (zs := [.int .i64 0, .int .i64 0, .int .i64 0]) rfl ?_
     intro b11
     refine ag_nil ?_
     refine l_store (j := 0) rfl rfl rfl rfl Try.sizeOf40 (us := [_, _, _]) rfl rfl rfl (by with_reducible (repeat (first | exact Z0 | apply Z1))) (by first | rfl | exact (Nat.add_zero _).symm) (by first | decide | (simp; done) | omega) ?_
     simp only [setL, List.set]
     refine ag_nil ?_
     refine r_done ?_
     refine s_keep [1, 2, 5, 7, 9, 10, 11] (e' := [(1, _), (2, _), (5, _), (7, _), (9, _), (10, _), (11, _)]) rfl ?_
     refine k_then_n ?_
     refine c_seq ?_
     refine c_plain (.q 0 (.q 1 (.q 2 ((.l 3 [] (.q 4 (.done))))))) (by kernel_rfl) ?_
     refine q_move rfl rfl rfl rfl ?_
     refine q_field (k := 1) rfl rfl rfl rfl Try.underlying40 rfl Try.sizeOf3 rfl ?_
     refine q_load_c (j := 1) rfl rfl rfl rfl Try.isAgg3 (by with_reducible (repeat (first | exact Z0 | apply Z1))) (by first | rfl | exact (Nat.add_zero _).symm) (by rfl) ?_
     have sp_5 := Dj.vector_spec dpa dpc dpo dpoc d (dAll x0 (es.take i)) (dAll_inv hi0 _) e.2.1
     refine l_call rfl rfl rfl rfl rfl rfl Try.call11 (sp_5) (by (repeat ((with_reducible apply Z2); focus (first | (with_reducible (repeat (first | exact Z0 | apply Z1)); done) | (repeat (first | exact Z0 | apply Z1))))); exact Z3) ?_
     rintro ⟨ve_4a, ve_4c⟩ -
     try simp only [List.cons_append, List.nil_append]
     refine ag_nil ?_
     refine q_assign rfl rfl rfl rfl ?_
     refine r_done ?_
     refine s_keep [1, 2, 5, 7, 9, 10, 11, 12] (e' := [(1, _), (2, _), (5, _), (7, _), (9, _), (10, _), (11, _), (12, _)]) rfl ?_
     refine k_then_n ?_
     refine c_seq ?_
     refine c_plain (.q 0 (.q 1 (.q 2 ((.l 3 [] (.q 4 (.q 5 (.q 6 (.q 7 (.q 8 (.done))))))))))) (by kernel_rfl) ?_
     refine q_move rfl rfl rfl rfl ?_
     refine q_field (k := 2) rfl rfl rfl rfl Try.underlying40 rfl Try.sizeOf3 rfl ?_
     refine q_load_c (j := 2) rfl rfl rfl rfl Try.isAgg3 (by with_reducible (repeat (first | exact Z0 | apply Z1))) (by first | rfl | exact (Nat.add_zero _).symm) (by rfl) ?_
     have sp_7 := Dj.reads_spec dpa dpc dpo dpoc d (dAll x0 (es.take i)) (dAll_inv hi0 _) e.2.2
     refine l_call rfl rfl rfl rfl rfl rfl Try.call25 (sp_7) (by (repeat ((with_reducible apply Z2); focus (first | (with_reducible (repeat (first | exact Z0 | apply Z1)); done) | (repeat (first | exact Z0 | apply Z1))))); exact Z3) ?_
     rintro ⟨reads_6a, reads_6c⟩ -
     try simp only [List.cons_append, List.nil_append]
     refine ag_nil ?_
     refine q_move rfl rfl rfl rfl ?_
     refine q_extract rfl rfl rfl rfl rfl ?_
     refine q_extract rfl rfl rfl rfl rfl ?_
     refine q_assign rfl rfl rfl rfl ?_
     refine q_assign rfl rfl rfl rfl ?_
     refine r_done ?_
     refine s_keep [1, 2, 5, 7, 9, 10, 11, 12, 13] (e' := [(1, _), (2, _), (5, _), (7, _), (9, _), (10, _), (11, _), (12, _), (13, _)]) rfl ?_
     refine k_then_n ?_
     refine c_seq ?_
     refine c_plain (.q 0 (.q 1 (.q 2 ((.l 3 [] (.q 4 (.q 5 (.q 6 (.q 7 (.q 8 (.done))))))))))) (by kernel_rfl) ?_
     refine q_move rfl rfl rfl rfl ?_
     refine q_field (k := 2) rfl rfl rfl rfl Try.underlying40 rfl Try.sizeOf3 rfl ?_
     refine q_load_c (j := 2) rfl rfl rfl rfl Try.isAgg3 (by with_reducible (repeat (first | exact Z0 | apply Z1))) (by first | rfl | exact (Nat.add_zero _).symm) (by rfl) ?_
     have sp_9 := Dj.writes_spec dpa dpc dpo dpoc d (dAll x0 (es.take i)) (dAll_inv hi0 _) e.2.2
     refine l_call rfl rfl rfl rfl rfl rfl Try.call26 (sp_9) (by (repeat ((with_reducible apply Z2); focus (first | (with_reducible (repeat (first | exact Z0 | apply Z1)); done) | (repeat (first | exact Z0 | apply Z1))))); exact Z3) ?_
     rintro ⟨writes_8a, writes_8c⟩ -
     try simp only [List.cons_append, List.nil_append]
     refine ag_nil ?_
     refine q_move rfl rfl rfl rfl ?_
     refine q_extract rfl rfl rfl rfl rfl ?_
     refine q_extract rfl rfl rfl rfl rfl ?_
     refine q_assign rfl rfl rfl rfl ?_
     refine q_assign rfl rfl rfl rfl ?_
     refine r_done ?_
     refine s_keep [1, 2, 5, 7, 9, 10, 11, 12, 13, 15, 16] (e' := [(1, _), (2, _), (5, _), (7, _), (9, _), (10, _), (11, _), (12, _), (13, _), (15, _), (16, _)]) rfl ?_
     refine k_then_n ?_
     refine c_seq ?_
     refine c_plain (.q 0 ((.l 1 [] (.q 2 (.done))))) (by kernel_rfl) ?_
     refine q_move rfl rfl rfl rfl ?_
     have sp_11 := Dj.flags_spec dpa dpc dpo dpoc d (dAll x0 (es.take i)) (dAll_inv hi0 _)
     refine l_call rfl rfl rfl rfl rfl rfl Try.call18 (sp_11) (by (repeat ((with_reducible apply Z2); focus (first | (with_reducible (repeat (first | exact Z0 | apply Z1)); done) | (repeat (first | exact Z0 | apply Z1))))); exact Z3) ?_
     rintro ⟨fl_10a, fl_10c⟩ -
     try simp only [List.cons_append, List.nil_append]
     refine ag_nil ?_
     refine q_assign rfl rfl rfl rfl ?_
     refine r_done ?_
     refine k_then_n ?_
     refine c_seq ?_
     refine c_plain (.q 0 (.q 1 ((.l 2 [] (.q 3 (.q 4 (.done))))))) (by kernel_rfl) ?_
     refine q_move rfl rfl rfl rfl ?_
     refine q_loadN_c rfl rfl rfl rfl Try.isAgg40 Try.sizeOf40 (by with_reducible (repeat (first | exact Z0 | apply Z1))) 0 (us := [_, _, _]) (by first | rfl | exact (Nat.add_zero _).symm) rfl rfl ?_
     have sp_12 := Fe.rnext_spec kp kc k (dAll x0 (es.take i)).v.ck hI.v.ck (by omega) pl (hdp.trans hp0) e.1 e.2.1 e.2.2
     refine l_call rfl rfl rfl rfl rfl rfl Try.call27 (sp_12) (by (repeat ((with_reducible apply Z2); focus (first | (with_reducible (repeat (first | exact Z0 | apply Z1)); done) | (repeat (first | exact Z0 | apply Z1))))); exact Z3) ?_
     rintro ⟨⟩ -
     try simp only [List.cons_append, List.nil_append]
     refine ag_nil ?_
     refine q_int rfl rfl rfl rfl rfl (b_eql _ _ _ _) ?_
     refine q_assign rfl rfl rfl rfl ?_
     refine r_done ?_
     refine s_keep [1, 2, 5, 7, 9, 10, 11, 12, 13, 15, 16, 17, 18] (e' := [(1, _), (2, _), (5, _), (7, _), (9, _), (10, _), (11, _), (12, _), (13, _), (15, _), (16, _), (17, _), (18, _)]) rfl ?_
     refine k_then_n ?_
     refine c_seq ?_
     refine c_seq ?_
     refine c_plain (.q 0 (.q 1 ((.l 2 [] ((.l 3 [] (.q 4 (.q 5 (.q 6 (.done)))))))))) (by kernel_rfl) ?_
     refine q_move rfl rfl rfl rfl ?_
     refine q_loadN_c rfl rfl rfl rfl Try.isAgg40 Try.sizeOf40 (by with_reducible (repeat (first | exact Z0 | apply Z1))) 0 (us := [_, _, _]) (by first | rfl | exact (Nat.add_zero _).symm) rfl rfl ?_
     have sp_13 := event_spec dpa dpc dpo dpoc d (dAll x0 (es.take i)) (dAll_inv hi0 _) (by omega) pl (hdp.trans hp0) e.1 e.2.1 e.2.2
     refine l_call rfl rfl rfl rfl rfl rfl Try.call20 (sp_13) (by (repeat ((with_reducible apply Z2); focus (first | (with_reducible (repeat (first | exact Z0 | apply Z1)); done) | (repeat (first | exact Z0 | apply Z1))))); exact Z3) ?_
     rintro ⟨⟩ -
     try simp only [List.cons_append, List.nil_append]
     refine ag_nil ?_
     have sp_14 := num_spec (deE (dAll x0 (es.take i)) e.1 e.2.1 e.2.2)
     refine l_call rfl rfl rfl rfl rfl rfl Try.call16 (sp_14) (by (repeat ((with_reducible apply Z2); focus (first | (with_reducible (repeat (first | exact Z0 | apply Z1)); done) | (repeat (first | exact Z0 | apply Z1))))); exact Z3) ?_
     rintro ⟨⟩ -
     try simp only [List.cons_append, List.nil_append]
     refine ag_nil ?_
     refine q_int rfl rfl rfl rfl rfl (b_eql _ _ _ _) ?_
     refine q_move rfl rfl rfl rfl ?_
     refine q_neb rfl rfl rfl rfl rfl Try.underlying4 ?_
     refine r_done ?_
     have q1 := g_lens hG e.2.2
     have q2 := (thF_cv hI.v e.2.1).len
     have q3 := (thF_cv (de_inv hI e.1 e.2.1 e.2.2).v e.2.1).len
     have q4 := flF_len (dAll x0 (es.take i)).vs
     have q5 := flF_len (deF (dAll x0 (es.take i)) e.1 e.2.1 e.2.2).vs
     rw [de_len] at q5
     have q6 := hI.len
     have q7 := hI.v.ck.sh.va
     have q8 := hI.v.ck.sh.th
     obtain ⟨f1, f2, f3, f4, f5, f6, f7, f8, f9, f10⟩ := g_tells hG e
     have hiff : canE (dAll x0 (es.take i)) e ↔ canF (dAll x0 (es.take i)).v.ck e.1 e.2.1 e.2.2 := b_can hG.b (by omega)
     rw [show dEv (dAll x0 (es.take i)) e = (deF (dAll x0 (es.take i)) e.1 e.2.1 e.2.2) from rfl] at f1 f2 f3 f4 f5 f6 f7 f8 f9 f10
     rw [hdt] at f5 f6
     have hth0 : x0.v.ck.th = th := by rw [hx0]; rfl
     rw [hth0] at f5 f6
     have hee : (deE (dAll x0 (es.take i)) e.1 e.2.1 e.2.2 = 0) ↔ (nxE (dAll x0 (es.take i)).v.ck e.1 e.2.1 e.2.2 = 0) := by
       by_cases hc : canE (dAll x0 (es.take i)) e
       · rw [show deE (dAll x0 (es.take i)) e.1 e.2.1 e.2.2 = 0 from if_pos hc, show nxE (dAll x0 (es.take i)).v.ck e.1 e.2.1 e.2.2 = 0 from if_pos (hiff.1 hc)]
       · rw [show deE (dAll x0 (es.take i)) e.1 e.2.1 e.2.2 = 6 from if_neg hc, show nxE (dAll x0 (es.take i)).v.ck e.1 e.2.1 e.2.2 = 6 from if_neg (fun h => hc (hiff.2 h))]
     refine s_keep [1, 2, 5, 7, 9, 10, 11, 12, 13, 15, 16, 17, 18, 99] (e' := [(1, _), (2, _), (5, _), (7, _), (9, _), (10, _), (11, _), (12, _), (13, _), (15, _), (16, _), (17, _), (18, _), (99, _)]) rfl ?_
     refine k_then_n ?_
     refine c_cond rfl (fun hg => by exfalso; have h9 : decide (deE (dAll x0 (es.take i)) e.1 e.2.1 e.2.2 = 0) = decide (nxE (dAll x0 (es.take i)).v.ck e.1 e.2.1 e.2.2 = 0) := decide_eq_decide.2 hee; rw [h9] at hg; simp at hg) (fun hg => ?_)
     try simp only [Bool.and_eq_true, Bool.or_eq_true, Bool.not_eq_true', Bool.not_eq_false', Bool.and_eq_false_iff, Bool.or_eq_false_iff, decide_eq_true_eq, decide_eq_false_iff_not] at hg
     refine c_skip ?_
     refine k_then_n ?_
     refine c_seq ?_
     refine c_plain (.q 0 (.q 1 (.q 2 ((.l 3 [] (.q 4 (.q 5 (.q 6 (.q 7 (.q 8 (.done))))))))))) (by kernel_rfl) ?_
     refine q_move rfl rfl rfl rfl ?_
     refine q_field (k := 2) rfl rfl rfl rfl Try.underlying40 rfl Try.sizeOf3 rfl ?_
     refine q_load_c (j := 2) rfl rfl rfl rfl Try.isAgg3 (by with_reducible (repeat (first | exact Z0 | apply Z1))) (by first | rfl | exact (Nat.add_zero _).symm) (by rfl) ?_
     have sp_16 := Dj.reads_spec dpa dpc dpo dpoc d (deF (dAll x0 (es.take i)) e.1 e.2.1 e.2.2) (de_inv (dAll_inv hi0 _) e.1 e.2.1 e.2.2) e.2.2
     refine l_call rfl rfl rfl rfl rfl rfl Try.call25 (sp_16) (by (repeat ((with_reducible apply Z2); focus (first | (with_reducible (repeat (first | exact Z0 | apply Z1)); done) | (repeat (first | exact Z0 | apply Z1))))); exact Z3) ?_
     rintro ⟨reads_15a, reads_15c⟩ -
     try simp only [List.cons_append, List.nil_append]
     refine ag_nil ?_
     refine q_move rfl rfl rfl rfl ?_
     refine q_extract rfl rfl rfl rfl rfl ?_
     refine q_extract rfl rfl rfl rfl rfl ?_
     refine q_assign rfl rfl rfl rfl ?_
     refine q_assign rfl rfl rfl rfl ?_
     refine r_done ?_
     refine s_keep [1, 2, 5, 7, 9, 10, 11, 12, 13, 15, 16, 17, 18, 19] (e' := [(1, _), (2, _), (5, _), (7, _), (9, _), (10, _), (11, _), (12, _), (13, _), (15, _), (16, _), (17, _), (18, _), (19, _)]) rfl ?_
     refine k_then_n ?_
     refine c_seq ?_
     refine c_plain (.q 0 (.q 1 (.q 2 ((.l 3 [] (.q 4 (.q 5 (.q 6 (.q 7 (.q 8 (.done))))))))))) (by kernel_rfl) ?_
     refine q_move rfl rfl rfl rfl ?_
     refine q_field (k := 2) rfl rfl rfl rfl Try.underlying40 rfl Try.sizeOf3 rfl ?_
     refine q_load_c (j := 2) rfl rfl rfl rfl Try.isAgg3 (by with_reducible (repeat (first | exact Z0 | apply Z1))) (by first | rfl | exact (Nat.add_zero _).symm) (by rfl) ?_
     have sp_18 := Dj.writes_spec dpa dpc dpo dpoc d (deF (dAll x0 (es.take i)) e.1 e.2.1 e.2.2) (de_inv (dAll_inv hi0 _) e.1 e.2.1 e.2.2) e.2.2
     refine l_call rfl rfl rfl rfl rfl rfl Try.call26 (sp_18) (by (repeat ((with_reducible apply Z2); focus (first | (with_reducible (repeat (first | exact Z0 | apply Z1)); done) | (repeat (first | exact Z0 | apply Z1))))); exact Z3) ?_
     rintro ⟨writes_17a, writes_17c⟩ -
     try simp only [List.cons_append, List.nil_append]
     refine ag_nil ?_
     refine q_move rfl rfl rfl rfl ?_
     refine q_extract rfl rfl rfl rfl rfl ?_
     refine q_extract rfl rfl rfl rfl rfl ?_
     refine q_assign rfl rfl rfl rfl ?_
     refine q_assign rfl rfl rfl rfl ?_
     refine r_done ?_
     refine s_keep [1, 2, 5, 7, 9, 10, 11, 12, 13, 15, 16, 17, 18, 19, 21, 22] (e' := [(1, _), (2, _), (5, _), (7, _), (9, _), (10, _), (11, _), (12, _), (13, _), (15, _), (16, _), (17, _), (18, _), (19, _), (21, _), (22, _)]) rfl ?_
     refine k_then_n ?_
     refine c_seq ?_
     refine c_seq ?_
     refine c_plain (.q 0 (.q 1 (.q 2 (.q 3 (.q 4 (.q 5 ((.l 6 [] (.q 7 (.q 8 (.q 9 (.q 10 (.q 11 ((.l 12 [] (.q 13 (.q 14 (.q 15 (.q 16 (.q 17 (.q 18 ((.l 19 [] (.q 20 ((.l 21 [] (.q 22 (.q 23 (.q 24 (.q 25 (.q 26 (.q 27 (.q 28 (.q 29 (.q 30 (.q 31 (.q 32 (.q 33 (.q 34 (.q 35 (.q 36 (.q 37 (.q 38 (.q 39 ((.l 40 [] (.q 41 (.q 42 (.q 43 (.q 44 (.q 45 (.done)))))))))))))))))))))))))))))))))))))))))))))))))))) (by kernel_rfl) ?_
     refine q_move rfl rfl rfl rfl ?_
     refine q_move rfl rfl rfl rfl ?_
     refine q_neb rfl rfl rfl rfl rfl Try.underlying4 ?_
     refine q_move rfl rfl rfl rfl ?_
     refine s_bool 117 rfl (fun hg => by exfalso; rw [f1] at hg; simp at hg) (fun hg => ?_)
     try simp only [Bool.and_eq_true, Bool.or_eq_true, Bool.not_eq_true', Bool.not_eq_false', Bool.and_eq_false_iff, Bool.or_eq_false_iff, decide_eq_true_eq, decide_eq_false_iff_not] at hg
     refine q_move rfl rfl rfl rfl ?_
     refine q_move rfl rfl rfl rfl ?_
     refine s_take (A := own 1 encU reads_15a reads_15c (rdsF (wF (deF (dAll x0 (es.take i)) e.1 e.2.1 e.2.2) e.2.2))) (by with_reducible (repeat (first | exact Z0 | apply Z1))) ?_
     refine own_fc fun f_19a f_19b f_19c => ?_
     refine s_take (A := own 1 encU reads_6a reads_6c (rdsF (wF (dAll x0 (es.take i)) e.2.2))) (by with_reducible (repeat (first | exact Z0 | apply Z1))) ?_
     refine own_fc fun f_20a f_20b f_20c => ?_
     refine s_heap (fun _ h => Bun.fold ((by (repeat ((with_reducible apply Z2); focus (first | (with_reducible (repeat (first | exact Z0 | apply Z1)); done) | (repeat (first | exact Z0 | apply Z1))))); exact Z3 : Takes _ [own 1 encU reads_15a reads_15c (rdsF (wF (deF (dAll x0 (es.take i)) e.1 e.2.1 e.2.2) e.2.2)), own 1 encU reads_6a reads_6c (rdsF (wF (dAll x0 (es.take i)) e.2.2))] _) _ h)) ?_
     have sp_21 := most_spec (rdsF (wF (deF (dAll x0 (es.take i)) e.1 e.2.1 e.2.2) e.2.2)) (rdsF (wF (dAll x0 (es.take i)) e.2.2)) reads_15a reads_6a ((rdsF (wF (deF (dAll x0 (es.take i)) e.1 e.2.1 e.2.2) e.2.2)).length) ((rdsF (wF (dAll x0 (es.take i)) e.2.2)).length) reads_15c reads_6c (Bun [own 1 encU reads_15a reads_15c (rdsF (wF (deF (dAll x0 (es.take i)) e.1 e.2.1 e.2.2) e.2.2)), own 1 encU reads_6a reads_6c (rdsF (wF (dAll x0 (es.take i)) e.2.2))]) (by first | rfl | assumption | omega | (simp; done) | (simp; omega)) (rds_bun (List.mem_cons_self) (rds_own encU_len (fun h => (f_19b h).1) f_19c)) (by first | rfl | assumption | omega | (simp; done) | (simp; omega)) (rds_bun (List.mem_cons_of_mem _ (List.mem_cons_self)) (rds_own encU_len (fun h => (f_20b h).1) f_20c)) (by omega)
     refine l_call rfl rfl rfl rfl rfl rfl Try.call28 (sp_21) (by (repeat ((with_reducible apply Z2); focus (first | (with_reducible (repeat (first | exact Z0 | apply Z1)); done) | (repeat (first | exact Z0 | apply Z1))))); exact Z3) ?_
     rintro ⟨⟩ -
     try simp only [List.cons_append, List.nil_append]
     refine s_take (A := Bun [own 1 encU reads_15a reads_15c (rdsF (wF (deF (dAll x0 (es.take i)) e.1 e.2.1 e.2.2) e.2.2)), own 1 encU reads_6a reads_6c (rdsF (wF (dAll x0 (es.take i)) e.2.2))]) (by with_reducible (repeat (first | exact Z0 | apply Z1))) ?_
     refine s_bun ?_
     try simp only [List.cons_append, List.nil_append]
     try simp only [List.cons_append, List.nil_append]
     refine ag_nil ?_
     refine q_not rfl rfl rfl rfl ?_
     refine q_pick_f rfl rfl rfl rfl rfl ?_
     refine q_move rfl rfl rfl rfl ?_
     refine s_bool_np 123 rfl (fun hg => by exfalso; exact hg f2) (fun hg => ?_)
     refine q_move rfl rfl rfl rfl ?_
     refine q_move rfl rfl rfl rfl ?_
     refine s_take (A := own 1 encU writes_17a writes_17c (wrsF (wF (deF (dAll x0 (es.take i)) e.1 e.2.1 e.2.2) e.2.2))) (by with_reducible (repeat (first | exact Z0 | apply Z1))) ?_
     refine own_fc fun f_22a f_22b f_22c => ?_
     refine s_take (A := own 1 encU writes_8a writes_8c (wrsF (wF (dAll x0 (es.take i)) e.2.2))) (by with_reducible (repeat (first | exact Z0 | apply Z1))) ?_
     refine own_fc fun f_23a f_23b f_23c => ?_
     refine s_heap (fun _ h => Bun.fold ((by (repeat ((with_reducible apply Z2); focus (first | (with_reducible (repeat (first | exact Z0 | apply Z1)); done) | (repeat (first | exact Z0 | apply Z1))))); exact Z3 : Takes _ [own 1 encU writes_17a writes_17c (wrsF (wF (deF (dAll x0 (es.take i)) e.1 e.2.1 e.2.2) e.2.2)), own 1 encU writes_8a writes_8c (wrsF (wF (dAll x0 (es.take i)) e.2.2))] _) _ h)) ?_
     have sp_24 := most_spec (wrsF (wF (deF (dAll x0 (es.take i)) e.1 e.2.1 e.2.2) e.2.2)) (wrsF (wF (dAll x0 (es.take i)) e.2.2)) writes_17a writes_8a ((wrsF (wF (deF (dAll x0 (es.take i)) e.1 e.2.1 e.2.2) e.2.2)).length) ((wrsF (wF (dAll x0 (es.take i)) e.2.2)).length) writes_17c writes_8c (Bun [own 1 encU writes_17a writes_17c (wrsF (wF (deF (dAll x0 (es.take i)) e.1 e.2.1 e.2.2) e.2.2)), own 1 encU writes_8a writes_8c (wrsF (wF (dAll x0 (es.take i)) e.2.2))]) (by first | rfl | assumption | omega | (simp; done) | (simp; omega)) (rds_bun (List.mem_cons_self) (rds_own encU_len (fun h => (f_22b h).1) f_22c)) (by first | rfl | assumption | omega | (simp; done) | (simp; omega)) (rds_bun (List.mem_cons_of_mem _ (List.mem_cons_self)) (rds_own encU_len (fun h => (f_23b h).1) f_23c)) (by omega)
     refine l_call rfl rfl rfl rfl rfl rfl Try.call28 (sp_24) (by (repeat ((with_reducible apply Z2); focus (first | (with_reducible (repeat (first | exact Z0 | apply Z1)); done) | (repeat (first | exact Z0 | apply Z1))))); exact Z3) ?_
     rintro ⟨⟩ -
     try simp only [List.cons_append, List.nil_append]
     refine s_take (A := Bun [own 1 encU writes_17a writes_17c (wrsF (wF (deF (dAll x0 (es.take i)) e.1 e.2.1 e.2.2) e.2.2)), own 1 encU writes_8a writes_8c (wrsF (wF (dAll x0 (es.take i)) e.2.2))]) (by with_reducible (repeat (first | exact Z0 | apply Z1))) ?_
     refine s_bun ?_
     try simp only [List.cons_append, List.nil_append]
     try simp only [List.cons_append, List.nil_append]
     refine ag_nil ?_
     refine q_not rfl rfl rfl rfl ?_
     refine q_pick_f rfl rfl rfl rfl rfl ?_
     refine q_move rfl rfl rfl rfl ?_
     refine s_bool_np 129 rfl (fun hg => by exfalso; exact hg f3) (fun hg => ?_)
     refine q_move rfl rfl rfl rfl ?_
     refine q_field (k := 1) rfl rfl rfl rfl Try.underlying40 rfl Try.sizeOf3 rfl ?_
     refine q_load_c (j := 1) rfl rfl rfl rfl Try.isAgg3 (by with_reducible (repeat (first | exact Z0 | apply Z1))) (by first | rfl | exact (Nat.add_zero _).symm) (by rfl) ?_
     have sp_26 := Dj.vector_spec dpa dpc dpo dpoc d (deF (dAll x0 (es.take i)) e.1 e.2.1 e.2.2) (de_inv (dAll_inv hi0 _) e.1 e.2.1 e.2.2) e.2.1
     refine l_call rfl rfl rfl rfl rfl rfl Try.call11 (sp_26) (by (repeat ((with_reducible apply Z2); focus (first | (with_reducible (repeat (first | exact Z0 | apply Z1)); done) | (repeat (first | exact Z0 | apply Z1))))); exact Z3) ?_
     rintro ⟨ve_25a, ve_25c⟩ -
     try simp only [List.cons_append, List.nil_append]
     refine ag_nil ?_
     refine q_move rfl rfl rfl rfl ?_
     refine s_take (A := own 1 encU ve_25a ve_25c (thF (deF (dAll x0 (es.take i)) e.1 e.2.1 e.2.2).v e.2.1)) (by with_reducible (repeat (first | exact Z0 | apply Z1))) ?_
     refine own_fc fun f_27a f_27b f_27c => ?_
     refine s_take (A := own 1 encU ve_4a ve_4c (thF (dAll x0 (es.take i)).v e.2.1)) (by with_reducible (repeat (first | exact Z0 | apply Z1))) ?_
     refine own_fc fun f_28a f_28b f_28c => ?_
     refine s_heap (fun _ h => Bun.fold ((by (repeat ((with_reducible apply Z2); focus (first | (with_reducible (repeat (first | exact Z0 | apply Z1)); done) | (repeat (first | exact Z0 | apply Z1))))); exact Z3 : Takes _ [own 1 encU ve_25a ve_25c (thF (deF (dAll x0 (es.take i)) e.1 e.2.1 e.2.2).v e.2.1), own 1 encU ve_4a ve_4c (thF (dAll x0 (es.take i)).v e.2.1)] _) _ h)) ?_
     have sp_29 := most_spec (thF (deF (dAll x0 (es.take i)) e.1 e.2.1 e.2.2).v e.2.1) (thF (dAll x0 (es.take i)).v e.2.1) ve_25a ve_4a ((thF (deF (dAll x0 (es.take i)) e.1 e.2.1 e.2.2).v e.2.1).length) ((thF (dAll x0 (es.take i)).v e.2.1).length) ve_25c ve_4c (Bun [own 1 encU ve_25a ve_25c (thF (deF (dAll x0 (es.take i)) e.1 e.2.1 e.2.2).v e.2.1), own 1 encU ve_4a ve_4c (thF (dAll x0 (es.take i)).v e.2.1)]) (by first | rfl | assumption | omega | (simp; done) | (simp; omega)) (rds_bun (List.mem_cons_self) (rds_own encU_len (fun h => (f_27b h).1) f_27c)) (by first | rfl | assumption | omega | (simp; done) | (simp; omega)) (rds_bun (List.mem_cons_of_mem _ (List.mem_cons_self)) (rds_own encU_len (fun h => (f_28b h).1) f_28c)) (by omega)
     refine l_call rfl rfl rfl rfl rfl rfl Try.call28 (sp_29) (by (repeat ((with_reducible apply Z2); focus (first | (with_reducible (repeat (first | exact Z0 | apply Z1)); done) | (repeat (first | exact Z0 | apply Z1))))); exact Z3) ?_
     rintro ⟨⟩ -
     try simp only [List.cons_append, List.nil_append]
     refine s_take (A := Bun [own 1 encU ve_25a ve_25c (thF (deF (dAll x0 (es.take i)) e.1 e.2.1 e.2.2).v e.2.1), own 1 encU ve_4a ve_4c (thF (dAll x0 (es.take i)).v e.2.1)]) (by with_reducible (repeat (first | exact Z0 | apply Z1))) ?_
     refine s_bun ?_
     try simp only [List.cons_append, List.nil_append]
     try simp only [List.cons_append, List.nil_append]
     refine ag_nil ?_
     refine q_not rfl rfl rfl rfl ?_
     refine q_pick_f rfl rfl rfl rfl rfl ?_
     refine q_move rfl rfl rfl rfl ?_
     refine s_bool_np 138 rfl (fun hg => by exfalso; exact hg f4) (fun hg => ?_)
     refine q_move rfl rfl rfl rfl ?_
     refine q_len rfl rfl rfl rfl Try.underlying31 ?_
     refine q_field (k := 0) rfl rfl rfl rfl Try.underlying24 rfl Try.sizeOf3 rfl ?_
     refine q_load_c (j := 0) rfl rfl rfl rfl Try.isAgg3 (by with_reducible (repeat (first | exact Z0 | apply Z1))) (by first | rfl | exact (Nat.add_zero _).symm) (by rfl) ?_
     refine q_int rfl rfl rfl rfl rfl (b_gtr _ _ _ _) ?_
     refine q_pick_f rfl rfl rfl rfl rfl ?_
     refine q_move rfl rfl rfl rfl ?_
     refine s_bool_p 145 rfl (fun hg => by exfalso; omega) (fun hg => ?_)
     refine q_move rfl rfl rfl rfl ?_
     refine q_len rfl rfl rfl rfl Try.underlying31 ?_
     refine q_field (k := 0) rfl rfl rfl rfl Try.underlying24 rfl Try.sizeOf3 rfl ?_
     refine q_load_c (j := 0) rfl rfl rfl rfl Try.isAgg3 (by with_reducible (repeat (first | exact Z0 | apply Z1))) (by first | rfl | exact (Nat.add_zero _).symm) (by rfl) ?_
     refine q_int rfl rfl rfl rfl rfl (b_gtr _ _ _ _) ?_
     refine q_pick_f rfl rfl rfl rfl rfl ?_
     refine q_move rfl rfl rfl rfl ?_
     refine s_bool_p 152 rfl (fun hg => by exfalso; omega) (fun hg => ?_)
     refine q_move rfl rfl rfl rfl ?_
     have sp_31 := Dj.flags_spec dpa dpc dpo dpoc d (deF (dAll x0 (es.take i)) e.1 e.2.1 e.2.2) (de_inv (dAll_inv hi0 _) e.1 e.2.1 e.2.2)
     refine l_call rfl rfl rfl rfl rfl rfl Try.call18 (sp_31) (by (repeat ((with_reducible apply Z2); focus (first | (with_reducible (repeat (first | exact Z0 | apply Z1)); done) | (repeat (first | exact Z0 | apply Z1))))); exact Z3) ?_
     rintro ⟨fl_30a, fl_30c⟩ -
     try simp only [List.cons_append, List.nil_append]
     refine ag_nil ?_
     refine q_len rfl rfl rfl rfl Try.underlying48 ?_
     refine q_move rfl rfl rfl rfl ?_
     refine q_len rfl rfl rfl rfl Try.underlying48 ?_
     refine q_int rfl rfl rfl rfl rfl (b_lss _ _ _ _) ?_
     refine q_pick_f rfl rfl rfl rfl rfl ?_
     refine r_done ?_
     refine s_keep [1, 2, 5, 7, 9, 10, 11, 12, 13, 15, 17, 18, 19, 21, 118, 119, 120, 121, 124, 125, 126, 127, 130, 131, 132, 133, 134, 135, 136, 139, 140, 141, 142, 143, 146, 147, 148, 149, 150, 153, 154, 155, 156, 157, 158, 159] (e' := [(1, _), (2, _), (5, _), (7, _), (9, _), (10, _), (11, _), (12, _), (13, _), (15, _), (17, _), (18, _), (19, _), (21, _), (118, _), (119, _), (120, _), (121, _), (124, _), (125, _), (126, _), (127, _), (130, _), (131, _), (132, _), (133, _), (134, _), (135, _), (136, _), (139, _), (140, _), (141, _), (142, _), (143, _), (146, _), (147, _), (148, _), (149, _), (150, _), (153, _), (154, _), (155, _), (156, _), (157, _), (158, _), (159, _)]) rfl ?_
     refine k_then_n ?_
     refine c_cond_p rfl (fun hg => by exfalso; omega) (fun hg => ?_)
     refine c_skip ?_
     refine k_then_n ?_
     refine c_seq ?_
     refine c_block ?_
     refine c_seq ?_
     refine c_plain (.q 0 (.q 1 (.q 2 (.q 3 (.q 4 (.q 5 (.q 6 (.done)))))))) (by kernel_rfl) ?_
     refine q_move rfl rfl rfl rfl ?_
     refine q_move rfl rfl rfl rfl ?_
     refine s_bool_p 162 rfl (fun hc => ?_) (fun hc => ?_)
     ·
      have hcan : canE (dAll x0 (es.take i)) e := hiff.2 (by
        unfold nxE at hc; split at hc
        · assumption
        · exact absurd hc (by decide))
      refine q_field (k := 0) rfl rfl rfl rfl Try.underlying40 rfl Try.sizeOf38 rfl ?_
      refine q_load_c (j := 0) rfl rfl rfl rfl Try.isAgg38 (by with_reducible (repeat (first | exact Z0 | apply Z1))) (by first | rfl | exact (Nat.add_zero _).symm) (by rfl) ?_
      refine q_int rfl rfl rfl rfl rfl (b_eql _ _ _ _) ?_
      refine q_pick_t rfl rfl rfl rfl rfl ?_
      refine q_assign rfl rfl rfl rfl ?_
      refine r_done ?_
      refine s_keep [1, 2, 5, 7, 9, 10, 11, 12, 13, 15, 17, 18, 19, 21, 118, 119, 120, 121, 124, 125, 126, 127, 130, 131, 132, 133, 134, 135, 136, 139, 140, 141, 142, 143, 146, 147, 148, 149, 150, 153, 154, 155, 156, 157, 158, 160, 163, 164, 165] (e' := [(1, _), (2, _), (5, _), (7, _), (9, _), (10, _), (11, _), (12, _), (13, _), (15, _), (17, _), (18, _), (19, _), (21, _), (118, _), (119, _), (120, _), (121, _), (124, _), (125, _), (126, _), (127, _), (130, _), (131, _), (132, _), (133, _), (134, _), (135, _), (136, _), (139, _), (140, _), (141, _), (142, _), (143, _), (146, _), (147, _), (148, _), (149, _), (150, _), (153, _), (154, _), (155, _), (156, _), (157, _), (158, _), (160, _), (163, _), (164, _), (165, _)]) rfl ?_
      refine k_then_n ?_
      refine c_cond_p rfl (fun k1 => ?_) (fun k1 => ?_)
      ·
       obtain ⟨u1, u2, u3⟩ := f8 hcan k1
       refine c_seq ?_
       refine c_plain (.q 0 (.q 1 (.q 2 (.done)))) (by kernel_rfl) ?_
       refine q_move rfl rfl rfl rfl ?_
       refine q_int rfl rfl rfl rfl rfl (b_add' _ (by exact fits_i64 (by omega) (by omega))) ?_
       refine q_assign rfl rfl rfl rfl ?_
       refine r_done ?_
       refine s_keep [1, 2, 5, 7, 9, 10, 11, 12, 15, 19, 21, 118, 119, 120, 121, 124, 125, 126, 127, 130, 131, 132, 133, 134, 135, 136, 139, 140, 141, 142, 143, 146, 147, 148, 149, 150, 153, 154, 155, 156, 157, 158, 163, 164, 165] (e' := [(1, _), (2, _), (5, _), (7, _), (9, _), (10, _), (11, _), (12, _), (15, _), (19, _), (21, _), (118, _), (119, _), (120, _), (121, _), (124, _), (125, _), (126, _), (127, _), (130, _), (131, _), (132, _), (133, _), (134, _), (135, _), (136, _), (139, _), (140, _), (141, _), (142, _), (143, _), (146, _), (147, _), (148, _), (149, _), (150, _), (153, _), (154, _), (155, _), (156, _), (157, _), (158, _), (163, _), (164, _), (165, _)]) rfl ?_
       refine k_then_n ?_
       refine c_seq ?_
       refine c_draw rfl (.q 0 (.q 1 (.q 2 (.q 4 (.q 5 (.q 6 ((.l 3 [6] ((.l 7 [] (.q 8 (.q 9 (.q 10 (.q 11 ((.l 12 [] (.q 13 (.q 14 (.done))))))))))))))))))) (by kernel_rfl) ?_
       refine q_move rfl rfl rfl rfl ?_
       refine q_field (k := 1) rfl rfl rfl rfl Try.underlying40 rfl Try.sizeOf3 rfl ?_
       refine q_load_c (j := 1) rfl rfl rfl rfl Try.isAgg3 (by with_reducible (repeat (first | exact Z0 | apply Z1))) (by first | rfl | exact (Nat.add_zero _).symm) (by rfl) ?_
       refine q_move rfl rfl rfl rfl ?_
       refine q_field (k := 1) rfl rfl rfl rfl Try.underlying40 rfl Try.sizeOf3 rfl ?_
       refine q_load_c (j := 1) rfl rfl rfl rfl Try.isAgg3 (by with_reducible (repeat (first | exact Z0 | apply Z1))) (by first | rfl | exact (Nat.add_zero _).symm) (by rfl) ?_
       refine s_take (A := own 1 encU reads_15a reads_15c (rdsF (wF (deF (dAll x0 (es.take i)) e.1 e.2.1 e.2.2) e.2.2))) (by with_reducible (repeat (first | exact Z0 | apply Z1))) ?_
       refine own_fc fun f_32a f_32b f_32c => ?_
       have sp_33 := entry_spec (rdsF (wF (deF (dAll x0 (es.take i)) e.1 e.2.1 e.2.2) e.2.2)) reads_15a ((rdsF (wF (deF (dAll x0 (es.take i)) e.1 e.2.1 e.2.2) e.2.2)).length) reads_15c (own 1 encU reads_15a reads_15c (rdsF (wF (deF (dAll x0 (es.take i)) e.1 e.2.1 e.2.2) e.2.2))) (by first | rfl | assumption | omega | (simp; done) | (simp; omega)) (rds_own encU_len (fun h => (f_32b h).1) f_32c) e.2.1
       refine l_call rfl rfl rfl rfl rfl rfl Try.call12 (sp_33) (by (repeat ((with_reducible apply Z2); focus (first | (with_reducible (repeat (first | exact Z0 | apply Z1)); done) | (repeat (first | exact Z0 | apply Z1))))); exact Z3) ?_
       rintro ⟨⟩ -
       try simp only [List.cons_append, List.nil_append]
       refine ag_load_c (q := 1) rfl rfl rfl Try.isAgg3 (by with_reducible (repeat (first | exact Z0 | apply Z1))) (by first | rfl | exact (Nat.add_zero _).symm) (by rfl) ?_
       refine ag_nil ?_
       refine s_take (A := own 1 encU ve_4a ve_4c (thF (dAll x0 (es.take i)).v e.2.1)) (by with_reducible (repeat (first | exact Z0 | apply Z1))) ?_
       refine own_fc fun f_34a f_34b f_34c => ?_
       have sp_35 := entry_spec (thF (dAll x0 (es.take i)).v e.2.1) ve_4a ((thF (dAll x0 (es.take i)).v e.2.1).length) ve_4c (own 1 encU ve_4a ve_4c (thF (dAll x0 (es.take i)).v e.2.1)) (by first | rfl | assumption | omega | (simp; done) | (simp; omega)) (rds_own encU_len (fun h => (f_34b h).1) f_34c) e.2.1
       refine l_call rfl rfl rfl rfl rfl rfl Try.call12 (sp_35) (by (repeat ((with_reducible apply Z2); focus (first | (with_reducible (repeat (first | exact Z0 | apply Z1)); done) | (repeat (first | exact Z0 | apply Z1))))); exact Z3) ?_
       rintro ⟨⟩ -
       try simp only [List.cons_append, List.nil_append]
       refine ag_nil ?_
       refine q_int rfl rfl rfl rfl rfl (b_neq _ _ _ _) ?_
       refine q_move rfl rfl rfl rfl ?_
       refine s_bool_p 178 rfl (fun hg => by exfalso; exact hg u1) (fun hg => ?_)
       refine q_move rfl rfl rfl rfl ?_
       refine q_move rfl rfl rfl rfl ?_
       refine s_take (A := own 1 encU writes_8a writes_8c (wrsF (wF (dAll x0 (es.take i)) e.2.2))) (by with_reducible (repeat (first | exact Z0 | apply Z1))) ?_
       refine own_fc fun f_36a f_36b f_36c => ?_
       refine s_take (A := own 1 encU writes_17a writes_17c (wrsF (wF (deF (dAll x0 (es.take i)) e.1 e.2.1 e.2.2) e.2.2))) (by with_reducible (repeat (first | exact Z0 | apply Z1))) ?_
       refine own_fc fun f_37a f_37b f_37c => ?_
       refine s_heap (fun _ h => Bun.fold ((by (repeat ((with_reducible apply Z2); focus (first | (with_reducible (repeat (first | exact Z0 | apply Z1)); done) | (repeat (first | exact Z0 | apply Z1))))); exact Z3 : Takes _ [own 1 encU writes_8a writes_8c (wrsF (wF (dAll x0 (es.take i)) e.2.2)), own 1 encU writes_17a writes_17c (wrsF (wF (deF (dAll x0 (es.take i)) e.1 e.2.1 e.2.2) e.2.2))] _) _ h)) ?_
       have sp_38 := same_spec (wrsF (wF (dAll x0 (es.take i)) e.2.2)) (wrsF (wF (deF (dAll x0 (es.take i)) e.1 e.2.1 e.2.2) e.2.2)) writes_8a writes_17a ((wrsF (wF (dAll x0 (es.take i)) e.2.2)).length) ((wrsF (wF (deF (dAll x0 (es.take i)) e.1 e.2.1 e.2.2) e.2.2)).length) writes_8c writes_17c (Bun [own 1 encU writes_8a writes_8c (wrsF (wF (dAll x0 (es.take i)) e.2.2)), own 1 encU writes_17a writes_17c (wrsF (wF (deF (dAll x0 (es.take i)) e.1 e.2.1 e.2.2) e.2.2))]) (by first | rfl | assumption | omega | (simp; done) | (simp; omega)) (rds_bun (List.mem_cons_self) (rds_own encU_len (fun h => (f_36b h).1) f_36c)) (by first | rfl | assumption | omega | (simp; done) | (simp; omega)) (rds_bun (List.mem_cons_of_mem _ (List.mem_cons_self)) (rds_own encU_len (fun h => (f_37b h).1) f_37c)) (by omega)
       refine l_call rfl rfl rfl rfl rfl rfl Try.call29 (sp_38) (by (repeat ((with_reducible apply Z2); focus (first | (with_reducible (repeat (first | exact Z0 | apply Z1)); done) | (repeat (first | exact Z0 | apply Z1))))); exact Z3) ?_
       rintro ⟨⟩ -
       try simp only [List.cons_append, List.nil_append]
       refine s_take (A := Bun [own 1 encU writes_8a writes_8c (wrsF (wF (dAll x0 (es.take i)) e.2.2)), own 1 encU writes_17a writes_17c (wrsF (wF (deF (dAll x0 (es.take i)) e.1 e.2.1 e.2.2) e.2.2))]) (by with_reducible (repeat (first | exact Z0 | apply Z1))) ?_
       refine s_bun ?_
       try simp only [List.cons_append, List.nil_append]
       try simp only [List.cons_append, List.nil_append]
       refine ag_nil ?_
       refine q_not rfl rfl rfl rfl ?_
       refine q_pick_f rfl rfl rfl rfl rfl ?_
       refine r_done ?_
       refine s_keep [1, 2, 5, 7, 9, 10, 118, 119, 120, 121, 124, 125, 126, 127, 130, 131, 132, 133, 134, 135, 136, 139, 140, 141, 142, 143, 146, 147, 148, 149, 150, 153, 154, 155, 156, 157, 158, 163, 164, 165, 179, 180, 181, 182, 183] (e' := [(1, _), (2, _), (5, _), (7, _), (9, _), (10, _), (118, _), (119, _), (120, _), (121, _), (124, _), (125, _), (126, _), (127, _), (130, _), (131, _), (132, _), (133, _), (134, _), (135, _), (136, _), (139, _), (140, _), (141, _), (142, _), (143, _), (146, _), (147, _), (148, _), (149, _), (150, _), (153, _), (154, _), (155, _), (156, _), (157, _), (158, _), (163, _), (164, _), (165, _), (179, _), (180, _), (181, _), (182, _), (183, _)]) rfl ?_
       refine k_then_n ?_
       refine c_cond_np rfl (fun hg => by exfalso; exact hg u2.symm) (fun hg => ?_)
       refine c_skip ?_
       refine k_blk_n ?_
       refine k_then_n ?_
       refine c_seq ?_
       have hck2 : (deF (dAll x0 (es.take i)) e.1 e.2.1 e.2.2).v.ck = nxF (dAll x0 (es.take i)).v.ck e.1 e.2.1 e.2.2 := by
         by_cases hc9 : canE (dAll x0 (es.take i)) e
         · rw [de_v hc9, vn_ck]
         · rw [show (deF (dAll x0 (es.take i)) e.1 e.2.1 e.2.2) = (dAll x0 (es.take i)) from if_neg hc9, show nxF (dAll x0 (es.take i)).v.ck e.1 e.2.1 e.2.2 = (dAll x0 (es.take i)).v.ck from if_neg (fun h => hc9 (hiff.2 h))]
       refine c_plain (.q 0 ((.l 1 [] (.q 2 (.q 3 (.q 4 (.q 5 ((.l 6 [] (.q 7 ((.l 8 [] (.q 9 (.q 10 (.done))))))))))))))) (by kernel_rfl) ?_
       refine q_move rfl rfl rfl rfl ?_
       have sp_39 := Dj.cost_spec dpa dpc dpo dpoc d (deF (dAll x0 (es.take i)) e.1 e.2.1 e.2.2) (de_inv (dAll_inv hi0 _) e.1 e.2.1 e.2.2)
       refine l_call rfl rfl rfl rfl rfl rfl Try.call30 (sp_39) (by (repeat ((with_reducible apply Z2); focus (first | (with_reducible (repeat (first | exact Z0 | apply Z1)); done) | (repeat (first | exact Z0 | apply Z1))))); exact Z3) ?_
       rintro ⟨⟩ -
       try simp only [List.cons_append, List.nil_append]
       refine ag_nil ?_
       refine q_move rfl rfl rfl rfl ?_
       refine q_int rfl rfl rfl rfl rfl (b_neq _ _ _ _) ?_
       refine q_move rfl rfl rfl rfl ?_
       refine s_bool_p 255 rfl (fun hg => by exfalso; first | omega | (rw [show (deF (dAll x0 (es.take i)) e.1 e.2.1 e.2.2) = (dAll x0 (es.take i)) from if_neg hncan] at hg; exact hg rfl)) (fun hg => ?_)
       refine q_move rfl rfl rfl rfl ?_
       have sp_40 := Dj.len_spec dpa dpc dpo dpoc d (deF (dAll x0 (es.take i)) e.1 e.2.1 e.2.2) (de_inv (dAll_inv hi0 _) e.1 e.2.1 e.2.2)
       refine l_call rfl rfl rfl rfl rfl rfl Try.call21 (sp_40) (by (repeat ((with_reducible apply Z2); focus (first | (with_reducible (repeat (first | exact Z0 | apply Z1)); done) | (repeat (first | exact Z0 | apply Z1))))); exact Z3) ?_
       rintro ⟨⟩ -
       try simp only [List.cons_append, List.nil_append]
       refine ag_nil ?_
       refine q_move rfl rfl rfl rfl ?_
       have sp_41 := Fe.rlen_spec kp kc k (nxF (dAll x0 (es.take i)).v.ck e.1 e.2.1 e.2.2)
       refine l_call rfl rfl rfl rfl rfl rfl Try.call31 (sp_41) (by (repeat ((with_reducible apply Z2); focus (first | (with_reducible (repeat (first | exact Z0 | apply Z1)); done) | (repeat (first | exact Z0 | apply Z1))))); exact Z3) ?_
       rintro ⟨⟩ -
       try simp only [List.cons_append, List.nil_append]
       refine ag_nil ?_
       refine q_int rfl rfl rfl rfl rfl (b_neq _ _ _ _) ?_
       refine q_pick_f rfl rfl rfl rfl rfl ?_
       refine r_done ?_
       refine s_keep [1, 2, 5, 7, 9, 10, 118, 119, 120, 121, 124, 125, 126, 127, 130, 131, 132, 133, 134, 135, 136, 139, 140, 141, 142, 143, 146, 147, 148, 149, 150, 153, 154, 155, 156, 157, 158, 163, 164, 165, 179, 180, 181, 182, 256, 257, 258, 259, 260, 261] (e' := [(1, _), (2, _), (5, _), (7, _), (9, _), (10, _), (118, _), (119, _), (120, _), (121, _), (124, _), (125, _), (126, _), (127, _), (130, _), (131, _), (132, _), (133, _), (134, _), (135, _), (136, _), (139, _), (140, _), (141, _), (142, _), (143, _), (146, _), (147, _), (148, _), (149, _), (150, _), (153, _), (154, _), (155, _), (156, _), (157, _), (158, _), (163, _), (164, _), (165, _), (179, _), (180, _), (181, _), (182, _), (256, _), (257, _), (258, _), (259, _), (260, _), (261, _)]) rfl ?_
       refine k_then_n ?_
       refine c_cond_p rfl (fun hg => by exfalso; exact hg (by rw [hck2])) (fun hg => ?_)
       refine c_skip ?_
       refine k_blk_n ?_
       refine k_then_n ?_
       refine c_plain (.q 0 (.q 1 (.q 2 (.done)))) (by kernel_rfl) ?_
       refine q_move rfl rfl rfl rfl ?_
       refine q_int rfl rfl rfl rfl rfl (b_add' _ (by exact fits_i64 (by omega) (by omega))) ?_
       refine q_assign rfl rfl rfl rfl ?_
       refine r_done ?_
       refine k_then_n ?_
       refine s_eq 9 rfl (v' := .int .i64 (deF (dAll x0 (es.take i)) e.1 e.2.1 e.2.2).cost) (by first | (congr 1; omega) | (congr 1; rw [show (deF (dAll x0 (es.take i)) e.1 e.2.1 e.2.2) = (dAll x0 (es.take i)) from if_neg hncan])) ?_
       rw [← hck2, show (deF (dAll x0 (es.take i)) e.1 e.2.1 e.2.2) = dAll x0 (es.take (i + 1)) from (dAll_next he).symm]
       refine s_eq 9 rfl (v' := .int .i64 ((dAll x0 (es.take (i + 1))).cost)) (by first | rfl | (congr 1; done) | (congr 1 <;> first | rfl | omega | (simp; done) | (simp; omega))) ?_
       refine loop_next (x := i) (i + 1) ?_ ?_ ?_ ?_
       · show i + 1 ≤ m; omega
       · show m - (i + 1) < m - i; omega
       · exact ⟨rfl, rfl, rfl, rfl, rfl, rfl, trivial⟩
       · (try simp only [List.cons_append, List.nil_append]); (repeat ((with_reducible apply Z2); focus (first | (with_reducible (repeat (first | exact Z0 | apply Z1)); done) | (repeat (first | exact Z0 | apply Z1))))); (repeat (first | exact Z3 | exact Takes.self | refine takes_drop2 ?_))
      ·
       refine c_seq ?_
       refine c_plain (.q 0 (.q 1 (.q 2 (.q 3 (.q 4 (.q 5 (.q 6 (.done)))))))) (by kernel_rfl) ?_
       refine q_move rfl rfl rfl rfl ?_
       refine q_move rfl rfl rfl rfl ?_
       refine s_bool_p 186 rfl (fun hg => ?_) (fun hg => by exfalso; exact hg hc)
       refine q_field (k := 0) rfl rfl rfl rfl Try.underlying40 rfl Try.sizeOf38 rfl ?_
       refine q_load_c (j := 0) rfl rfl rfl rfl Try.isAgg38 (by with_reducible (repeat (first | exact Z0 | apply Z1))) (by first | rfl | exact (Nat.add_zero _).symm) (by rfl) ?_
       refine q_int rfl rfl rfl rfl rfl (b_eql _ _ _ _) ?_
       refine q_pick_t rfl rfl rfl rfl rfl ?_
       refine q_assign rfl rfl rfl rfl ?_
       refine r_done ?_
       refine s_keep [1, 2, 5, 7, 9, 10, 11, 12, 13, 15, 17, 18, 19, 21, 118, 119, 120, 121, 124, 125, 126, 127, 130, 131, 132, 133, 134, 135, 136, 139, 140, 141, 142, 143, 146, 147, 148, 149, 150, 153, 154, 155, 156, 157, 158, 163, 164, 165, 184, 187, 188, 189] (e' := [(1, _), (2, _), (5, _), (7, _), (9, _), (10, _), (11, _), (12, _), (13, _), (15, _), (17, _), (18, _), (19, _), (21, _), (118, _), (119, _), (120, _), (121, _), (124, _), (125, _), (126, _), (127, _), (130, _), (131, _), (132, _), (133, _), (134, _), (135, _), (136, _), (139, _), (140, _), (141, _), (142, _), (143, _), (146, _), (147, _), (148, _), (149, _), (150, _), (153, _), (154, _), (155, _), (156, _), (157, _), (158, _), (163, _), (164, _), (165, _), (184, _), (187, _), (188, _), (189, _)]) rfl ?_
       refine k_then_n ?_
       refine c_cond_p rfl (fun k2 => ?_) (fun k2 => ?_)
       ·
        obtain ⟨u1, u2, u3⟩ := f9 hcan k2
        refine c_seq ?_
        refine c_plain (.q 0 (.q 1 (.q 2 (.done)))) (by kernel_rfl) ?_
        refine q_move rfl rfl rfl rfl ?_
        refine q_int rfl rfl rfl rfl rfl (b_add' _ (by exact fits_i64 (by omega) (by omega))) ?_
        refine q_assign rfl rfl rfl rfl ?_
        refine r_done ?_
        refine s_keep [1, 2, 5, 7, 9, 10, 11, 12, 13, 19, 21, 118, 119, 120, 121, 124, 125, 126, 127, 130, 131, 132, 133, 134, 135, 136, 139, 140, 141, 142, 143, 146, 147, 148, 149, 150, 153, 154, 155, 156, 157, 158, 163, 164, 165, 187, 188, 189] (e' := [(1, _), (2, _), (5, _), (7, _), (9, _), (10, _), (11, _), (12, _), (13, _), (19, _), (21, _), (118, _), (119, _), (120, _), (121, _), (124, _), (125, _), (126, _), (127, _), (130, _), (131, _), (132, _), (133, _), (134, _), (135, _), (136, _), (139, _), (140, _), (141, _), (142, _), (143, _), (146, _), (147, _), (148, _), (149, _), (150, _), (153, _), (154, _), (155, _), (156, _), (157, _), (158, _), (163, _), (164, _), (165, _), (187, _), (188, _), (189, _)]) rfl ?_
        refine k_then_n ?_
        refine c_seq ?_
        refine c_draw rfl (.q 0 (.q 1 (.q 2 (.q 4 (.q 5 (.q 6 ((.l 3 [6] ((.l 7 [] (.q 8 (.q 9 (.q 10 (.q 11 ((.l 12 [] (.q 13 (.q 14 (.done))))))))))))))))))) (by kernel_rfl) ?_
        refine q_move rfl rfl rfl rfl ?_
        refine q_field (k := 1) rfl rfl rfl rfl Try.underlying40 rfl Try.sizeOf3 rfl ?_
        refine q_load_c (j := 1) rfl rfl rfl rfl Try.isAgg3 (by with_reducible (repeat (first | exact Z0 | apply Z1))) (by first | rfl | exact (Nat.add_zero _).symm) (by rfl) ?_
        refine q_move rfl rfl rfl rfl ?_
        refine q_field (k := 1) rfl rfl rfl rfl Try.underlying40 rfl Try.sizeOf3 rfl ?_
        refine q_load_c (j := 1) rfl rfl rfl rfl Try.isAgg3 (by with_reducible (repeat (first | exact Z0 | apply Z1))) (by first | rfl | exact (Nat.add_zero _).symm) (by rfl) ?_
        refine s_take (A := own 1 encU writes_17a writes_17c (wrsF (wF (deF (dAll x0 (es.take i)) e.1 e.2.1 e.2.2) e.2.2))) (by with_reducible (repeat (first | exact Z0 | apply Z1))) ?_
        refine own_fc fun f_42a f_42b f_42c => ?_
        have sp_43 := entry_spec (wrsF (wF (deF (dAll x0 (es.take i)) e.1 e.2.1 e.2.2) e.2.2)) writes_17a ((wrsF (wF (deF (dAll x0 (es.take i)) e.1 e.2.1 e.2.2) e.2.2)).length) writes_17c (own 1 encU writes_17a writes_17c (wrsF (wF (deF (dAll x0 (es.take i)) e.1 e.2.1 e.2.2) e.2.2))) (by first | rfl | assumption | omega | (simp; done) | (simp; omega)) (rds_own encU_len (fun h => (f_42b h).1) f_42c) e.2.1
        refine l_call rfl rfl rfl rfl rfl rfl Try.call12 (sp_43) (by (repeat ((with_reducible apply Z2); focus (first | (with_reducible (repeat (first | exact Z0 | apply Z1)); done) | (repeat (first | exact Z0 | apply Z1))))); exact Z3) ?_
        rintro ⟨⟩ -
        try simp only [List.cons_append, List.nil_append]
        refine ag_load_c (q := 1) rfl rfl rfl Try.isAgg3 (by with_reducible (repeat (first | exact Z0 | apply Z1))) (by first | rfl | exact (Nat.add_zero _).symm) (by rfl) ?_
        refine ag_nil ?_
        refine s_take (A := own 1 encU ve_4a ve_4c (thF (dAll x0 (es.take i)).v e.2.1)) (by with_reducible (repeat (first | exact Z0 | apply Z1))) ?_
        refine own_fc fun f_44a f_44b f_44c => ?_
        have sp_45 := entry_spec (thF (dAll x0 (es.take i)).v e.2.1) ve_4a ((thF (dAll x0 (es.take i)).v e.2.1).length) ve_4c (own 1 encU ve_4a ve_4c (thF (dAll x0 (es.take i)).v e.2.1)) (by first | rfl | assumption | omega | (simp; done) | (simp; omega)) (rds_own encU_len (fun h => (f_44b h).1) f_44c) e.2.1
        refine l_call rfl rfl rfl rfl rfl rfl Try.call12 (sp_45) (by (repeat ((with_reducible apply Z2); focus (first | (with_reducible (repeat (first | exact Z0 | apply Z1)); done) | (repeat (first | exact Z0 | apply Z1))))); exact Z3) ?_
        rintro ⟨⟩ -
        try simp only [List.cons_append, List.nil_append]
        refine ag_nil ?_
        refine q_int rfl rfl rfl rfl rfl (b_neq _ _ _ _) ?_
        refine q_move rfl rfl rfl rfl ?_
        refine s_bool_p 202 rfl (fun hg => by exfalso; exact hg u1) (fun hg => ?_)
        refine q_move rfl rfl rfl rfl ?_
        refine q_move rfl rfl rfl rfl ?_
        refine s_take (A := own 1 encU reads_6a reads_6c (rdsF (wF (dAll x0 (es.take i)) e.2.2))) (by with_reducible (repeat (first | exact Z0 | apply Z1))) ?_
        refine own_fc fun f_46a f_46b f_46c => ?_
        refine s_take (A := own 1 encU reads_15a reads_15c (rdsF (wF (deF (dAll x0 (es.take i)) e.1 e.2.1 e.2.2) e.2.2))) (by with_reducible (repeat (first | exact Z0 | apply Z1))) ?_
        refine own_fc fun f_47a f_47b f_47c => ?_
        refine s_heap (fun _ h => Bun.fold ((by (repeat ((with_reducible apply Z2); focus (first | (with_reducible (repeat (first | exact Z0 | apply Z1)); done) | (repeat (first | exact Z0 | apply Z1))))); exact Z3 : Takes _ [own 1 encU reads_6a reads_6c (rdsF (wF (dAll x0 (es.take i)) e.2.2)), own 1 encU reads_15a reads_15c (rdsF (wF (deF (dAll x0 (es.take i)) e.1 e.2.1 e.2.2) e.2.2))] _) _ h)) ?_
        have sp_48 := same_spec (rdsF (wF (dAll x0 (es.take i)) e.2.2)) (rdsF (wF (deF (dAll x0 (es.take i)) e.1 e.2.1 e.2.2) e.2.2)) reads_6a reads_15a ((rdsF (wF (dAll x0 (es.take i)) e.2.2)).length) ((rdsF (wF (deF (dAll x0 (es.take i)) e.1 e.2.1 e.2.2) e.2.2)).length) reads_6c reads_15c (Bun [own 1 encU reads_6a reads_6c (rdsF (wF (dAll x0 (es.take i)) e.2.2)), own 1 encU reads_15a reads_15c (rdsF (wF (deF (dAll x0 (es.take i)) e.1 e.2.1 e.2.2) e.2.2))]) (by first | rfl | assumption | omega | (simp; done) | (simp; omega)) (rds_bun (List.mem_cons_self) (rds_own encU_len (fun h => (f_46b h).1) f_46c)) (by first | rfl | assumption | omega | (simp; done) | (simp; omega)) (rds_bun (List.mem_cons_of_mem _ (List.mem_cons_self)) (rds_own encU_len (fun h => (f_47b h).1) f_47c)) (by omega)
        refine l_call rfl rfl rfl rfl rfl rfl Try.call29 (sp_48) (by (repeat ((with_reducible apply Z2); focus (first | (with_reducible (repeat (first | exact Z0 | apply Z1)); done) | (repeat (first | exact Z0 | apply Z1))))); exact Z3) ?_
        rintro ⟨⟩ -
        try simp only [List.cons_append, List.nil_append]
        refine s_take (A := Bun [own 1 encU reads_6a reads_6c (rdsF (wF (dAll x0 (es.take i)) e.2.2)), own 1 encU reads_15a reads_15c (rdsF (wF (deF (dAll x0 (es.take i)) e.1 e.2.1 e.2.2) e.2.2))]) (by with_reducible (repeat (first | exact Z0 | apply Z1))) ?_
        refine s_bun ?_
        try simp only [List.cons_append, List.nil_append]
        try simp only [List.cons_append, List.nil_append]
        refine ag_nil ?_
        refine q_not rfl rfl rfl rfl ?_
        refine q_pick_f rfl rfl rfl rfl rfl ?_
        refine r_done ?_
        refine s_keep [1, 2, 5, 7, 9, 10, 118, 119, 120, 121, 124, 125, 126, 127, 130, 131, 132, 133, 134, 135, 136, 139, 140, 141, 142, 143, 146, 147, 148, 149, 150, 153, 154, 155, 156, 157, 158, 163, 164, 165, 187, 188, 189, 203, 204, 205, 206, 207] (e' := [(1, _), (2, _), (5, _), (7, _), (9, _), (10, _), (118, _), (119, _), (120, _), (121, _), (124, _), (125, _), (126, _), (127, _), (130, _), (131, _), (132, _), (133, _), (134, _), (135, _), (136, _), (139, _), (140, _), (141, _), (142, _), (143, _), (146, _), (147, _), (148, _), (149, _), (150, _), (153, _), (154, _), (155, _), (156, _), (157, _), (158, _), (163, _), (164, _), (165, _), (187, _), (188, _), (189, _), (203, _), (204, _), (205, _), (206, _), (207, _)]) rfl ?_
        refine k_then_n ?_
        refine c_cond_np rfl (fun hg => by exfalso; exact hg u2.symm) (fun hg => ?_)
        refine c_skip ?_
        refine k_blk_n ?_
        refine k_then_n ?_
        refine c_seq ?_
        have hck2 : (deF (dAll x0 (es.take i)) e.1 e.2.1 e.2.2).v.ck = nxF (dAll x0 (es.take i)).v.ck e.1 e.2.1 e.2.2 := by
          by_cases hc9 : canE (dAll x0 (es.take i)) e
          · rw [de_v hc9, vn_ck]
          · rw [show (deF (dAll x0 (es.take i)) e.1 e.2.1 e.2.2) = (dAll x0 (es.take i)) from if_neg hc9, show nxF (dAll x0 (es.take i)).v.ck e.1 e.2.1 e.2.2 = (dAll x0 (es.take i)).v.ck from if_neg (fun h => hc9 (hiff.2 h))]
        refine c_plain (.q 0 ((.l 1 [] (.q 2 (.q 3 (.q 4 (.q 5 ((.l 6 [] (.q 7 ((.l 8 [] (.q 9 (.q 10 (.done))))))))))))))) (by kernel_rfl) ?_
        refine q_move rfl rfl rfl rfl ?_
        have sp_49 := Dj.cost_spec dpa dpc dpo dpoc d (deF (dAll x0 (es.take i)) e.1 e.2.1 e.2.2) (de_inv (dAll_inv hi0 _) e.1 e.2.1 e.2.2)
        refine l_call rfl rfl rfl rfl rfl rfl Try.call30 (sp_49) (by (repeat ((with_reducible apply Z2); focus (first | (with_reducible (repeat (first | exact Z0 | apply Z1)); done) | (repeat (first | exact Z0 | apply Z1))))); exact Z3) ?_
        rintro ⟨⟩ -
        try simp only [List.cons_append, List.nil_append]
        refine ag_nil ?_
        refine q_move rfl rfl rfl rfl ?_
        refine q_int rfl rfl rfl rfl rfl (b_neq _ _ _ _) ?_
        refine q_move rfl rfl rfl rfl ?_
        refine s_bool_p 255 rfl (fun hg => by exfalso; first | omega | (rw [show (deF (dAll x0 (es.take i)) e.1 e.2.1 e.2.2) = (dAll x0 (es.take i)) from if_neg hncan] at hg; exact hg rfl)) (fun hg => ?_)
        refine q_move rfl rfl rfl rfl ?_
        have sp_50 := Dj.len_spec dpa dpc dpo dpoc d (deF (dAll x0 (es.take i)) e.1 e.2.1 e.2.2) (de_inv (dAll_inv hi0 _) e.1 e.2.1 e.2.2)
        refine l_call rfl rfl rfl rfl rfl rfl Try.call21 (sp_50) (by (repeat ((with_reducible apply Z2); focus (first | (with_reducible (repeat (first | exact Z0 | apply Z1)); done) | (repeat (first | exact Z0 | apply Z1))))); exact Z3) ?_
        rintro ⟨⟩ -
        try simp only [List.cons_append, List.nil_append]
        refine ag_nil ?_
        refine q_move rfl rfl rfl rfl ?_
        have sp_51 := Fe.rlen_spec kp kc k (nxF (dAll x0 (es.take i)).v.ck e.1 e.2.1 e.2.2)
        refine l_call rfl rfl rfl rfl rfl rfl Try.call31 (sp_51) (by (repeat ((with_reducible apply Z2); focus (first | (with_reducible (repeat (first | exact Z0 | apply Z1)); done) | (repeat (first | exact Z0 | apply Z1))))); exact Z3) ?_
        rintro ⟨⟩ -
        try simp only [List.cons_append, List.nil_append]
        refine ag_nil ?_
        refine q_int rfl rfl rfl rfl rfl (b_neq _ _ _ _) ?_
        refine q_pick_f rfl rfl rfl rfl rfl ?_
        refine r_done ?_
        refine s_keep [1, 2, 5, 7, 9, 10, 118, 119, 120, 121, 124, 125, 126, 127, 130, 131, 132, 133, 134, 135, 136, 139, 140, 141, 142, 143, 146, 147, 148, 149, 150, 153, 154, 155, 156, 157, 158, 163, 164, 165, 187, 188, 189, 203, 204, 205, 206, 256, 257, 258, 259, 260, 261] (e' := [(1, _), (2, _), (5, _), (7, _), (9, _), (10, _), (118, _), (119, _), (120, _), (121, _), (124, _), (125, _), (126, _), (127, _), (130, _), (131, _), (132, _), (133, _), (134, _), (135, _), (136, _), (139, _), (140, _), (141, _), (142, _), (143, _), (146, _), (147, _), (148, _), (149, _), (150, _), (153, _), (154, _), (155, _), (156, _), (157, _), (158, _), (163, _), (164, _), (165, _), (187, _), (188, _), (189, _), (203, _), (204, _), (205, _), (206, _), (256, _), (257, _), (258, _), (259, _), (260, _), (261, _)]) rfl ?_
        refine k_then_n ?_
        refine c_cond_p rfl (fun hg => by exfalso; exact hg (by rw [hck2])) (fun hg => ?_)
        refine c_skip ?_
        refine k_blk_n ?_
        refine k_then_n ?_
        refine c_plain (.q 0 (.q 1 (.q 2 (.done)))) (by kernel_rfl) ?_
        refine q_move rfl rfl rfl rfl ?_
        refine q_int rfl rfl rfl rfl rfl (b_add' _ (by exact fits_i64 (by omega) (by omega))) ?_
        refine q_assign rfl rfl rfl rfl ?_
        refine r_done ?_
        refine k_then_n ?_
        refine s_eq 9 rfl (v' := .int .i64 (deF (dAll x0 (es.take i)) e.1 e.2.1 e.2.2).cost) (by first | (congr 1; omega) | (congr 1; rw [show (deF (dAll x0 (es.take i)) e.1 e.2.1 e.2.2) = (dAll x0 (es.take i)) from if_neg hncan])) ?_
        rw [← hck2, show (deF (dAll x0 (es.take i)) e.1 e.2.1 e.2.2) = dAll x0 (es.take (i + 1)) from (dAll_next he).symm]
        refine s_eq 9 rfl (v' := .int .i64 ((dAll x0 (es.take (i + 1))).cost)) (by first | rfl | (congr 1; done) | (congr 1 <;> first | rfl | omega | (simp; done) | (simp; omega))) ?_
        refine loop_next (x := i) (i + 1) ?_ ?_ ?_ ?_
        · show i + 1 ≤ m; omega
        · show m - (i + 1) < m - i; omega
        · exact ⟨rfl, rfl, rfl, rfl, rfl, rfl, trivial⟩
        · (try simp only [List.cons_append, List.nil_append]); (repeat ((with_reducible apply Z2); focus (first | (with_reducible (repeat (first | exact Z0 | apply Z1)); done) | (repeat (first | exact Z0 | apply Z1))))); (repeat (first | exact Z3 | exact Takes.self | refine takes_drop2 ?_))
       ·
        obtain ⟨u1, u2, u3, u4⟩ := f10 hcan k1 k2
        refine c_seq ?_
        refine c_plain (.q 0 (.q 1 (.q 2 (.q 3 (.q 4 (.q 5 (.q 6 (.q 7 (.q 8 (.q 9 (.q 10 (.q 11 (.q 12 (.done)))))))))))))) (by kernel_rfl) ?_
        refine q_move rfl rfl rfl rfl ?_
        refine q_not rfl rfl rfl rfl ?_
        refine q_move rfl rfl rfl rfl ?_
        refine s_bool_np 211 rfl (fun hg => by exfalso; exact hg hc) (fun hg => ?_)
        refine q_field (k := 0) rfl rfl rfl rfl Try.underlying40 rfl Try.sizeOf38 rfl ?_
        refine q_load_c (j := 0) rfl rfl rfl rfl Try.isAgg38 (by with_reducible (repeat (first | exact Z0 | apply Z1))) (by first | rfl | exact (Nat.add_zero _).symm) (by rfl) ?_
        refine q_int rfl rfl rfl rfl rfl (b_neq _ _ _ _) ?_
        refine q_move rfl rfl rfl rfl ?_
        refine s_bool_p 215 rfl (fun hg => ?_) (fun hg => by exfalso; exact hg k1)
        refine q_field (k := 0) rfl rfl rfl rfl Try.underlying40 rfl Try.sizeOf38 rfl ?_
        refine q_load_c (j := 0) rfl rfl rfl rfl Try.isAgg38 (by with_reducible (repeat (first | exact Z0 | apply Z1))) (by first | rfl | exact (Nat.add_zero _).symm) (by rfl) ?_
        refine q_int rfl rfl rfl rfl rfl (b_neq _ _ _ _) ?_
        refine q_pick_t rfl rfl rfl rfl rfl ?_
        refine q_pick_f rfl rfl rfl rfl rfl ?_
        refine q_assign rfl rfl rfl rfl ?_
        refine r_done ?_
        refine s_keep [1, 2, 5, 7, 9, 10, 11, 12, 13, 15, 17, 18, 19, 21, 118, 119, 120, 121, 124, 125, 126, 127, 130, 131, 132, 133, 134, 135, 136, 139, 140, 141, 142, 143, 146, 147, 148, 149, 150, 153, 154, 155, 156, 157, 158, 163, 164, 165, 187, 188, 189, 208, 212, 213, 214, 215, 216, 217, 218, 219] (e' := [(1, _), (2, _), (5, _), (7, _), (9, _), (10, _), (11, _), (12, _), (13, _), (15, _), (17, _), (18, _), (19, _), (21, _), (118, _), (119, _), (120, _), (121, _), (124, _), (125, _), (126, _), (127, _), (130, _), (131, _), (132, _), (133, _), (134, _), (135, _), (136, _), (139, _), (140, _), (141, _), (142, _), (143, _), (146, _), (147, _), (148, _), (149, _), (150, _), (153, _), (154, _), (155, _), (156, _), (157, _), (158, _), (163, _), (164, _), (165, _), (187, _), (188, _), (189, _), (208, _), (212, _), (213, _), (214, _), (215, _), (216, _), (217, _), (218, _), (219, _)]) rfl ?_
        refine k_then_n ?_
        refine c_cond_p rfl (fun hg => ?_) (fun hg => by exfalso; exact hg k2)
        refine c_seq ?_
        refine c_plain (.q 0 (.q 1 ((.l 2 [] (.q 3 (.q 4 (.q 5 (.q 6 ((.l 7 [] (.q 8 (.q 9 (.q 10 (.q 11 (.q 12 ((.l 13 [] ((.l 14 [] (.q 15 (.q 16 (.q 17 (.q 18 (.q 19 (.q 20 (.q 21 (.q 22 (.q 23 (.q 24 ((.l 25 [] ((.l 26 [] (.q 27 (.q 28 (.q 29 (.done))))))))))))))))))))))))))))))))))))) (by kernel_rfl) ?_
        refine q_move rfl rfl rfl rfl ?_
        refine q_move rfl rfl rfl rfl ?_
        refine s_take (A := own 1 encU reads_6a reads_6c (rdsF (wF (dAll x0 (es.take i)) e.2.2))) (by with_reducible (repeat (first | exact Z0 | apply Z1))) ?_
        refine own_fc fun f_52a f_52b f_52c => ?_
        refine s_take (A := own 1 encU reads_15a reads_15c (rdsF (wF (deF (dAll x0 (es.take i)) e.1 e.2.1 e.2.2) e.2.2))) (by with_reducible (repeat (first | exact Z0 | apply Z1))) ?_
        refine own_fc fun f_53a f_53b f_53c => ?_
        refine s_heap (fun _ h => Bun.fold ((by (repeat ((with_reducible apply Z2); focus (first | (with_reducible (repeat (first | exact Z0 | apply Z1)); done) | (repeat (first | exact Z0 | apply Z1))))); exact Z3 : Takes _ [own 1 encU reads_6a reads_6c (rdsF (wF (dAll x0 (es.take i)) e.2.2)), own 1 encU reads_15a reads_15c (rdsF (wF (deF (dAll x0 (es.take i)) e.1 e.2.1 e.2.2) e.2.2))] _) _ h)) ?_
        have sp_54 := same_spec (rdsF (wF (dAll x0 (es.take i)) e.2.2)) (rdsF (wF (deF (dAll x0 (es.take i)) e.1 e.2.1 e.2.2) e.2.2)) reads_6a reads_15a ((rdsF (wF (dAll x0 (es.take i)) e.2.2)).length) ((rdsF (wF (deF (dAll x0 (es.take i)) e.1 e.2.1 e.2.2) e.2.2)).length) reads_6c reads_15c (Bun [own 1 encU reads_6a reads_6c (rdsF (wF (dAll x0 (es.take i)) e.2.2)), own 1 encU reads_15a reads_15c (rdsF (wF (deF (dAll x0 (es.take i)) e.1 e.2.1 e.2.2) e.2.2))]) (by first | rfl | assumption | omega | (simp; done) | (simp; omega)) (rds_bun (List.mem_cons_self) (rds_own encU_len (fun h => (f_52b h).1) f_52c)) (by first | rfl | assumption | omega | (simp; done) | (simp; omega)) (rds_bun (List.mem_cons_of_mem _ (List.mem_cons_self)) (rds_own encU_len (fun h => (f_53b h).1) f_53c)) (by omega)
        refine l_call rfl rfl rfl rfl rfl rfl Try.call29 (sp_54) (by (repeat ((with_reducible apply Z2); focus (first | (with_reducible (repeat (first | exact Z0 | apply Z1)); done) | (repeat (first | exact Z0 | apply Z1))))); exact Z3) ?_
        rintro ⟨⟩ -
        try simp only [List.cons_append, List.nil_append]
        refine s_take (A := Bun [own 1 encU reads_6a reads_6c (rdsF (wF (dAll x0 (es.take i)) e.2.2)), own 1 encU reads_15a reads_15c (rdsF (wF (deF (dAll x0 (es.take i)) e.1 e.2.1 e.2.2) e.2.2))]) (by with_reducible (repeat (first | exact Z0 | apply Z1))) ?_
        refine s_bun ?_
        try simp only [List.cons_append, List.nil_append]
        try simp only [List.cons_append, List.nil_append]
        refine ag_nil ?_
        refine q_not rfl rfl rfl rfl ?_
        refine q_move rfl rfl rfl rfl ?_
        refine s_bool_np 225 rfl (fun hg => by exfalso; first | exact hg u1.symm | exact hg (by rw [show (deF (dAll x0 (es.take i)) e.1 e.2.1 e.2.2) = (dAll x0 (es.take i)) from if_neg hncan])) (fun hg => ?_)
        refine q_move rfl rfl rfl rfl ?_
        refine q_move rfl rfl rfl rfl ?_
        refine s_take (A := own 1 encU writes_8a writes_8c (wrsF (wF (dAll x0 (es.take i)) e.2.2))) (by with_reducible (repeat (first | exact Z0 | apply Z1))) ?_
        refine own_fc fun f_55a f_55b f_55c => ?_
        refine s_take (A := own 1 encU writes_17a writes_17c (wrsF (wF (deF (dAll x0 (es.take i)) e.1 e.2.1 e.2.2) e.2.2))) (by with_reducible (repeat (first | exact Z0 | apply Z1))) ?_
        refine own_fc fun f_56a f_56b f_56c => ?_
        refine s_heap (fun _ h => Bun.fold ((by (repeat ((with_reducible apply Z2); focus (first | (with_reducible (repeat (first | exact Z0 | apply Z1)); done) | (repeat (first | exact Z0 | apply Z1))))); exact Z3 : Takes _ [own 1 encU writes_8a writes_8c (wrsF (wF (dAll x0 (es.take i)) e.2.2)), own 1 encU writes_17a writes_17c (wrsF (wF (deF (dAll x0 (es.take i)) e.1 e.2.1 e.2.2) e.2.2))] _) _ h)) ?_
        have sp_57 := same_spec (wrsF (wF (dAll x0 (es.take i)) e.2.2)) (wrsF (wF (deF (dAll x0 (es.take i)) e.1 e.2.1 e.2.2) e.2.2)) writes_8a writes_17a ((wrsF (wF (dAll x0 (es.take i)) e.2.2)).length) ((wrsF (wF (deF (dAll x0 (es.take i)) e.1 e.2.1 e.2.2) e.2.2)).length) writes_8c writes_17c (Bun [own 1 encU writes_8a writes_8c (wrsF (wF (dAll x0 (es.take i)) e.2.2)), own 1 encU writes_17a writes_17c (wrsF (wF (deF (dAll x0 (es.take i)) e.1 e.2.1 e.2.2) e.2.2))]) (by first | rfl | assumption | omega | (simp; done) | (simp; omega)) (rds_bun (List.mem_cons_self) (rds_own encU_len (fun h => (f_55b h).1) f_55c)) (by first | rfl | assumption | omega | (simp; done) | (simp; omega)) (rds_bun (List.mem_cons_of_mem _ (List.mem_cons_self)) (rds_own encU_len (fun h => (f_56b h).1) f_56c)) (by omega)
        refine l_call rfl rfl rfl rfl rfl rfl Try.call29 (sp_57) (by (repeat ((with_reducible apply Z2); focus (first | (with_reducible (repeat (first | exact Z0 | apply Z1)); done) | (repeat (first | exact Z0 | apply Z1))))); exact Z3) ?_
        rintro ⟨⟩ -
        try simp only [List.cons_append, List.nil_append]
        refine s_take (A := Bun [own 1 encU writes_8a writes_8c (wrsF (wF (dAll x0 (es.take i)) e.2.2)), own 1 encU writes_17a writes_17c (wrsF (wF (deF (dAll x0 (es.take i)) e.1 e.2.1 e.2.2) e.2.2))]) (by with_reducible (repeat (first | exact Z0 | apply Z1))) ?_
        refine s_bun ?_
        try simp only [List.cons_append, List.nil_append]
        try simp only [List.cons_append, List.nil_append]
        refine ag_nil ?_
        refine q_not rfl rfl rfl rfl ?_
        refine q_pick_f rfl rfl rfl rfl rfl ?_
        refine q_move rfl rfl rfl rfl ?_
        refine s_bool_np 231 rfl (fun hg => by exfalso; first | exact hg u2.symm | exact hg (by rw [show (deF (dAll x0 (es.take i)) e.1 e.2.1 e.2.2) = (dAll x0 (es.take i)) from if_neg hncan])) (fun hg => ?_)
        refine q_move rfl rfl rfl rfl ?_
        refine q_move rfl rfl rfl rfl ?_
        have sp_59 := Dj.flags_spec dpa dpc dpo dpoc d (deF (dAll x0 (es.take i)) e.1 e.2.1 e.2.2) (de_inv (dAll_inv hi0 _) e.1 e.2.1 e.2.2)
        refine l_call rfl rfl rfl rfl rfl rfl Try.call18 (sp_59) (by (repeat ((with_reducible apply Z2); focus (first | (with_reducible (repeat (first | exact Z0 | apply Z1)); done) | (repeat (first | exact Z0 | apply Z1))))); exact Z3) ?_
        rintro ⟨fl_58a, fl_58c⟩ -
        try simp only [List.cons_append, List.nil_append]
        refine ag_nil ?_
        refine s_take (A := own 2 enc2 fl_10a fl_10c (flF (dAll x0 (es.take i)).vs)) (by with_reducible (repeat (first | exact Z0 | apply Z1))) ?_
        refine own_fc fun f_60a f_60b f_60c => ?_
        refine s_take (A := own 2 enc2 fl_58a fl_58c (flF (deF (dAll x0 (es.take i)) e.1 e.2.1 e.2.2).vs)) (by with_reducible (repeat (first | exact Z0 | apply Z1))) ?_
        refine own_fc fun f_61a f_61b f_61c => ?_
        refine s_heap (fun _ h => Bun.fold ((by (repeat ((with_reducible apply Z2); focus (first | (with_reducible (repeat (first | exact Z0 | apply Z1)); done) | (repeat (first | exact Z0 | apply Z1))))); exact Z3 : Takes _ [own 2 enc2 fl_10a fl_10c (flF (dAll x0 (es.take i)).vs), own 2 enc2 fl_58a fl_58c (flF (deF (dAll x0 (es.take i)) e.1 e.2.1 e.2.2).vs)] _) _ h)) ?_
        have sp_62 := flags_same (flF (dAll x0 (es.take i)).vs) (flF (deF (dAll x0 (es.take i)) e.1 e.2.1 e.2.2).vs) fl_10a fl_58a ((flF (dAll x0 (es.take i)).vs).length) ((flF (deF (dAll x0 (es.take i)) e.1 e.2.1 e.2.2).vs).length) fl_10c fl_58c (Bun [own 2 enc2 fl_10a fl_10c (flF (dAll x0 (es.take i)).vs), own 2 enc2 fl_58a fl_58c (flF (deF (dAll x0 (es.take i)) e.1 e.2.1 e.2.2).vs)]) (by first | rfl | assumption | omega | (simp; done) | (simp; omega)) (rds_bun (List.mem_cons_self) (rds_own enc2_len (fun h => (f_60b h).1) f_60c)) (by first | rfl | assumption | omega | (simp; done) | (simp; omega)) (rds_bun (List.mem_cons_of_mem _ (List.mem_cons_self)) (rds_own enc2_len (fun h => (f_61b h).1) f_61c)) (by omega)
        refine l_call rfl rfl rfl rfl rfl rfl Try.call17 (sp_62) (by (repeat ((with_reducible apply Z2); focus (first | (with_reducible (repeat (first | exact Z0 | apply Z1)); done) | (repeat (first | exact Z0 | apply Z1))))); exact Z3) ?_
        rintro ⟨⟩ -
        try simp only [List.cons_append, List.nil_append]
        refine s_take (A := Bun [own 2 enc2 fl_10a fl_10c (flF (dAll x0 (es.take i)).vs), own 2 enc2 fl_58a fl_58c (flF (deF (dAll x0 (es.take i)) e.1 e.2.1 e.2.2).vs)]) (by with_reducible (repeat (first | exact Z0 | apply Z1))) ?_
        refine s_bun ?_
        try simp only [List.cons_append, List.nil_append]
        try simp only [List.cons_append, List.nil_append]
        refine ag_nil ?_
        refine q_not rfl rfl rfl rfl ?_
        refine q_pick_f rfl rfl rfl rfl rfl ?_
        refine q_move rfl rfl rfl rfl ?_
        refine s_bool_np 238 rfl (fun hg => by exfalso; first | exact hg u3.symm | exact hg (by rw [show (deF (dAll x0 (es.take i)) e.1 e.2.1 e.2.2) = (dAll x0 (es.take i)) from if_neg hncan])) (fun hg => ?_)
        refine q_move rfl rfl rfl rfl ?_
        refine q_not rfl rfl rfl rfl ?_
        refine q_move rfl rfl rfl rfl ?_
        refine s_bool_np 241 rfl (fun hg => by exfalso; exact hg hc) (fun hg => ?_)
        refine q_skip rfl rfl rfl rfl ?_
        refine q_skip rfl rfl rfl rfl ?_
        refine q_skip rfl rfl rfl rfl ?_
        refine q_skip rfl rfl rfl rfl ?_
        refine l_skip rfl rfl rfl rfl ?_
        refine l_skip rfl rfl rfl rfl ?_
        refine q_skip rfl rfl rfl rfl ?_
        refine q_pick_f rfl rfl rfl rfl rfl ?_
        refine q_pick_f rfl rfl rfl rfl rfl ?_
        refine r_done ?_
        refine s_keep [1, 2, 5, 7, 9, 10, 118, 119, 120, 121, 124, 125, 126, 127, 130, 131, 132, 133, 134, 135, 136, 139, 140, 141, 142, 143, 146, 147, 148, 149, 150, 153, 154, 155, 156, 157, 158, 163, 164, 165, 187, 188, 189, 212, 213, 214, 215, 216, 217, 218, 219, 226, 227, 228, 229, 232, 233, 234, 235, 236, 239, 240, 241, 242, 243, 244, 245, 246, 247, 248, 249, 250] (e' := [(1, _), (2, _), (5, _), (7, _), (9, _), (10, _), (118, _), (119, _), (120, _), (121, _), (124, _), (125, _), (126, _), (127, _), (130, _), (131, _), (132, _), (133, _), (134, _), (135, _), (136, _), (139, _), (140, _), (141, _), (142, _), (143, _), (146, _), (147, _), (148, _), (149, _), (150, _), (153, _), (154, _), (155, _), (156, _), (157, _), (158, _), (163, _), (164, _), (165, _), (187, _), (188, _), (189, _), (212, _), (213, _), (214, _), (215, _), (216, _), (217, _), (218, _), (219, _), (226, _), (227, _), (228, _), (229, _), (232, _), (233, _), (234, _), (235, _), (236, _), (239, _), (240, _), (241, _), (242, _), (243, _), (244, _), (245, _), (246, _), (247, _), (248, _), (249, _), (250, _)]) rfl ?_
        refine k_then_n ?_
        refine c_cond_f rfl ?_
        refine c_skip ?_
        refine k_blk_n ?_
        refine k_then_n ?_
        refine c_seq ?_
        have hck2 : (deF (dAll x0 (es.take i)) e.1 e.2.1 e.2.2).v.ck = nxF (dAll x0 (es.take i)).v.ck e.1 e.2.1 e.2.2 := by
          by_cases hc9 : canE (dAll x0 (es.take i)) e
          · rw [de_v hc9, vn_ck]
          · rw [show (deF (dAll x0 (es.take i)) e.1 e.2.1 e.2.2) = (dAll x0 (es.take i)) from if_neg hc9, show nxF (dAll x0 (es.take i)).v.ck e.1 e.2.1 e.2.2 = (dAll x0 (es.take i)).v.ck from if_neg (fun h => hc9 (hiff.2 h))]
        refine c_plain (.q 0 ((.l 1 [] (.q 2 (.q 3 (.q 4 (.q 5 ((.l 6 [] (.q 7 ((.l 8 [] (.q 9 (.q 10 (.done))))))))))))))) (by kernel_rfl) ?_
        refine q_move rfl rfl rfl rfl ?_
        have sp_63 := Dj.cost_spec dpa dpc dpo dpoc d (deF (dAll x0 (es.take i)) e.1 e.2.1 e.2.2) (de_inv (dAll_inv hi0 _) e.1 e.2.1 e.2.2)
        refine l_call rfl rfl rfl rfl rfl rfl Try.call30 (sp_63) (by (repeat ((with_reducible apply Z2); focus (first | (with_reducible (repeat (first | exact Z0 | apply Z1)); done) | (repeat (first | exact Z0 | apply Z1))))); exact Z3) ?_
        rintro ⟨⟩ -
        try simp only [List.cons_append, List.nil_append]
        refine ag_nil ?_
        refine q_move rfl rfl rfl rfl ?_
        refine q_int rfl rfl rfl rfl rfl (b_neq _ _ _ _) ?_
        refine q_move rfl rfl rfl rfl ?_
        refine s_bool_p 255 rfl (fun hg => by exfalso; first | omega | (rw [show (deF (dAll x0 (es.take i)) e.1 e.2.1 e.2.2) = (dAll x0 (es.take i)) from if_neg hncan] at hg; exact hg rfl)) (fun hg => ?_)
        refine q_move rfl rfl rfl rfl ?_
        have sp_64 := Dj.len_spec dpa dpc dpo dpoc d (deF (dAll x0 (es.take i)) e.1 e.2.1 e.2.2) (de_inv (dAll_inv hi0 _) e.1 e.2.1 e.2.2)
        refine l_call rfl rfl rfl rfl rfl rfl Try.call21 (sp_64) (by (repeat ((with_reducible apply Z2); focus (first | (with_reducible (repeat (first | exact Z0 | apply Z1)); done) | (repeat (first | exact Z0 | apply Z1))))); exact Z3) ?_
        rintro ⟨⟩ -
        try simp only [List.cons_append, List.nil_append]
        refine ag_nil ?_
        refine q_move rfl rfl rfl rfl ?_
        have sp_65 := Fe.rlen_spec kp kc k (nxF (dAll x0 (es.take i)).v.ck e.1 e.2.1 e.2.2)
        refine l_call rfl rfl rfl rfl rfl rfl Try.call31 (sp_65) (by (repeat ((with_reducible apply Z2); focus (first | (with_reducible (repeat (first | exact Z0 | apply Z1)); done) | (repeat (first | exact Z0 | apply Z1))))); exact Z3) ?_
        rintro ⟨⟩ -
        try simp only [List.cons_append, List.nil_append]
        refine ag_nil ?_
        refine q_int rfl rfl rfl rfl rfl (b_neq _ _ _ _) ?_
        refine q_pick_f rfl rfl rfl rfl rfl ?_
        refine r_done ?_
        refine s_keep [1, 2, 5, 7, 9, 10, 118, 119, 120, 121, 124, 125, 126, 127, 130, 131, 132, 133, 134, 135, 136, 139, 140, 141, 142, 143, 146, 147, 148, 149, 150, 153, 154, 155, 156, 157, 158, 163, 164, 165, 187, 188, 189, 212, 213, 214, 215, 216, 217, 218, 219, 226, 227, 228, 229, 232, 233, 234, 235, 236, 239, 240, 241, 242, 243, 244, 245, 246, 247, 248, 249, 256, 257, 258, 259, 260, 261] (e' := [(1, _), (2, _), (5, _), (7, _), (9, _), (10, _), (118, _), (119, _), (120, _), (121, _), (124, _), (125, _), (126, _), (127, _), (130, _), (131, _), (132, _), (133, _), (134, _), (135, _), (136, _), (139, _), (140, _), (141, _), (142, _), (143, _), (146, _), (147, _), (148, _), (149, _), (150, _), (153, _), (154, _), (155, _), (156, _), (157, _), (158, _), (163, _), (164, _), (165, _), (187, _), (188, _), (189, _), (212, _), (213, _), (214, _), (215, _), (216, _), (217, _), (218, _), (219, _), (226, _), (227, _), (228, _), (229, _), (232, _), (233, _), (234, _), (235, _), (236, _), (239, _), (240, _), (241, _), (242, _), (243, _), (244, _), (245, _), (246, _), (247, _), (248, _), (249, _), (256, _), (257, _), (258, _), (259, _), (260, _), (261, _)]) rfl ?_
        refine k_then_n ?_
        refine c_cond_p rfl (fun hg => by exfalso; exact hg (by rw [hck2])) (fun hg => ?_)
        refine c_skip ?_
        refine k_blk_n ?_
        refine k_then_n ?_
        refine c_plain (.q 0 (.q 1 (.q 2 (.done)))) (by kernel_rfl) ?_
        refine q_move rfl rfl rfl rfl ?_
        refine q_int rfl rfl rfl rfl rfl (b_add' _ (by exact fits_i64 (by omega) (by omega))) ?_
        refine q_assign rfl rfl rfl rfl ?_
        refine r_done ?_
        refine k_then_n ?_
        refine s_eq 9 rfl (v' := .int .i64 (deF (dAll x0 (es.take i)) e.1 e.2.1 e.2.2).cost) (by first | (congr 1; omega) | (congr 1; rw [show (deF (dAll x0 (es.take i)) e.1 e.2.1 e.2.2) = (dAll x0 (es.take i)) from if_neg hncan])) ?_
        rw [← hck2, show (deF (dAll x0 (es.take i)) e.1 e.2.1 e.2.2) = dAll x0 (es.take (i + 1)) from (dAll_next he).symm]
        refine s_eq 9 rfl (v' := .int .i64 ((dAll x0 (es.take (i + 1))).cost)) (by first | rfl | (congr 1; done) | (congr 1 <;> first | rfl | omega | (simp; done) | (simp; omega))) ?_
        refine loop_next (x := i) (i + 1) ?_ ?_ ?_ ?_
        · show i + 1 ≤ m; omega
        · show m - (i + 1) < m - i; omega
        · exact ⟨rfl, rfl, rfl, rfl, rfl, rfl, trivial⟩
        · (try simp only [List.cons_append, List.nil_append]); (repeat ((with_reducible apply Z2); focus (first | (with_reducible (repeat (first | exact Z0 | apply Z1)); done) | (repeat (first | exact Z0 | apply Z1))))); (repeat (first | exact Z3 | exact Takes.self | refine takes_drop2 ?_))
     ·
      have hncan : ¬ canE (dAll x0 (es.take i)) e := fun h => hc (if_pos (hiff.1 h))
      refine q_skip rfl rfl rfl rfl ?_
      refine q_skip rfl rfl rfl rfl ?_
      refine q_skip rfl rfl rfl rfl ?_
      refine q_pick_f rfl rfl rfl rfl rfl ?_
      refine q_assign rfl rfl rfl rfl ?_
      refine r_done ?_
      refine s_keep [1, 2, 5, 7, 9, 10, 11, 12, 13, 15, 17, 18, 19, 21, 118, 119, 120, 121, 124, 125, 126, 127, 130, 131, 132, 133, 134, 135, 136, 139, 140, 141, 142, 143, 146, 147, 148, 149, 150, 153, 154, 155, 156, 157, 158, 160, 163, 164, 165] (e' := [(1, _), (2, _), (5, _), (7, _), (9, _), (10, _), (11, _), (12, _), (13, _), (15, _), (17, _), (18, _), (19, _), (21, _), (118, _), (119, _), (120, _), (121, _), (124, _), (125, _), (126, _), (127, _), (130, _), (131, _), (132, _), (133, _), (134, _), (135, _), (136, _), (139, _), (140, _), (141, _), (142, _), (143, _), (146, _), (147, _), (148, _), (149, _), (150, _), (153, _), (154, _), (155, _), (156, _), (157, _), (158, _), (160, _), (163, _), (164, _), (165, _)]) rfl ?_
      refine k_then_n ?_
      refine c_cond_f rfl ?_
      refine c_seq ?_
      refine c_plain (.q 0 (.q 1 (.q 2 (.q 3 (.q 4 (.q 5 (.q 6 (.done)))))))) (by kernel_rfl) ?_
      refine q_move rfl rfl rfl rfl ?_
      refine q_move rfl rfl rfl rfl ?_
      refine s_bool_p 186 rfl (fun hg => by exfalso; exact hc hg) (fun hg => ?_)
      refine q_skip rfl rfl rfl rfl ?_
      refine q_skip rfl rfl rfl rfl ?_
      refine q_skip rfl rfl rfl rfl ?_
      refine q_pick_f rfl rfl rfl rfl rfl ?_
      refine q_assign rfl rfl rfl rfl ?_
      refine r_done ?_
      refine s_keep [1, 2, 5, 7, 9, 10, 11, 12, 13, 15, 17, 18, 19, 21, 118, 119, 120, 121, 124, 125, 126, 127, 130, 131, 132, 133, 134, 135, 136, 139, 140, 141, 142, 143, 146, 147, 148, 149, 150, 153, 154, 155, 156, 157, 158, 163, 164, 165, 184, 187, 188, 189] (e' := [(1, _), (2, _), (5, _), (7, _), (9, _), (10, _), (11, _), (12, _), (13, _), (15, _), (17, _), (18, _), (19, _), (21, _), (118, _), (119, _), (120, _), (121, _), (124, _), (125, _), (126, _), (127, _), (130, _), (131, _), (132, _), (133, _), (134, _), (135, _), (136, _), (139, _), (140, _), (141, _), (142, _), (143, _), (146, _), (147, _), (148, _), (149, _), (150, _), (153, _), (154, _), (155, _), (156, _), (157, _), (158, _), (163, _), (164, _), (165, _), (184, _), (187, _), (188, _), (189, _)]) rfl ?_
      refine k_then_n ?_
      refine c_cond_f rfl ?_
      refine c_seq ?_
      refine c_plain (.q 0 (.q 1 (.q 2 (.q 3 (.q 4 (.q 5 (.q 6 (.q 7 (.q 8 (.q 9 (.q 10 (.q 11 (.q 12 (.done)))))))))))))) (by kernel_rfl) ?_
      refine q_move rfl rfl rfl rfl ?_
      refine q_not rfl rfl rfl rfl ?_
      refine q_move rfl rfl rfl rfl ?_
      refine s_bool_np 211 rfl (fun hg => ?_) (fun hg => by exfalso; first | exact hc hg | exact hc (Classical.byContradiction hg))
      refine q_skip rfl rfl rfl rfl ?_
      refine q_skip rfl rfl rfl rfl ?_
      refine q_skip rfl rfl rfl rfl ?_
      refine q_skip rfl rfl rfl rfl ?_
      refine q_skip rfl rfl rfl rfl ?_
      refine q_skip rfl rfl rfl rfl ?_
      refine q_skip rfl rfl rfl rfl ?_
      refine q_skip rfl rfl rfl rfl ?_
      refine q_pick_t rfl rfl rfl rfl rfl ?_
      refine q_assign rfl rfl rfl rfl ?_
      refine r_done ?_
      refine s_keep [1, 2, 5, 7, 9, 10, 11, 12, 13, 15, 17, 18, 19, 21, 118, 119, 120, 121, 124, 125, 126, 127, 130, 131, 132, 133, 134, 135, 136, 139, 140, 141, 142, 143, 146, 147, 148, 149, 150, 153, 154, 155, 156, 157, 158, 163, 164, 165, 187, 188, 189, 208, 212, 213, 214, 215, 216, 217, 218, 219] (e' := [(1, _), (2, _), (5, _), (7, _), (9, _), (10, _), (11, _), (12, _), (13, _), (15, _), (17, _), (18, _), (19, _), (21, _), (118, _), (119, _), (120, _), (121, _), (124, _), (125, _), (126, _), (127, _), (130, _), (131, _), (132, _), (133, _), (134, _), (135, _), (136, _), (139, _), (140, _), (141, _), (142, _), (143, _), (146, _), (147, _), (148, _), (149, _), (150, _), (153, _), (154, _), (155, _), (156, _), (157, _), (158, _), (163, _), (164, _), (165, _), (187, _), (188, _), (189, _), (208, _), (212, _), (213, _), (214, _), (215, _), (216, _), (217, _), (218, _), (219, _)]) rfl ?_
      refine k_then_n ?_
      refine c_cond_t rfl ?_
      refine c_seq ?_
      refine c_plain (.q 0 (.q 1 ((.l 2 [] (.q 3 (.q 4 (.q 5 (.q 6 ((.l 7 [] (.q 8 (.q 9 (.q 10 (.q 11 (.q 12 ((.l 13 [] ((.l 14 [] (.q 15 (.q 16 (.q 17 (.q 18 (.q 19 (.q 20 (.q 21 (.q 22 (.q 23 (.q 24 ((.l 25 [] ((.l 26 [] (.q 27 (.q 28 (.q 29 (.done))))))))))))))))))))))))))))))))))))) (by kernel_rfl) ?_
      refine q_move rfl rfl rfl rfl ?_
      refine q_move rfl rfl rfl rfl ?_
      refine s_take (A := own 1 encU reads_6a reads_6c (rdsF (wF (dAll x0 (es.take i)) e.2.2))) (by with_reducible (repeat (first | exact Z0 | apply Z1))) ?_
      refine own_fc fun f_66a f_66b f_66c => ?_
      refine s_take (A := own 1 encU reads_15a reads_15c (rdsF (wF (deF (dAll x0 (es.take i)) e.1 e.2.1 e.2.2) e.2.2))) (by with_reducible (repeat (first | exact Z0 | apply Z1))) ?_
      refine own_fc fun f_67a f_67b f_67c => ?_
      refine s_heap (fun _ h => Bun.fold ((by (repeat ((with_reducible apply Z2); focus (first | (with_reducible (repeat (first | exact Z0 | apply Z1)); done) | (repeat (first | exact Z0 | apply Z1))))); exact Z3 : Takes _ [own 1 encU reads_6a reads_6c (rdsF (wF (dAll x0 (es.take i)) e.2.2)), own 1 encU reads_15a reads_15c (rdsF (wF (deF (dAll x0 (es.take i)) e.1 e.2.1 e.2.2) e.2.2))] _) _ h)) ?_
      have sp_68 := same_spec (rdsF (wF (dAll x0 (es.take i)) e.2.2)) (rdsF (wF (deF (dAll x0 (es.take i)) e.1 e.2.1 e.2.2) e.2.2)) reads_6a reads_15a ((rdsF (wF (dAll x0 (es.take i)) e.2.2)).length) ((rdsF (wF (deF (dAll x0 (es.take i)) e.1 e.2.1 e.2.2) e.2.2)).length) reads_6c reads_15c (Bun [own 1 encU reads_6a reads_6c (rdsF (wF (dAll x0 (es.take i)) e.2.2)), own 1 encU reads_15a reads_15c (rdsF (wF (deF (dAll x0 (es.take i)) e.1 e.2.1 e.2.2) e.2.2))]) (by first | rfl | assumption | omega | (simp; done) | (simp; omega)) (rds_bun (List.mem_cons_self) (rds_own encU_len (fun h => (f_66b h).1) f_66c)) (by first | rfl | assumption | omega | (simp; done) | (simp; omega)) (rds_bun (List.mem_cons_of_mem _ (List.mem_cons_self)) (rds_own encU_len (fun h => (f_67b h).1) f_67c)) (by omega)
      refine l_call rfl rfl rfl rfl rfl rfl Try.call29 (sp_68) (by (repeat ((with_reducible apply Z2); focus (first | (with_reducible (repeat (first | exact Z0 | apply Z1)); done) | (repeat (first | exact Z0 | apply Z1))))); exact Z3) ?_
      rintro ⟨⟩ -
      try simp only [List.cons_append, List.nil_append]
      refine s_take (A := Bun [own 1 encU reads_6a reads_6c (rdsF (wF (dAll x0 (es.take i)) e.2.2)), own 1 encU reads_15a reads_15c (rdsF (wF (deF (dAll x0 (es.take i)) e.1 e.2.1 e.2.2) e.2.2))]) (by with_reducible (repeat (first | exact Z0 | apply Z1))) ?_
      refine s_bun ?_
      try simp only [List.cons_append, List.nil_append]
      try simp only [List.cons_append, List.nil_append]
      refine ag_nil ?_
      refine q_not rfl rfl rfl rfl ?_
      refine q_move rfl rfl rfl rfl ?_
      refine s_bool_np 225 rfl (fun hg => by exfalso; first | exact hg u1.symm | exact hg (by rw [show (deF (dAll x0 (es.take i)) e.1 e.2.1 e.2.2) = (dAll x0 (es.take i)) from if_neg hncan])) (fun hg => ?_)
      refine q_move rfl rfl rfl rfl ?_
      refine q_move rfl rfl rfl rfl ?_
      refine s_take (A := own 1 encU writes_8a writes_8c (wrsF (wF (dAll x0 (es.take i)) e.2.2))) (by with_reducible (repeat (first | exact Z0 | apply Z1))) ?_
      refine own_fc fun f_69a f_69b f_69c => ?_
      refine s_take (A := own 1 encU writes_17a writes_17c (wrsF (wF (deF (dAll x0 (es.take i)) e.1 e.2.1 e.2.2) e.2.2))) (by with_reducible (repeat (first | exact Z0 | apply Z1))) ?_
      refine own_fc fun f_70a f_70b f_70c => ?_
      refine s_heap (fun _ h => Bun.fold ((by (repeat ((with_reducible apply Z2); focus (first | (with_reducible (repeat (first | exact Z0 | apply Z1)); done) | (repeat (first | exact Z0 | apply Z1))))); exact Z3 : Takes _ [own 1 encU writes_8a writes_8c (wrsF (wF (dAll x0 (es.take i)) e.2.2)), own 1 encU writes_17a writes_17c (wrsF (wF (deF (dAll x0 (es.take i)) e.1 e.2.1 e.2.2) e.2.2))] _) _ h)) ?_
      have sp_71 := same_spec (wrsF (wF (dAll x0 (es.take i)) e.2.2)) (wrsF (wF (deF (dAll x0 (es.take i)) e.1 e.2.1 e.2.2) e.2.2)) writes_8a writes_17a ((wrsF (wF (dAll x0 (es.take i)) e.2.2)).length) ((wrsF (wF (deF (dAll x0 (es.take i)) e.1 e.2.1 e.2.2) e.2.2)).length) writes_8c writes_17c (Bun [own 1 encU writes_8a writes_8c (wrsF (wF (dAll x0 (es.take i)) e.2.2)), own 1 encU writes_17a writes_17c (wrsF (wF (deF (dAll x0 (es.take i)) e.1 e.2.1 e.2.2) e.2.2))]) (by first | rfl | assumption | omega | (simp; done) | (simp; omega)) (rds_bun (List.mem_cons_self) (rds_own encU_len (fun h => (f_69b h).1) f_69c)) (by first | rfl | assumption | omega | (simp; done) | (simp; omega)) (rds_bun (List.mem_cons_of_mem _ (List.mem_cons_self)) (rds_own encU_len (fun h => (f_70b h).1) f_70c)) (by omega)
      refine l_call rfl rfl rfl rfl rfl rfl Try.call29 (sp_71) (by (repeat ((with_reducible apply Z2); focus (first | (with_reducible (repeat (first | exact Z0 | apply Z1)); done) | (repeat (first | exact Z0 | apply Z1))))); exact Z3) ?_
      rintro ⟨⟩ -
      try simp only [List.cons_append, List.nil_append]
      refine s_take (A := Bun [own 1 encU writes_8a writes_8c (wrsF (wF (dAll x0 (es.take i)) e.2.2)), own 1 encU writes_17a writes_17c (wrsF (wF (deF (dAll x0 (es.take i)) e.1 e.2.1 e.2.2) e.2.2))]) (by with_reducible (repeat (first | exact Z0 | apply Z1))) ?_
      refine s_bun ?_
      try simp only [List.cons_append, List.nil_append]
      try simp only [List.cons_append, List.nil_append]
      refine ag_nil ?_
      refine q_not rfl rfl rfl rfl ?_
      refine q_pick_f rfl rfl rfl rfl rfl ?_
      refine q_move rfl rfl rfl rfl ?_
      refine s_bool_np 231 rfl (fun hg => by exfalso; first | exact hg u2.symm | exact hg (by rw [show (deF (dAll x0 (es.take i)) e.1 e.2.1 e.2.2) = (dAll x0 (es.take i)) from if_neg hncan])) (fun hg => ?_)
      refine q_move rfl rfl rfl rfl ?_
      refine q_move rfl rfl rfl rfl ?_
      have sp_73 := Dj.flags_spec dpa dpc dpo dpoc d (deF (dAll x0 (es.take i)) e.1 e.2.1 e.2.2) (de_inv (dAll_inv hi0 _) e.1 e.2.1 e.2.2)
      refine l_call rfl rfl rfl rfl rfl rfl Try.call18 (sp_73) (by (repeat ((with_reducible apply Z2); focus (first | (with_reducible (repeat (first | exact Z0 | apply Z1)); done) | (repeat (first | exact Z0 | apply Z1))))); exact Z3) ?_
      rintro ⟨fl_72a, fl_72c⟩ -
      try simp only [List.cons_append, List.nil_append]
      refine ag_nil ?_
      refine s_take (A := own 2 enc2 fl_10a fl_10c (flF (dAll x0 (es.take i)).vs)) (by with_reducible (repeat (first | exact Z0 | apply Z1))) ?_
      refine own_fc fun f_74a f_74b f_74c => ?_
      refine s_take (A := own 2 enc2 fl_72a fl_72c (flF (deF (dAll x0 (es.take i)) e.1 e.2.1 e.2.2).vs)) (by with_reducible (repeat (first | exact Z0 | apply Z1))) ?_
      refine own_fc fun f_75a f_75b f_75c => ?_
      refine s_heap (fun _ h => Bun.fold ((by (repeat ((with_reducible apply Z2); focus (first | (with_reducible (repeat (first | exact Z0 | apply Z1)); done) | (repeat (first | exact Z0 | apply Z1))))); exact Z3 : Takes _ [own 2 enc2 fl_10a fl_10c (flF (dAll x0 (es.take i)).vs), own 2 enc2 fl_72a fl_72c (flF (deF (dAll x0 (es.take i)) e.1 e.2.1 e.2.2).vs)] _) _ h)) ?_
      have sp_76 := flags_same (flF (dAll x0 (es.take i)).vs) (flF (deF (dAll x0 (es.take i)) e.1 e.2.1 e.2.2).vs) fl_10a fl_72a ((flF (dAll x0 (es.take i)).vs).length) ((flF (deF (dAll x0 (es.take i)) e.1 e.2.1 e.2.2).vs).length) fl_10c fl_72c (Bun [own 2 enc2 fl_10a fl_10c (flF (dAll x0 (es.take i)).vs), own 2 enc2 fl_72a fl_72c (flF (deF (dAll x0 (es.take i)) e.1 e.2.1 e.2.2).vs)]) (by first | rfl | assumption | omega | (simp; done) | (simp; omega)) (rds_bun (List.mem_cons_self) (rds_own enc2_len (fun h => (f_74b h).1) f_74c)) (by first | rfl | assumption | omega | (simp; done) | (simp; omega)) (rds_bun (List.mem_cons_of_mem _ (List.mem_cons_self)) (rds_own enc2_len (fun h => (f_75b h).1) f_75c)) (by omega)
      refine l_call rfl rfl rfl rfl rfl rfl Try.call17 (sp_76) (by (repeat ((with_reducible apply Z2); focus (first | (with_reducible (repeat (first | exact Z0 | apply Z1)); done) | (repeat (first | exact Z0 | apply Z1))))); exact Z3) ?_
      rintro ⟨⟩ -
      try simp only [List.cons_append, List.nil_append]
      refine s_take (A := Bun [own 2 enc2 fl_10a fl_10c (flF (dAll x0 (es.take i)).vs), own 2 enc2 fl_72a fl_72c (flF (deF (dAll x0 (es.take i)) e.1 e.2.1 e.2.2).vs)]) (by with_reducible (repeat (first | exact Z0 | apply Z1))) ?_
      refine s_bun ?_
      try simp only [List.cons_append, List.nil_append]
      try simp only [List.cons_append, List.nil_append]
      refine ag_nil ?_
      refine q_not rfl rfl rfl rfl ?_
      refine q_pick_f rfl rfl rfl rfl rfl ?_
      refine q_move rfl rfl rfl rfl ?_
      refine s_bool_np 238 rfl (fun hg => by exfalso; first | exact hg u3.symm | exact hg (by rw [show (deF (dAll x0 (es.take i)) e.1 e.2.1 e.2.2) = (dAll x0 (es.take i)) from if_neg hncan])) (fun hg => ?_)
      refine q_move rfl rfl rfl rfl ?_
      refine q_not rfl rfl rfl rfl ?_
      refine q_move rfl rfl rfl rfl ?_
      refine s_bool_np 241 rfl (fun hg => ?_) (fun hg => by exfalso; first | exact hc hg | exact hc (Classical.byContradiction hg))
      refine q_move rfl rfl rfl rfl ?_
      refine q_move rfl rfl rfl rfl ?_
      refine q_field (k := 1) rfl rfl rfl rfl Try.underlying40 rfl Try.sizeOf3 rfl ?_
      refine q_load_c (j := 1) rfl rfl rfl rfl Try.isAgg3 (by with_reducible (repeat (first | exact Z0 | apply Z1))) (by first | rfl | exact (Nat.add_zero _).symm) (by rfl) ?_
      have sp_78 := Dj.vector_spec dpa dpc dpo dpoc d (deF (dAll x0 (es.take i)) e.1 e.2.1 e.2.2) (de_inv (dAll_inv hi0 _) e.1 e.2.1 e.2.2) e.2.1
      refine l_call rfl rfl rfl rfl rfl rfl Try.call11 (sp_78) (by (repeat ((with_reducible apply Z2); focus (first | (with_reducible (repeat (first | exact Z0 | apply Z1)); done) | (repeat (first | exact Z0 | apply Z1))))); exact Z3) ?_
      rintro ⟨ve_77a, ve_77c⟩ -
      try simp only [List.cons_append, List.nil_append]
      refine ag_nil ?_
      refine s_take (A := own 1 encU ve_4a ve_4c (thF (dAll x0 (es.take i)).v e.2.1)) (by with_reducible (repeat (first | exact Z0 | apply Z1))) ?_
      refine own_fc fun f_79a f_79b f_79c => ?_
      refine s_take (A := own 1 encU ve_77a ve_77c (thF (deF (dAll x0 (es.take i)) e.1 e.2.1 e.2.2).v e.2.1)) (by with_reducible (repeat (first | exact Z0 | apply Z1))) ?_
      refine own_fc fun f_80a f_80b f_80c => ?_
      refine s_heap (fun _ h => Bun.fold ((by (repeat ((with_reducible apply Z2); focus (first | (with_reducible (repeat (first | exact Z0 | apply Z1)); done) | (repeat (first | exact Z0 | apply Z1))))); exact Z3 : Takes _ [own 1 encU ve_4a ve_4c (thF (dAll x0 (es.take i)).v e.2.1), own 1 encU ve_77a ve_77c (thF (deF (dAll x0 (es.take i)) e.1 e.2.1 e.2.2).v e.2.1)] _) _ h)) ?_
      have sp_81 := same_spec (thF (dAll x0 (es.take i)).v e.2.1) (thF (deF (dAll x0 (es.take i)) e.1 e.2.1 e.2.2).v e.2.1) ve_4a ve_77a ((thF (dAll x0 (es.take i)).v e.2.1).length) ((thF (deF (dAll x0 (es.take i)) e.1 e.2.1 e.2.2).v e.2.1).length) ve_4c ve_77c (Bun [own 1 encU ve_4a ve_4c (thF (dAll x0 (es.take i)).v e.2.1), own 1 encU ve_77a ve_77c (thF (deF (dAll x0 (es.take i)) e.1 e.2.1 e.2.2).v e.2.1)]) (by first | rfl | assumption | omega | (simp; done) | (simp; omega)) (rds_bun (List.mem_cons_self) (rds_own encU_len (fun h => (f_79b h).1) f_79c)) (by first | rfl | assumption | omega | (simp; done) | (simp; omega)) (rds_bun (List.mem_cons_of_mem _ (List.mem_cons_self)) (rds_own encU_len (fun h => (f_80b h).1) f_80c)) (by omega)
      refine l_call rfl rfl rfl rfl rfl rfl Try.call29 (sp_81) (by (repeat ((with_reducible apply Z2); focus (first | (with_reducible (repeat (first | exact Z0 | apply Z1)); done) | (repeat (first | exact Z0 | apply Z1))))); exact Z3) ?_
      rintro ⟨⟩ -
      try simp only [List.cons_append, List.nil_append]
      refine s_take (A := Bun [own 1 encU ve_4a ve_4c (thF (dAll x0 (es.take i)).v e.2.1), own 1 encU ve_77a ve_77c (thF (deF (dAll x0 (es.take i)) e.1 e.2.1 e.2.2).v e.2.1)]) (by with_reducible (repeat (first | exact Z0 | apply Z1))) ?_
      refine s_bun ?_
      try simp only [List.cons_append, List.nil_append]
      try simp only [List.cons_append, List.nil_append]
      refine ag_nil ?_
      refine q_not rfl rfl rfl rfl ?_
      refine q_pick_t rfl rfl rfl rfl rfl ?_
      refine q_pick_f rfl rfl rfl rfl rfl ?_
      refine r_done ?_
      refine s_keep [1, 2, 5, 7, 9, 10, 118, 119, 120, 121, 124, 125, 126, 127, 130, 131, 132, 133, 134, 135, 136, 139, 140, 141, 142, 143, 146, 147, 148, 149, 150, 153, 154, 155, 156, 157, 158, 163, 164, 165, 187, 188, 189, 212, 213, 214, 215, 216, 217, 218, 219, 226, 227, 228, 229, 232, 233, 234, 235, 236, 239, 240, 241, 242, 243, 244, 245, 246, 247, 248, 249, 250] (e' := [(1, _), (2, _), (5, _), (7, _), (9, _), (10, _), (118, _), (119, _), (120, _), (121, _), (124, _), (125, _), (126, _), (127, _), (130, _), (131, _), (132, _), (133, _), (134, _), (135, _), (136, _), (139, _), (140, _), (141, _), (142, _), (143, _), (146, _), (147, _), (148, _), (149, _), (150, _), (153, _), (154, _), (155, _), (156, _), (157, _), (158, _), (163, _), (164, _), (165, _), (187, _), (188, _), (189, _), (212, _), (213, _), (214, _), (215, _), (216, _), (217, _), (218, _), (219, _), (226, _), (227, _), (228, _), (229, _), (232, _), (233, _), (234, _), (235, _), (236, _), (239, _), (240, _), (241, _), (242, _), (243, _), (244, _), (245, _), (246, _), (247, _), (248, _), (249, _), (250, _)]) rfl ?_
      refine k_then_n ?_
      refine c_cond_np rfl (fun hg => by exfalso; exact hg (by rw [show (deF (dAll x0 (es.take i)) e.1 e.2.1 e.2.2) = (dAll x0 (es.take i)) from if_neg hncan])) (fun hg => ?_)
      refine c_skip ?_
      refine k_blk_n ?_
      refine k_then_n ?_
      refine c_seq ?_
      have hck2 : (deF (dAll x0 (es.take i)) e.1 e.2.1 e.2.2).v.ck = nxF (dAll x0 (es.take i)).v.ck e.1 e.2.1 e.2.2 := by
        by_cases hc9 : canE (dAll x0 (es.take i)) e
        · rw [de_v hc9, vn_ck]
        · rw [show (deF (dAll x0 (es.take i)) e.1 e.2.1 e.2.2) = (dAll x0 (es.take i)) from if_neg hc9, show nxF (dAll x0 (es.take i)).v.ck e.1 e.2.1 e.2.2 = (dAll x0 (es.take i)).v.ck from if_neg (fun h => hc9 (hiff.2 h))]
      refine c_plain (.q 0 ((.l 1 [] (.q 2 (.q 3 (.q 4 (.q 5 ((.l 6 [] (.q 7 ((.l 8 [] (.q 9 (.q 10 (.done))))))))))))))) (by kernel_rfl) ?_
      refine q_move rfl rfl rfl rfl ?_
      have sp_82 := Dj.cost_spec dpa dpc dpo dpoc d (deF (dAll x0 (es.take i)) e.1 e.2.1 e.2.2) (de_inv (dAll_inv hi0 _) e.1 e.2.1 e.2.2)
      refine l_call rfl rfl rfl rfl rfl rfl Try.call30 (sp_82) (by (repeat ((with_reducible apply Z2); focus (first | (with_reducible (repeat (first | exact Z0 | apply Z1)); done) | (repeat (first | exact Z0 | apply Z1))))); exact Z3) ?_
      rintro ⟨⟩ -
      try simp only [List.cons_append, List.nil_append]
      refine ag_nil ?_
      refine q_move rfl rfl rfl rfl ?_
      refine q_int rfl rfl rfl rfl rfl (b_neq _ _ _ _) ?_
      refine q_move rfl rfl rfl rfl ?_
      refine s_bool_p 255 rfl (fun hg => by exfalso; first | omega | (rw [show (deF (dAll x0 (es.take i)) e.1 e.2.1 e.2.2) = (dAll x0 (es.take i)) from if_neg hncan] at hg; exact hg rfl)) (fun hg => ?_)
      refine q_move rfl rfl rfl rfl ?_
      have sp_83 := Dj.len_spec dpa dpc dpo dpoc d (deF (dAll x0 (es.take i)) e.1 e.2.1 e.2.2) (de_inv (dAll_inv hi0 _) e.1 e.2.1 e.2.2)
      refine l_call rfl rfl rfl rfl rfl rfl Try.call21 (sp_83) (by (repeat ((with_reducible apply Z2); focus (first | (with_reducible (repeat (first | exact Z0 | apply Z1)); done) | (repeat (first | exact Z0 | apply Z1))))); exact Z3) ?_
      rintro ⟨⟩ -
      try simp only [List.cons_append, List.nil_append]
      refine ag_nil ?_
      refine q_move rfl rfl rfl rfl ?_
      have sp_84 := Fe.rlen_spec kp kc k (nxF (dAll x0 (es.take i)).v.ck e.1 e.2.1 e.2.2)
      refine l_call rfl rfl rfl rfl rfl rfl Try.call31 (sp_84) (by (repeat ((with_reducible apply Z2); focus (first | (with_reducible (repeat (first | exact Z0 | apply Z1)); done) | (repeat (first | exact Z0 | apply Z1))))); exact Z3) ?_
      rintro ⟨⟩ -
      try simp only [List.cons_append, List.nil_append]
      refine ag_nil ?_
      refine q_int rfl rfl rfl rfl rfl (b_neq _ _ _ _) ?_
      refine q_pick_f rfl rfl rfl rfl rfl ?_
      refine r_done ?_
      refine s_keep [1, 2, 5, 7, 9, 10, 118, 119, 120, 121, 124, 125, 126, 127, 130, 131, 132, 133, 134, 135, 136, 139, 140, 141, 142, 143, 146, 147, 148, 149, 150, 153, 154, 155, 156, 157, 158, 163, 164, 165, 187, 188, 189, 212, 213, 214, 215, 216, 217, 218, 219, 226, 227, 228, 229, 232, 233, 234, 235, 236, 239, 240, 241, 242, 243, 244, 245, 246, 247, 248, 249, 256, 257, 258, 259, 260, 261] (e' := [(1, _), (2, _), (5, _), (7, _), (9, _), (10, _), (118, _), (119, _), (120, _), (121, _), (124, _), (125, _), (126, _), (127, _), (130, _), (131, _), (132, _), (133, _), (134, _), (135, _), (136, _), (139, _), (140, _), (141, _), (142, _), (143, _), (146, _), (147, _), (148, _), (149, _), (150, _), (153, _), (154, _), (155, _), (156, _), (157, _), (158, _), (163, _), (164, _), (165, _), (187, _), (188, _), (189, _), (212, _), (213, _), (214, _), (215, _), (216, _), (217, _), (218, _), (219, _), (226, _), (227, _), (228, _), (229, _), (232, _), (233, _), (234, _), (235, _), (236, _), (239, _), (240, _), (241, _), (242, _), (243, _), (244, _), (245, _), (246, _), (247, _), (248, _), (249, _), (256, _), (257, _), (258, _), (259, _), (260, _), (261, _)]) rfl ?_
      refine k_then_n ?_
      refine c_cond_p rfl (fun hg => by exfalso; exact hg (by rw [hck2])) (fun hg => ?_)
      refine c_skip ?_
      refine k_blk_n ?_
      refine k_then_n ?_
      refine c_plain (.q 0 (.q 1 (.q 2 (.done)))) (by kernel_rfl) ?_
      refine q_move rfl rfl rfl rfl ?_
      refine q_int rfl rfl rfl rfl rfl (b_add' _ (by exact fits_i64 (by omega) (by omega))) ?_
      refine q_assign rfl rfl rfl rfl ?_
      refine r_done ?_
      refine k_then_n ?_
      refine s_eq 9 rfl (v' := .int .i64 (deF (dAll x0 (es.take i)) e.1 e.2.1 e.2.2).cost) (by first | (congr 1; omega) | (congr 1; rw [show (deF (dAll x0 (es.take i)) e.1 e.2.1 e.2.2) = (dAll x0 (es.take i)) from if_neg hncan])) ?_
      rw [← hck2, show (deF (dAll x0 (es.take i)) e.1 e.2.1 e.2.2) = dAll x0 (es.take (i + 1)) from (dAll_next he).symm]
      refine s_eq 9 rfl (v' := .int .i64 ((dAll x0 (es.take (i + 1))).cost)) (by first | rfl | (congr 1; done) | (congr 1 <;> first | rfl | omega | (simp; done) | (simp; omega))) ?_
      refine loop_next (x := i) (i + 1) ?_ ?_ ?_ ?_
      · show i + 1 ≤ m; omega
      · show m - (i + 1) < m - i; omega
      · exact ⟨rfl, rfl, rfl, rfl, rfl, rfl, trivial⟩
      · (try simp only [List.cons_append, List.nil_append]); (repeat ((with_reducible apply Z2); focus (first | (with_reducible (repeat (first | exact Z0 | apply Z1)); done) | (repeat (first | exact Z0 | apply Z1))))); (repeat (first | exact Z3 | exact Takes.self | refine takes_drop2 ?_))
    ·
     refine c_exit ?_
     refine k_then_exit ?_
     refine k_then_exit ?_
     refine k_blk_here ?_
     refine k_then_n ?_
     refine c_seq ?_
     refine c_plain (.q 0 (.done)) (by kernel_rfl) ?_
     refine q_assign rfl rfl rfl rfl ?_
     refine r_done ?_
     refine s_keep [4] (e' := [(4, _)]) rfl ?_
     refine k_then_n ?_
     refine c_ret ?_
     refine ret1 rfl rfl (()) (by first | rfl | (first | rfl | (congr 1; done) | (congr 1 <;> first | rfl | omega | (simp; done) | (simp; omega)))) (by trivial) ?_
     (repeat ((with_reducible apply Z2); focus (first | (with_reducible (repeat (first | exact Z0 | apply Z1)); done) | (repeat (first | exact Z0 | apply Z1))))); (repeat (first | exact Z3 | exact Takes.self | refine takes_drop2 ?_))

theorem grows_bad (th va vo lk : Int) (pl : List Int) (ao : Option Addr) (n c : Nat) (A : HProp) (hr : RdS A ao (pl.flatMap encZ)) (hn : pl.length = n) (hb : n ≤ 4000000) (hok : ¬ OkS th va vo lk pl) (es : List T3) (eo : Option Addr) (m ec : Nat) (he_ : RdS A eo (es.flatMap enc3)) (hem : es.length = m) (hmb : m ≤ 4000000) : Spec Try.prog 7 [.agg #[.int .i64 th, .int .i64 va, .int .i64 vo, .int .i64 lk, .slice ao n c], .slice eo m ec] [A] (fun (_ : Unit) => .bool true) (fun _ => True) (fun _ => [A]) := by
 refine spec_mk (n := 262) Try.func7 rfl rfl rfl ?_
 intro Γ w0
 simp only [argE, List.cons_append, List.nil_append, Nat.zero_add, Nat.reduceAdd]
 refine c_seq ?_
 refine c_plain ((.l 0 [] (.q 1 (.done)))) (by kernel_rfl) ?_
 refine l_box rfl rfl rfl rfl (us := [_, _, _, _, _]) rfl ?_
 intro b2
 refine ag_nil ?_
 refine q_assign rfl rfl rfl rfl ?_
 refine r_done ?_
 refine k_then_n ?_
 refine c_seq ?_
 refine c_seq ?_
 refine c_plain ((.l 0 [] (.q 1 (.q 2 (.q 3 (.q 4 (.q 5 (.q 6 (.q 7 (.q 8 (.q 9 (.q 10 (.q 11 (.q 12 (.q 13 (.q 14 (.q 15 (.q 16 (.done))))))))))))))))))) (by kernel_rfl) ?_
 refine l_call rfl rfl rfl rfl rfl rfl Try.call8 (works_spec) (by (repeat ((with_reducible apply Z2); focus (first | (with_reducible (repeat (first | exact Z0 | apply Z1)); done) | (repeat (first | exact Z0 | apply Z1))))); exact Z3) ?_
 rintro ⟨⟩ -
 try simp only [List.cons_append, List.nil_append]
 refine ag_nil ?_
 refine q_not rfl rfl rfl rfl ?_
 refine s_eq 24 rfl (v' := .bool false) rfl ?_
 refine q_move rfl rfl rfl rfl ?_
 refine q_move rfl rfl rfl rfl ?_
 refine q_len rfl rfl rfl rfl Try.underlying25 ?_
 refine q_int rfl rfl rfl rfl rfl (b_gtr _ _ _ _) ?_
 refine q_pick_f rfl rfl rfl rfl rfl ?_
 refine q_move rfl rfl rfl rfl ?_
 refine s_bool_p 30 rfl (fun hb1 => ?_) (fun hb1 => ?_)
 ·
  refine q_skip rfl rfl rfl rfl ?_
  refine q_skip rfl rfl rfl rfl ?_
  refine q_skip rfl rfl rfl rfl ?_
  refine q_pick_t rfl rfl rfl rfl rfl ?_
  refine q_move rfl rfl rfl rfl ?_
  refine q_skip rfl rfl rfl rfl ?_
  refine q_skip rfl rfl rfl rfl ?_
  refine q_skip rfl rfl rfl rfl ?_
  refine q_pick_t rfl rfl rfl rfl rfl ?_
  refine r_done ?_
  refine s_keep [1, 2, 39] (e' := [(1, _), (2, _), (39, _)]) rfl ?_
  refine k_then_n ?_
  refine c_cond_t rfl ?_
  refine c_seq ?_
  refine c_plain ((.l 0 [] (.q 1 (.done)))) (by kernel_rfl) ?_
  refine l_call rfl rfl rfl rfl rfl rfl Try.call8 (works_spec) (by (repeat ((with_reducible apply Z2); focus (first | (with_reducible (repeat (first | exact Z0 | apply Z1)); done) | (repeat (first | exact Z0 | apply Z1))))); exact Z3) ?_
  rintro ⟨⟩ -
  try simp only [List.cons_append, List.nil_append]
  refine ag_nil ?_
  refine q_assign rfl rfl rfl rfl ?_
  refine r_done ?_
  refine s_keep [4] (e' := [(4, _)]) rfl ?_
  refine k_then_n ?_
  refine c_ret ?_
  refine k_then_ret ?_
  refine ret1 rfl rfl (()) (by first | rfl | (first | rfl | (congr 1; done) | (congr 1 <;> first | rfl | omega | (simp; done) | (simp; omega)))) (by trivial) ?_
  (repeat ((with_reducible apply Z2); focus (first | (with_reducible (repeat (first | exact Z0 | apply Z1)); done) | (repeat (first | exact Z0 | apply Z1))))); (repeat (first | exact Z3 | exact Takes.self | refine takes_drop2 ?_))
 ·
  refine q_field (k := 0) rfl rfl rfl rfl Try.underlying24 rfl Try.sizeOf3 rfl ?_
  refine q_load_c (j := 0) rfl rfl rfl rfl Try.isAgg3 (by with_reducible (repeat (first | exact Z0 | apply Z1))) (by first | rfl | exact (Nat.add_zero _).symm) (by rfl) ?_
  refine q_int rfl rfl rfl rfl rfl (b_gtr _ _ _ _) ?_
  refine q_pick_f rfl rfl rfl rfl rfl ?_
  refine q_move rfl rfl rfl rfl ?_
  refine s_bool_p 35 rfl (fun hb2 => ?_) (fun hb2 => ?_)
  ·
   refine q_skip rfl rfl rfl rfl ?_
   refine q_skip rfl rfl rfl rfl ?_
   refine q_skip rfl rfl rfl rfl ?_
   refine q_pick_t rfl rfl rfl rfl rfl ?_
   refine r_done ?_
   refine s_keep [1, 2, 39] (e' := [(1, _), (2, _), (39, _)]) rfl ?_
   refine k_then_n ?_
   refine c_cond_t rfl ?_
   refine c_seq ?_
   refine c_plain ((.l 0 [] (.q 1 (.done)))) (by kernel_rfl) ?_
   refine l_call rfl rfl rfl rfl rfl rfl Try.call8 (works_spec) (by (repeat ((with_reducible apply Z2); focus (first | (with_reducible (repeat (first | exact Z0 | apply Z1)); done) | (repeat (first | exact Z0 | apply Z1))))); exact Z3) ?_
   rintro ⟨⟩ -
   try simp only [List.cons_append, List.nil_append]
   refine ag_nil ?_
   refine q_assign rfl rfl rfl rfl ?_
   refine r_done ?_
   refine s_keep [4] (e' := [(4, _)]) rfl ?_
   refine k_then_n ?_
   refine c_ret ?_
   refine k_then_ret ?_
   refine ret1 rfl rfl (()) (by first | rfl | (first | rfl | (congr 1; done) | (congr 1 <;> first | rfl | omega | (simp; done) | (simp; omega)))) (by trivial) ?_
   (repeat ((with_reducible apply Z2); focus (first | (with_reducible (repeat (first | exact Z0 | apply Z1)); done) | (repeat (first | exact Z0 | apply Z1))))); (repeat (first | exact Z3 | exact Takes.self | refine takes_drop2 ?_))
  ·
   refine q_field (k := 1) rfl rfl rfl rfl Try.underlying24 rfl Try.sizeOf3 rfl ?_
   refine q_load_c (j := 1) rfl rfl rfl rfl Try.isAgg3 (by with_reducible (repeat (first | exact Z0 | apply Z1))) (by first | rfl | exact (Nat.add_zero _).symm) (by rfl) ?_
   refine q_int rfl rfl rfl rfl rfl (b_gtr _ _ _ _) ?_
   refine q_pick_f rfl rfl rfl rfl rfl ?_
   refine r_done ?_
   refine s_keep [1, 2, 39] (e' := [(1, _), (2, _), (39, _)]) rfl ?_
   refine k_then_n ?_
   refine c_cond_p rfl (fun hb3 => ?_) (fun hb3 => ?_)
   ·
    refine c_seq ?_
    refine c_plain ((.l 0 [] (.q 1 (.done)))) (by kernel_rfl) ?_
    refine l_call rfl rfl rfl rfl rfl rfl Try.call8 (works_spec) (by (repeat ((with_reducible apply Z2); focus (first | (with_reducible (repeat (first | exact Z0 | apply Z1)); done) | (repeat (first | exact Z0 | apply Z1))))); exact Z3) ?_
    rintro ⟨⟩ -
    try simp only [List.cons_append, List.nil_append]
    refine ag_nil ?_
    refine q_assign rfl rfl rfl rfl ?_
    refine r_done ?_
    refine s_keep [4] (e' := [(4, _)]) rfl ?_
    refine k_then_n ?_
    refine c_ret ?_
    refine k_then_ret ?_
    refine ret1 rfl rfl (()) (by first | rfl | (first | rfl | (congr 1; done) | (congr 1 <;> first | rfl | omega | (simp; done) | (simp; omega)))) (by trivial) ?_
    (repeat ((with_reducible apply Z2); focus (first | (with_reducible (repeat (first | exact Z0 | apply Z1)); done) | (repeat (first | exact Z0 | apply Z1))))); (repeat (first | exact Z3 | exact Takes.self | refine takes_drop2 ?_))
   ·
    refine c_skip ?_
    refine k_then_n ?_
    refine c_seq ?_
    refine c_plain (.q 0 ((.l 1 [] (.q 2 (.q 3 (.q 4 (.q 5 (.q 6 (.done))))))))) (by kernel_rfl) ?_
    refine q_loadN_c rfl rfl rfl rfl Try.isAgg24 Try.sizeOf24 (by with_reducible (repeat (first | exact Z0 | apply Z1))) 0 (us := [_, _, _, _, _]) (by first | rfl | exact (Nat.add_zero _).symm) rfl rfl ?_
    have sp_1 := Dj.newbad_spec th va vo lk pl ao n c A (hr) (by first | rfl | assumption | omega | (simp; done) | (simp; omega)) (by omega) hok
    refine l_call rfl rfl rfl rfl rfl rfl Try.call15 (sp_1) (by (repeat ((with_reducible apply Z2); focus (first | (with_reducible (repeat (first | exact Z0 | apply Z1)); done) | (repeat (first | exact Z0 | apply Z1))))); exact Z3) ?_
    rintro ⟨⟩ -
    try simp only [List.cons_append, List.nil_append]
    refine ag_nil ?_
    refine q_move rfl rfl rfl rfl ?_
    refine q_extract rfl rfl rfl rfl rfl ?_
    refine q_extract rfl rfl rfl rfl rfl ?_
    refine q_assign rfl rfl rfl rfl ?_
    refine q_assign rfl rfl rfl rfl ?_
    refine r_done ?_
    refine s_keep [1, 2, 5, 6] (e' := [(1, _), (2, _), (5, _), (6, _)]) rfl ?_
    refine k_then_n ?_
    refine c_seq ?_
    refine c_plain (.q 0 ((.l 1 [] (.q 2 (.q 3 (.q 4 (.q 5 (.q 6 (.done))))))))) (by kernel_rfl) ?_
    refine q_loadN_c rfl rfl rfl rfl Try.isAgg24 Try.sizeOf24 (by with_reducible (repeat (first | exact Z0 | apply Z1))) 0 (us := [_, _, _, _, _]) (by first | rfl | exact (Nat.add_zero _).symm) rfl rfl ?_
    have sp_2 := Fe.rnewbad_spec th va vo lk pl ao n c A hr hn hb hok
    refine l_call rfl rfl rfl rfl rfl rfl Try.call24 (sp_2) (by (repeat ((with_reducible apply Z2); focus (first | (with_reducible (repeat (first | exact Z0 | apply Z1)); done) | (repeat (first | exact Z0 | apply Z1))))); exact Z3) ?_
    rintro ⟨⟩ -
    try simp only [List.cons_append, List.nil_append]
    refine ag_nil ?_
    refine q_move rfl rfl rfl rfl ?_
    refine q_extract rfl rfl rfl rfl rfl ?_
    refine q_extract rfl rfl rfl rfl rfl ?_
    refine q_assign rfl rfl rfl rfl ?_
    refine q_assign rfl rfl rfl rfl ?_
    refine r_done ?_
    refine s_keep [1, 2, 5, 6, 7, 8] (e' := [(1, _), (2, _), (5, _), (6, _), (7, _), (8, _)]) rfl ?_
    refine k_then_n ?_
    refine c_seq ?_
    refine c_seq ?_
    refine c_plain (.q 0 ((.l 1 [] (.q 2 (.q 3 (.done)))))) (by kernel_rfl) ?_
    refine q_move rfl rfl rfl rfl ?_
    have sp_3 := num_spec 5
    refine l_call rfl rfl rfl rfl rfl rfl Try.call16 (sp_3) (by (repeat ((with_reducible apply Z2); focus (first | (with_reducible (repeat (first | exact Z0 | apply Z1)); done) | (repeat (first | exact Z0 | apply Z1))))); exact Z3) ?_
    rintro ⟨⟩ -
    try simp only [List.cons_append, List.nil_append]
    refine ag_nil ?_
    refine q_move rfl rfl rfl rfl ?_
    refine q_int rfl rfl rfl rfl rfl (b_neq _ _ _ _) ?_
    refine s_eq 54 rfl (v' := .bool false) (by first | rfl | simp) ?_
    refine r_done ?_
    refine s_keep [1, 2, 5, 7, 8, 54] (e' := [(1, _), (2, _), (5, _), (7, _), (8, _), (54, _)]) rfl ?_
    refine k_then_n ?_
    refine c_cond_f rfl ?_
    refine c_skip ?_
    refine k_then_n ?_
    refine c_seq ?_
    refine c_seq ?_
    refine c_plain (.q 0 (.q 1 (.done))) (by kernel_rfl) ?_
    refine q_move rfl rfl rfl rfl ?_
    refine q_int rfl rfl rfl rfl rfl (b_neq _ _ _ _) ?_
    refine s_eq 56 rfl (v' := .bool true) (by first | rfl | simp) ?_
    refine r_done ?_
    refine k_then_n ?_
    refine c_cond_t rfl ?_
    refine c_seq ?_
    refine c_plain (.q 0 (.q 1 (.q 2 (.done)))) (by kernel_rfl) ?_
    refine q_move rfl rfl rfl rfl ?_
    refine q_eq_nil rfl rfl rfl rfl Try.underlying30 ?_
    refine s_eq 58 rfl (v' := .bool true) rfl ?_
    refine q_assign rfl rfl rfl rfl ?_
    refine r_done ?_
    refine s_keep [4] (e' := [(4, _)]) rfl ?_
    refine k_then_n ?_
    refine c_ret ?_
    refine k_then_ret ?_
    refine ret1 rfl rfl (()) (by first | rfl | (first | rfl | (congr 1; done) | (congr 1 <;> first | rfl | omega | (simp; done) | (simp; omega)))) (by trivial) ?_
    (repeat ((with_reducible apply Z2); focus (first | (with_reducible (repeat (first | exact Z0 | apply Z1)); done) | (repeat (first | exact Z0 | apply Z1))))); (repeat (first | exact Z3 | exact Takes.self | refine takes_drop2 ?_))

theorem grows_spec (th va vo lk : Int) (pl : List Int) (ao : Option Addr) (n c : Nat) (A : HProp) (hr : RdS A ao (pl.flatMap encZ)) (hn : pl.length = n) (hb : n ≤ 4000000) (es : List T3) (eo : Option Addr) (m ec : Nat) (he_ : RdS A eo (es.flatMap enc3)) (hem : es.length = m) (hmb : m ≤ 4000000) : Spec Try.prog 7 [.agg #[.int .i64 th, .int .i64 va, .int .i64 vo, .int .i64 lk, .slice ao n c], .slice eo m ec] [A] (fun (_ : Unit) => .bool true) (fun _ => True) (fun _ => [A]) := by
  by_cases hok : OkS th va vo lk pl
  · exact grows_ok th va vo lk pl ao n c A hr hn hb hok es eo m ec he_ hem hmb
  · exact grows_bad th va vo lk pl ao n c A hr hn hb hok es eo m ec he_ hem hmb
end Go.Ab.Dj
