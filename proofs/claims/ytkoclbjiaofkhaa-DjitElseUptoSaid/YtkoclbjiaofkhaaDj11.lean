/- A detector by full vectors: the law Else. -/
import Derived.Test.YtkoclbjiaofkhaaDj10
set_option linter.unusedVariables false
set_option linter.unusedSimpArgs false
set_option maxRecDepth 100000
namespace Go.Ab.Dj
open Go Go.Proofs Go.Ab Go.Ab.Fe Go.Ab.Vc
def cN (c : CS) (n : Int) : CS := ⟨c.th, c.va, c.vo, c.lk, c.pa, c.T, c.O, c.B, n⟩
def vN (a : VS) (n : Int) : VS := ⟨cN a.ck n, a.th, a.lk, a.vo, a.rd⟩
theorem cN_can {c : CS} {n k t o : Int} : canF (cN c n) k t o ↔ canF c k t o := Iff.rfl
theorem vN_can {a : VS} {n k t o : Int} : vcanF (vN a n) k t o ↔ vcanF a k t o := Iff.rfl
theorem cN_nx {c : CS} {n k t o : Int} (h : canF c k t o) : nxF (cN c n) k t o = cN (nxF c k t o) (n + 1) := by
  obtain ⟨n5, n6, n7, n9, n10, n11, nn⟩ := nxF_k h
  obtain ⟨m5, m6, m7, m9, m10, m11, mm⟩ := nxF_k (x := cN c n) (k := k) (t := t) (o := o) h
  by_cases k5 : k = 5
  · rw [n5 k5, m5 k5]; rfl
  by_cases k6 : k = 6
  · rw [n6 k6, m6 k6]; rfl
  by_cases k7 : k = 7
  · rw [n7 k7, m7 k7]; rfl
  by_cases k9 : k = 9
  · rw [n9 k9, m9 k9]; rfl
  by_cases k10 : k = 10
  · rw [n10 k10, m10 k10]; rfl
  by_cases k11 : k = 11
  · rw [n11 k11, m11 k11]; rfl
  rw [nn k5 k6 k7 k9 k10 k11, mm k5 k6 k7 k9 k10 k11]; rfl
theorem vN_nx {a : VS} {n k t o : Int} (h : canF a.ck k t o) : vnF (vN a n) k t o = vN (vnF a k t o) (n + 1) := by
  have hn := cN_nx (n := n) h
  unfold vnF
  rw [show (vN a n).ck = cN a.ck n from rfl, hn]
  by_cases k5 : k = 5
  · rw [if_pos k5, if_pos k5]; rfl
  rw [if_neg k5, if_neg k5]
  by_cases k3 : k = 3
  · rw [if_pos k3, if_pos k3]; rfl
  rw [if_neg k3, if_neg k3]
  by_cases k8 : k = 8
  · rw [if_pos k8, if_pos k8]; rfl
  rw [if_neg k8, if_neg k8]
  by_cases k10 : k = 10
  · rw [if_pos k10, if_pos k10]; rfl
  rw [if_neg k10, if_neg k10]
  by_cases k6 : k = 6
  · rw [if_pos k6, if_pos k6]; rfl
  rw [if_neg k6, if_neg k6]
  by_cases k4 : k = 4
  · rw [if_pos k4, if_pos k4]; rfl
  rw [if_neg k4, if_neg k4]
  by_cases k9 : k = 9
  · rw [if_pos k9, if_pos k9]; rfl
  rw [if_neg k9, if_neg k9]
  by_cases k7 : k = 7
  · rw [if_pos k7, if_pos k7]; rfl
  rw [if_neg k7, if_neg k7]; rfl
theorem vn_acc {a : VS} {k t o : Int} (h : canF a.ck k t o) (hk : k = 1 ∨ k = 2) : vnF a k t o = vN a (a.ck.n + 1) := by
  rw [vn0 (by omega) (by omega) (by omega) (by omega) (by omega) (by omega) (by omega) (by omega)]
  obtain ⟨-, -, -, -, -, -, nn⟩ := nxF_k h
  rw [nn (by omega) (by omega) (by omega) (by omega) (by omega) (by omega)]; rfl
/-- How what is kept of a variable stands in both. -/
def RW : Option V4 → Option V4 → List Int → Prop
  | none, none, _ => True
  | some w, some w', A => w'.1 = w.1 ∧ w'.2.1 = w.2.1 ∧ w'.2.2.2 = w.2.2.2 ∧ (w.2.2.2 = true → ∃ j : Nat, w'.2.2.1 = j ∧ A[j]? = some w.2.2.1)
  | _, _, _ => False
structure Rel (x y : DS) (A : List Int) (v : Int) : Prop where
  st : y.v = vN x.v A.length
  len : x.vs.length = y.vs.length
  w : RW (wF x v) (wF y v) A
theorem wF_acc {x : DS} {k t o : Int} {l : List Int} (hv : vcanF x.v k t o) (hk : k = 1 ∨ k = 2) (hl : x.v.th t = some l) (h0 : 0 ≤ o) (h1 : o < x.vs.length) (z : Int) :
    wF (deF x k t o) z = if z = o then (wF x z).map (acW x.v.ck.n k t l) else wF x z := by
  obtain ⟨w, hw⟩ := get_lt (l := x.vs) (i := o.toNat) (by omega)
  rw [de_acc hv hk hw hl]
  unfold wF
  show (if 0 ≤ z then (x.vs.set o.toNat _)[z.toNat]? else none) = _
  by_cases e : z = o
  · subst e; rw [if_pos h0, if_pos rfl, if_pos h0, List.getElem?_set_self (by omega), hw]; rfl
  · rw [if_neg e]
    split
    · rw [List.getElem?_set_ne (by omega)]
    · rfl
theorem wF_no {x : DS} {k t o : Int} (hv : vcanF x.v k t o) (hk : ¬ (k = 1 ∨ k = 2)) (z : Int) : wF (deF x k t o) z = wF x z := by
  rw [de_no hv (by omega) (by omega)]; rfl
theorem de_v {x : DS} {k t o : Int} (hv : vcanF x.v k t o) : (deF x k t o).v = vnF x.v k t o := by rw [deF, if_pos hv]
theorem de_len {x : DS} {k t o : Int} : (deF x k t o).vs.length = x.vs.length := by
  unfold deF
  split
  · unfold acF
    split
    · rw [List.length_set]
    · rfl
  · rfl
theorem RW_app {a b : Option V4} {A : List Int} (n : Int) (h : RW a b A) : RW a b (A ++ [n]) := by
  cases a <;> cases b <;> simp only [RW] at h ⊢
  refine ⟨h.1, h.2.1, h.2.2.1, fun e => ?_⟩
  obtain ⟨j, hj, hA⟩ := h.2.2.2 e
  exact ⟨j, hj, by rw [List.getElem?_append_left (List.getElem?_eq_some_iff.1 hA).1]; exact hA⟩
theorem rel_no {x y : DS} {A : List Int} {v : Int} {e : T3} (h : Rel x y A v) (hc : ¬ canE x e) : Rel (dEv x e) y A v := by rw [show dEv x e = x from if_neg hc]; exact h
theorem rel_skip {x y : DS} {A : List Int} {v : Int} {e : T3} (hx : DInv x) (h : Rel x y A v) (hc : canE x e) (hk : e.1 = 1 ∨ e.1 = 2) (ho : e.2.2 ≠ v) : Rel (dEv x e) y A v := by
  obtain ⟨l, hl⟩ := th_some hx.v (can_th hc.1)
  obtain ⟨p0, p1⟩ := acc_obj hc.1 hk
  refine ⟨?_, by rw [dEv, de_len]; exact h.len, ?_⟩
  · rw [dEv, de_v hc, vn_acc hc.1 hk]; exact h.st
  · rw [dEv, wF_acc hc hk hl p0 (by rw [hx.len]; exact p1), if_neg (Ne.symm ho)]; exact h.w
theorem rel_app {x y : DS} {A : List Int} {v : Int} {e : T3} (hx : DInv x) (hy : DInv y) (h : Rel x y A v) (hc : canE x e) (hk : (e.1 = 1 ∨ e.1 = 2) → e.2.2 = v) : canE y e ∧ Rel (dEv x e) (dEv y e) (A ++ [x.v.ck.n]) v := by
  have hcy : canE y e := by unfold canE; rw [h.st]; exact vN_can.2 hc
  have hyn : y.v.ck.n = A.length := by rw [h.st]; rfl
  refine ⟨hcy, ?_, by rw [dEv, dEv, de_len, de_len]; exact h.len, ?_⟩
  · rw [dEv, dEv, de_v hc, de_v hcy, h.st, vN_nx hc.1, List.length_append]; simp
  · by_cases hk2 : e.1 = 1 ∨ e.1 = 2
    · obtain ⟨l, hl⟩ := th_some hx.v (can_th hc.1)
      obtain ⟨p0, p1⟩ := acc_obj hc.1 hk2
      have hly : y.v.th e.2.1 = some l := by rw [h.st]; exact hl
      have hlen := hx.len
      rw [dEv, dEv, wF_acc hc hk2 hl p0 (by omega), wF_acc hcy hk2 hly p0 (by have := h.len; omega), if_pos (hk hk2).symm, if_pos (hk hk2).symm]
      have hw := h.w
      cases hxw : wF x v with
      | none => cases hyw : wF y v with
        | none => trivial
        | some w' => rw [hxw, hyw] at hw; exact hw.elim
      | some w => cases hyw : wF y v with
        | none => rw [hxw, hyw] at hw; exact hw.elim
        | some w' =>
          rw [hxw, hyw] at hw
          obtain ⟨a1, a2, a3, a4⟩ := hw
          have hr : raceF e.1 l w' ↔ raceF e.1 l w := by unfold raceF; rw [a1, a2]
          simp only [Option.map_some, RW, acW]
          refine ⟨by rw [a1], by rw [a2], by rw [a3, decide_eq_decide.2 hr], fun hf => ?_⟩
          by_cases hc2 : raceF e.1 l w ∧ w.2.2.2 = false
          · rw [if_pos hc2, if_pos ⟨hr.2 hc2.1, a3.trans hc2.2⟩]
            exact ⟨A.length, hyn, by simp⟩
          · have hf2 : w.2.2.2 = true := by
              cases hq : w.2.2.2 with
              | true => rfl
              | false =>
                rw [hq, Bool.false_or] at hf
                exact absurd ⟨of_decide_eq_true hf, hq⟩ hc2
            obtain ⟨j, hj, hA⟩ := a4 hf2
            rw [if_neg hc2, if_neg (fun q => hc2 ⟨hr.1 q.1, a3.symm.trans q.2⟩)]
            exact ⟨j, hj, by rw [List.getElem?_append_left (List.getElem?_eq_some_iff.1 hA).1]; exact hA⟩
    · rw [dEv, dEv, wF_no hc hk2, wF_no hcy hk2]
      exact RW_app _ h.w
theorem okAll_app {x : DS} {L : List T3} {e : T3} (h : okAll x L) (hc : canE (dAll x L) e) : okAll x (L ++ [e]) := by
  intro j q hj
  rcases Nat.lt_or_ge j L.length with h1 | h1
  · rw [List.getElem?_append_left h1] at hj
    rw [List.take_append_of_le_length (by omega)]
    exact h j q hj
  · have h2 := (List.getElem?_eq_some_iff.1 hj).1
    rw [List.length_append] at h2
    simp at h2
    obtain rfl : j = L.length := by omega
    rw [List.getElem?_append_right (Nat.le_refl _)] at hj
    simp at hj; subst hj
    rw [List.take_left']
    · exact hc
    · rfl
theorem dAll_app {x : DS} {L : List T3} {e : T3} : dAll x (L ++ [e]) = dEv (dAll x L) e := by rw [dAll, dAll, List.foldl_append]; rfl
theorem okAll_end {x : DS} {L : List T3} (h : okAll x L) {i : Nat} (h1 : i ≤ L.length) (h2 : i < L.length → ∀ e, L[i]? = some e → ¬ canE (dAll x (L.take i)) e) : i = L.length := by
  rcases Nat.lt_or_ge i L.length with h3 | h3
  · obtain ⟨e, he⟩ := get_lt h3
    exact absurd (h i e he) (h2 h3 e he)
  · omega
theorem rel_new {x : DS} {v : Int} (hn : x.v.ck.n = 0) (hf : ∀ w ∈ x.vs, w.2.2.2 = false) : Rel x x [] v := by
  refine ⟨?_, rfl, ?_⟩
  · show x.v = vN x.v ((0 : Nat) : Int)
    have : x.v.ck = cN x.v.ck 0 := by rw [cN, ← hn]
    unfold vN; rw [Int.natCast_zero, ← this]
  · cases hw : wF x v with
    | none => trivial
    | some w =>
      refine ⟨rfl, rfl, rfl, fun h => ?_⟩
      unfold wF at hw
      split at hw
      · rw [hf w (List.mem_of_getElem? hw)] at h; cases h
      · cases hw
/-- How the answers stand. -/
theorem rel_ans {x y : DS} {A : List Int} {v : Int} (h : Rel x y A v) : fdF (wF x v) = fdF (wF y v) ∧ (fdF (wF x v) = true → ∃ j : Nat, fgF (wF y v) = j ∧ A[j]? = some (fgF (wF x v))) := by
  have hw := h.w
  cases hxw : wF x v with
  | none => cases hyw : wF y v with
    | none => exact ⟨rfl, fun h => by cases h⟩
    | some w' => rw [hxw, hyw] at hw; exact hw.elim
  | some w => cases hyw : wF y v with
    | none => rw [hxw, hyw] at hw; exact hw.elim
    | some w' =>
      rw [hxw, hyw] at hw
      exact ⟨hw.2.2.1.symm, fun h => hw.2.2.2 h⟩
theorem else_ok (th va vo lk : Int) (pl : List Int) (ao : Option Addr) (n c : Nat) (A : HProp) (hr : RdS A ao (pl.flatMap encZ)) (hn : pl.length = n) (hb : n ≤ 4000000) (hok : OkS th va vo lk pl) (es : List T3) (eo : Option Addr) (m ec : Nat) (he_ : RdS A eo (es.flatMap enc3)) (hem : es.length = m) (hmb : m ≤ 4000000) (v : Int) : Spec Try.prog 6 [.agg #[.int .i64 th, .int .i64 va, .int .i64 vo, .int .i64 lk, .slice ao n c], .slice eo m ec, .int .i64 v] [A] (fun (_ : Unit) => .bool true) (fun _ => True) (fun _ => [A]) := by
  refine spec_mk (n := 147) Try.func6 rfl rfl rfl ?_
  intro Γ w0
  simp only [argE, List.cons_append, List.nil_append, Nat.zero_add, Nat.reduceAdd]
  refine c_seq ?_
  refine c_plain ((.l 0 [] (.q 1 (.done)))) (by kernel_rfl) ?_
  refine l_box rfl rfl rfl rfl (us := [_, _, _, _, _]) rfl ?_
  intro b3
  refine ag_nil ?_
  refine q_assign rfl rfl rfl rfl ?_
  refine r_done ?_
  refine k_then_n ?_
  refine c_seq ?_
  refine c_plain (.q 0 ((.l 1 [] (.q 2 (.q 3 (.q 4 (.q 5 (.q 6 (.done))))))))) (by kernel_rfl) ?_
  refine q_loadN_c rfl rfl rfl rfl Try.isAgg24 Try.sizeOf24 (by with_reducible (repeat (first | exact Take.here | apply Take.there))) 0 (us := [_, _, _, _, _]) (by first | rfl | exact (Nat.add_zero _).symm) rfl rfl ?_
  have sp_1 := Dj.new_spec th va vo lk pl ao n c A (hr) (by first | rfl | assumption | omega | (simp; done) | (simp; omega)) (by omega) hok
  refine l_call rfl rfl rfl rfl rfl rfl Try.call15 (sp_1) (by (repeat ((with_reducible apply Takes.cons); focus (first | (with_reducible (repeat (first | exact Take.here | apply Take.there)); done) | (repeat (first | exact Take.here | apply Take.there))))); exact Takes.nil) ?_
  rintro ⟨d, ⟨dpa, dpc⟩, dpo, dpoc⟩ -
  try simp only [List.cons_append, List.nil_append]
  refine ag_nil ?_
  refine q_move rfl rfl rfl rfl ?_
  refine q_extract rfl rfl rfl rfl rfl ?_
  refine q_extract rfl rfl rfl rfl rfl ?_
  refine q_assign rfl rfl rfl rfl ?_
  refine q_assign rfl rfl rfl rfl ?_
  refine r_done ?_
  obtain ⟨x0, hx0⟩ : ∃ y, y = dNew th va vo lk pl := ⟨_, rfl⟩
  rw [← hx0]
  have hi0 : DInv x0 := by rw [hx0]; exact new_dinv hok (new_inv hok)
  have hn0 : x0.v.ck.n = 0 := by rw [hx0]; rfl
  have hp0 : x0.v.ck.pa = pl := by rw [hx0]; rfl
  refine s_keep [1, 2, 3, 7, 8] (e' := [(1, _), (2, _), (3, _), (7, _), (8, _)]) rfl ?_
  refine k_then_n ?_
  refine c_seq ?_
  refine c_seq ?_
  refine c_plain ((.l 0 [] (.q 1 (.done)))) (by kernel_rfl) ?_
  refine l_call rfl rfl rfl rfl rfl rfl Try.call8 (works_spec) (by (repeat ((with_reducible apply Takes.cons); focus (first | (with_reducible (repeat (first | exact Take.here | apply Take.there)); done) | (repeat (first | exact Take.here | apply Take.there))))); exact Takes.nil) ?_
  rintro ⟨⟩ -
  try simp only [List.cons_append, List.nil_append]
  refine ag_nil ?_
  refine q_not rfl rfl rfl rfl ?_
  refine s_eq 27 rfl (v' := .bool false) rfl ?_
  refine r_done ?_
  refine k_then_n ?_
  refine c_cond_f rfl ?_
  refine c_skip ?_
  refine k_then_n ?_
  refine c_seq ?_
  refine c_seq ?_
  refine c_plain (.q 0 ((.l 1 [] (.q 2 (.done))))) (by kernel_rfl) ?_
  refine q_move rfl rfl rfl rfl ?_
  have sp_2 := num_spec 0
  refine l_call rfl rfl rfl rfl rfl rfl Try.call16 (sp_2) (by (repeat ((with_reducible apply Takes.cons); focus (first | (with_reducible (repeat (first | exact Take.here | apply Take.there)); done) | (repeat (first | exact Take.here | apply Take.there))))); exact Takes.nil) ?_
  rintro ⟨⟩ -
  try simp only [List.cons_append, List.nil_append]
  refine ag_nil ?_
  refine q_int rfl rfl rfl rfl rfl (b_neq _ _ _ _) ?_
  refine s_eq 30 rfl (v' := .bool false) (by first | rfl | simp) ?_
  refine r_done ?_
  refine s_keep [1, 2, 3, 7, 30] (e' := [(1, _), (2, _), (3, _), (7, _), (30, _)]) rfl ?_
  refine k_then_n ?_
  refine c_cond_f rfl ?_
  refine c_skip ?_
  refine k_then_n ?_
  refine c_seq ?_
  refine c_plain (.q 0 (.done)) (by kernel_rfl) ?_
  refine q_assign rfl rfl rfl rfl ?_
  refine r_done ?_
  refine k_then_n ?_
  refine c_seq ?_
  refine c_plain (.q 0 (.done)) (by kernel_rfl) ?_
  refine q_assign rfl rfl rfl rfl ?_
  refine r_done ?_
  refine k_then_n ?_
  refine c_seq ?_
  refine c_seq ?_
  refine c_plain (.q 0 (.done)) (by kernel_rfl) ?_
  refine q_assign rfl rfl rfl rfl ?_
  refine r_done ?_
  refine k_then_n ?_
  refine c_block ?_
  refine s_heap (fun _ h => own_nil (sz := 3) (enc := enc3) h) ?_
  refine s_heap (fun _ h => own_nil (sz := 1) (enc := encZ) h) ?_
  refine c_loop2 (α := Nat × List T3 × Option Addr × Nat × List Int × Option Addr × Nat) (fun (x_ : Nat × List T3 × Option Addr × Nat × List Int × Option Addr × Nat) => match x_ with | (i, L, la, lc, Z, za, zc) => i ≤ m ∧ (Rel (dAll x0 (es.take i)) (dAll x0 L) Z v) ∧ (okAll x0 L) ∧ (L.length = Z.length) ∧ (L.length ≤ i)) (fun (x_ : Nat × List T3 × Option Addr × Nat × List Int × Option Addr × Nat) => match x_ with | (i, L, la, lc, Z, za, zc) => [(9, .slice la L.length lc), (10, .slice za Z.length zc), (11, .int .i64 ((i : Nat) : Int))]) (fun (x_ : Nat × List T3 × Option Addr × Nat × List Int × Option Addr × Nat) => match x_ with | (i, L, la, lc, Z, za, zc) => [dR dpa dpc dpo dpoc d (dAll x0 (es.take i)), own 1 encZ dpa dpc pl, own 1 encZ dpo dpoc pl, own 3 enc3 la lc L, own 1 encZ za zc Z]) (fun (x_ : Nat × List T3 × Option Addr × Nat × List Int × Option Addr × Nat) => match x_ with | (i, L, la, lc, Z, za, zc) => m - i) [1, 2, 3, 7] (er := [(1, _), (2, _), (3, _), (7, _)]) rfl (0, ([] : List T3), none, 0, ([] : List Int), none, 0) ?_ (by exact ⟨rfl, rfl, rfl, trivial⟩) (by (try dsimp only); (try simp only [Nat.add_zero, Nat.zero_add]); (repeat ((with_reducible apply Takes.cons); focus (first | (with_reducible (repeat (first | exact Take.here | apply Take.there)); done) | (repeat (first | exact Take.here | apply Take.there))))); exact Takes.nil) ?_
  · exact ⟨Nat.zero_le _, rel_new hn0 (fun w hw => by rw [hx0] at hw; rw [(List.mem_replicate.1 hw).2]; rfl), fun j e h => by simp at h, rfl, Nat.le_refl _⟩
  rintro ⟨i, L, la, lc, Z, za, zc⟩ ⟨hle_i, hrel, hok2, hLZ, hLi⟩
  try simp only [List.cons_append, List.nil_append]
  obtain ⟨hdn, hdp, hdt, hdv⟩ := dAll_n (es.take i) x0
  rw [List.length_take] at hdn
  refine c_seq ?_
  refine c_seq ?_
  refine c_plain (.q 0 (.q 1 (.q 2 (.q 3 (.done))))) (by kernel_rfl) ?_
  refine q_move rfl rfl rfl rfl ?_
  refine q_move rfl rfl rfl rfl ?_
  refine q_len rfl rfl rfl rfl Try.underlying25 ?_
  refine q_int rfl rfl rfl rfl rfl (b_lss _ _ _ _) ?_
  refine r_done ?_
  refine k_then_n ?_
  refine c_cond_p rfl (fun hlt => ?_) (fun hlt => ?_)
  · skip
    refine c_skip ?_
    refine k_then_n ?_
    refine c_seq ?_
    refine c_block ?_
    refine c_seq ?_
    refine c_seq ?_
    refine c_plain (.q 0 (.q 1 (.q 2 (.q 3 (.q 4 ((.l 5 [] ((.l 6 [] (.q 7 (.done))))))))))) (by kernel_rfl) ?_
    refine q_move rfl rfl rfl rfl ?_
    refine q_move rfl rfl rfl rfl ?_
    refine q_move rfl rfl rfl rfl ?_
    obtain ⟨e, he⟩ := get_lt (l := es) (i := i) (by first | omega | (simp; done) | (simp; omega))
    refine q_idxR (sz := 2) (k := i) rfl rfl rfl rfl rfl Try.underlying25 Try.sizeOf40 (he_) he enc3_len (by first | rfl | omega) (by omega) ?_
    intro ib42 io42 _ hd42
    refine q_loadN (vs := [_, _, _]) rfl rfl rfl rfl Try.isAgg40 Try.sizeOf40 (by with_reducible (repeat (first | exact Take.here | apply Take.there))) (hd42) rfl ?_
    have sp_3 := event_spec dpa dpc dpo dpoc d (dAll x0 (es.take i)) (dAll_inv hi0 _) (by omega) pl (hdp.trans hp0) e.1 e.2.1 e.2.2
    refine l_call rfl rfl rfl rfl rfl rfl Try.call20 (sp_3) (by (repeat ((with_reducible apply Takes.cons); focus (first | (with_reducible (repeat (first | exact Take.here | apply Take.there)); done) | (repeat (first | exact Take.here | apply Take.there))))); exact Takes.nil) ?_
    rintro ⟨⟩ -
    try simp only [List.cons_append, List.nil_append]
    refine ag_nil ?_
    have sp_4 := num_spec (deE (dAll x0 (es.take i)) e.1 e.2.1 e.2.2)
    refine l_call rfl rfl rfl rfl rfl rfl Try.call16 (sp_4) (by (repeat ((with_reducible apply Takes.cons); focus (first | (with_reducible (repeat (first | exact Take.here | apply Take.there)); done) | (repeat (first | exact Take.here | apply Take.there))))); exact Takes.nil) ?_
    rintro ⟨⟩ -
    try simp only [List.cons_append, List.nil_append]
    refine ag_nil ?_
    refine q_int rfl rfl rfl rfl rfl (b_neq _ _ _ _) ?_
    refine r_done ?_
    refine s_keep [1, 2, 3, 7, 9, 10, 11, 46] (e' := [(1, _), (2, _), (3, _), (7, _), (9, _), (10, _), (11, _), (46, _)]) rfl ?_
    refine k_then_n ?_
    refine c_cond_p rfl (fun hne => ?_) (fun hne => ?_)
    · skip
      have hncan : ¬ canE (dAll x0 (es.take i)) e := fun h => hne (if_pos h)
      refine c_exit ?_
      refine k_then_exit ?_
      refine k_blk_here ?_
      refine k_then_n ?_
      refine c_plain (.q 0 (.q 1 (.q 2 (.done)))) (by kernel_rfl) ?_
      refine q_move rfl rfl rfl rfl ?_
      refine q_int rfl rfl rfl rfl rfl (b_add' _ (by (first | exact fits_i64 (by omega) (by omega) | exact fits_u64 (by omega) (by omega) | exact fits_u32 (by omega) (by omega) | exact fits_u8 (by omega) (by omega)))) ?_
      refine q_assign rfl rfl rfl rfl ?_
      refine r_done ?_
      refine k_then_n ?_
      rw [show (deF (dAll x0 (es.take i)) e.1 e.2.1 e.2.2) = dAll x0 (es.take (i + 1)) from (dAll_next he).symm]
      refine loop_next (x := (i, L, la, lc, Z, za, zc)) ((i + 1, L, la, lc, Z, za, zc)) ?_ ?_ ?_ ?_
      · try dsimp only
        exact ⟨by omega, by rw [dAll_next he]; exact by first | exact rel_no hrel hncan | exact rel_skip (dAll_inv hi0 _) hrel hcan (by omega) ho, hok2, hLZ, by omega⟩
      · show m - (i + 1) < m - i; omega
      · exact ⟨rfl, rfl, rfl, rfl, rfl, rfl, rfl, trivial⟩
      · (try simp only [List.cons_append, List.nil_append]); (repeat ((with_reducible apply Takes.cons); focus (first | (with_reducible (repeat (first | exact Take.here | apply Take.there)); done) | (repeat (first | exact Take.here | apply Take.there))))); (repeat (first | exact Takes.nil | exact Takes.self | refine takes_drop2 ?_))
    · skip
      have hcan : canE (dAll x0 (es.take i)) e := Classical.byContradiction fun h => hne (by rw [show deE (dAll x0 (es.take i)) e.1 e.2.1 e.2.2 = 6 from if_neg h]; decide)
      have hnn : (deF (dAll x0 (es.take i)) e.1 e.2.1 e.2.2).v.ck.n = (dAll x0 (es.take i)).v.ck.n + 1 := by rw [de_v hcan, vn_ck]; exact (nxF_can hcan.1).1
      have hnz := (dAll_inv hi0 (es.take i)).v.ck.n0
      refine c_skip ?_
      refine k_then_n ?_
      refine c_seq ?_
      refine c_plain (.q 0 (.q 1 (.q 2 (.q 3 (.q 4 (.q 5 (.q 6 (.q 7 (.q 8 (.q 9 (.q 10 (.q 11 (.q 12 (.q 13 (.q 14 (.done)))))))))))))))) (by kernel_rfl) ?_
      refine q_move rfl rfl rfl rfl ?_
      refine q_move rfl rfl rfl rfl ?_
      refine q_idxR (sz := 2) (k := i) rfl rfl rfl rfl rfl Try.underlying25 Try.sizeOf40 (he_) he enc3_len (by first | rfl | omega) (by omega) ?_
      intro ib49 io49 _ hd49
      refine q_field (k := 0) rfl rfl rfl rfl Try.underlying40 rfl Try.sizeOf38 rfl ?_
      refine q_load rfl rfl rfl rfl Try.isAgg38 (by with_reducible (repeat (first | exact Take.here | apply Take.there))) (hd49 0 (.int .i64 e.1) rfl) ?_
      refine q_int rfl rfl rfl rfl rfl (b_eql _ _ _ _) ?_
      refine q_move rfl rfl rfl rfl ?_
      refine s_bool_p 53 rfl (fun k1 => ?_) (fun k1 => ?_)
      · skip
        refine q_skip rfl rfl rfl rfl ?_
        refine q_skip rfl rfl rfl rfl ?_
        refine q_skip rfl rfl rfl rfl ?_
        refine q_skip rfl rfl rfl rfl ?_
        refine q_skip rfl rfl rfl rfl ?_
        refine q_skip rfl rfl rfl rfl ?_
        refine q_pick_t rfl rfl rfl rfl rfl ?_
        refine q_assign rfl rfl rfl rfl ?_
        refine r_done ?_
        refine s_keep [1, 2, 3, 7, 9, 10, 11, 12, 54, 55, 56, 57, 58, 59] (e' := [(1, _), (2, _), (3, _), (7, _), (9, _), (10, _), (11, _), (12, _), (54, _), (55, _), (56, _), (57, _), (58, _), (59, _)]) rfl ?_
        refine k_then_n ?_
        refine c_seq ?_
        refine c_plain (.q 0 (.q 1 (.q 2 (.q 3 (.q 4 (.q 5 (.q 6 (.q 7 (.q 8 (.q 9 (.q 10 (.done)))))))))))) (by kernel_rfl) ?_
        refine q_move rfl rfl rfl rfl ?_
        refine q_not rfl rfl rfl rfl ?_
        refine s_eq 62 rfl (v' := .bool false) rfl ?_
        refine q_move rfl rfl rfl rfl ?_
        refine q_move rfl rfl rfl rfl ?_
        refine q_move rfl rfl rfl rfl ?_
        refine q_idxR (sz := 2) (k := i) rfl rfl rfl rfl rfl Try.underlying25 Try.sizeOf40 (he_) he enc3_len (by first | rfl | omega) (by omega) ?_
        intro ib66 io66 _ hd66
        refine q_field (k := 2) rfl rfl rfl rfl Try.underlying40 rfl Try.sizeOf3 rfl ?_
        refine q_load rfl rfl rfl rfl Try.isAgg3 (by with_reducible (repeat (first | exact Take.here | apply Take.there))) (hd66 2 (.int .i64 e.2.2) rfl) ?_
        refine q_move rfl rfl rfl rfl ?_
        refine q_int rfl rfl rfl rfl rfl (b_eql _ _ _ _) ?_
        refine q_pick_f rfl rfl rfl rfl rfl ?_
        refine r_done ?_
        refine s_keep [1, 2, 3, 7, 9, 10, 11, 54, 55, 56, 57, 58, 59, 64, 65, 66, 67, 68, 69, 70, 71] (e' := [(1, _), (2, _), (3, _), (7, _), (9, _), (10, _), (11, _), (54, _), (55, _), (56, _), (57, _), (58, _), (59, _), (64, _), (65, _), (66, _), (67, _), (68, _), (69, _), (70, _), (71, _)]) rfl ?_
        refine k_then_n ?_
        refine c_cond_p rfl (fun ho => ?_) (fun ho => ?_)
        · skip
          refine c_seq ?_
          refine c_plain (.q 0 (.q 1 (.q 2 (.q 3 (.q 4 ((.l 5 [] ((.l 6 [] (.q 7 (.done))))))))))) (by kernel_rfl) ?_
          refine q_move rfl rfl rfl rfl ?_
          refine q_move rfl rfl rfl rfl ?_
          refine q_move rfl rfl rfl rfl ?_
          refine q_idxR (sz := 2) (k := i) rfl rfl rfl rfl rfl Try.underlying25 Try.sizeOf40 (he_) he enc3_len (by first | rfl | omega) (by omega) ?_
          intro ib75 io75 _ hd75
          refine q_loadN (vs := [_, _, _]) rfl rfl rfl rfl Try.isAgg40 Try.sizeOf40 (by with_reducible (repeat (first | exact Take.here | apply Take.there))) (hd75) rfl ?_
          refine l_buildSlice rfl rfl rfl rfl (run_build1 (us := [_, _, _]) Try.underlying25 Try.sizeOf40 rfl Try.zeroValue40 rfl rfl rfl) ?_
          intro b77
          refine ag_nil ?_
          refine l_append (sz := 3) (enc := enc3) (xs := L) rfl rfl rfl rfl rfl Try.underlying25 Try.typeInfo40 rfl rfl rfl (by decide) (by with_reducible (repeat (first | exact Take.here | apply Take.there))) (by with_reducible (repeat (first | exact Take.here | apply Take.there))) (by first | rfl | omega | (simp; done) | (simp; omega)) (ys := [e]) (rds_some rdn_cells) (by rfl) (by first | rfl | omega) (enc3_len) (enc3_one) (by omega) (by show _ * 24 ≤ _; omega) ?_
          intro ao78 cp78
          refine ag_nil ?_
          refine q_assign rfl rfl rfl rfl ?_
          refine r_done ?_
          refine s_keep [1, 2, 3, 7, 9, 10, 11, 54, 55, 56, 57, 58, 59, 64, 65, 66, 67, 68, 69, 70] (e' := [(1, _), (2, _), (3, _), (7, _), (9, _), (10, _), (11, _), (54, _), (55, _), (56, _), (57, _), (58, _), (59, _), (64, _), (65, _), (66, _), (67, _), (68, _), (69, _), (70, _)]) rfl ?_
          refine k_then_n ?_
          refine c_plain (.q 0 (.q 1 ((.l 2 [] (.q 3 ((.l 4 [] ((.l 5 [] (.q 6 (.done))))))))))) (by kernel_rfl) ?_
          refine q_move rfl rfl rfl rfl ?_
          refine q_move rfl rfl rfl rfl ?_
          have sp_5 := Dj.len_spec dpa dpc dpo dpoc d (deF (dAll x0 (es.take i)) e.1 e.2.1 e.2.2) (de_inv (dAll_inv hi0 _) e.1 e.2.1 e.2.2)
          refine l_call rfl rfl rfl rfl rfl rfl Try.call21 (sp_5) (by (repeat ((with_reducible apply Takes.cons); focus (first | (with_reducible (repeat (first | exact Take.here | apply Take.there)); done) | (repeat (first | exact Take.here | apply Take.there))))); exact Takes.nil) ?_
          rintro ⟨⟩ -
          try simp only [List.cons_append, List.nil_append]
          refine ag_nil ?_
          refine q_int rfl rfl rfl rfl rfl (b_sub' _ (by exact fits_i64 (by omega) (by omega))) ?_
          refine s_eq 82 rfl (v' := .int .i64 ((dAll x0 (es.take i)).v.ck.n)) (by rw [hnn]; congr 1; omega) ?_
          refine l_buildSlice rfl rfl rfl rfl (run_build1 (us := [_]) Try.underlying22 Try.sizeOf3 rfl Try.zeroValue3 rfl rfl rfl) ?_
          intro b83
          refine ag_nil ?_
          refine l_append (sz := 1) (enc := encZ) (xs := Z) rfl rfl rfl rfl rfl Try.underlying22 Try.typeInfo3 rfl rfl rfl (by decide) (by with_reducible (repeat (first | exact Take.here | apply Take.there))) (by with_reducible (repeat (first | exact Take.here | apply Take.there))) (by first | rfl | omega | (simp; done) | (simp; omega)) (ys := [((dAll x0 (es.take i)).v.ck.n)]) (rds_some rdn_cells) (by rfl) (by first | rfl | omega) (encZ_len) (encZ_one) (by omega) (by show _ * 8 ≤ _; omega) ?_
          intro ao84 cp84
          refine ag_nil ?_
          refine q_assign rfl rfl rfl rfl ?_
          refine r_done ?_
          refine s_keep [1, 2, 3, 7, 9, 10, 11, 54, 55, 56, 57, 58, 59, 64, 65, 66, 67, 68, 69, 70] (e' := [(1, _), (2, _), (3, _), (7, _), (9, _), (10, _), (11, _), (54, _), (55, _), (56, _), (57, _), (58, _), (59, _), (64, _), (65, _), (66, _), (67, _), (68, _), (69, _), (70, _)]) rfl ?_
          refine k_blk_n ?_
          refine k_then_n ?_
          refine c_plain (.q 0 (.q 1 (.q 2 (.done)))) (by kernel_rfl) ?_
          refine q_move rfl rfl rfl rfl ?_
          refine q_int rfl rfl rfl rfl rfl (b_add' _ (by (first | exact fits_i64 (by omega) (by omega) | exact fits_u64 (by omega) (by omega) | exact fits_u32 (by omega) (by omega) | exact fits_u8 (by omega) (by omega)))) ?_
          refine q_assign rfl rfl rfl rfl ?_
          refine r_done ?_
          refine k_then_n ?_
          rw [show (deF (dAll x0 (es.take i)) e.1 e.2.1 e.2.2) = dAll x0 (es.take (i + 1)) from (dAll_next he).symm]
          obtain ⟨hcy, hrel2⟩ := rel_app (dAll_inv hi0 _) (dAll_inv hi0 _) hrel hcan (by intro hk_; omega)
          have hLl : (L ++ [(e.1, e.2.1, e.2.2)]).length = L.length + 1 := by simp
          have hZl : (Z ++ [(dAll x0 (es.take i)).v.ck.n]).length = Z.length + 1 := by simp
          refine s_eq 9 rfl (v' := .slice ao78 (L ++ [e]).length cp78) (by first | rfl | (congr 1; done) | (congr 1 <;> first | rfl | omega | (simp; done) | (simp; omega))) ?_
          refine s_eq 10 rfl (v' := .slice ao84 (Z ++ [(dAll x0 (es.take i)).v.ck.n]).length cp84) (by first | rfl | (congr 1; done) | (congr 1 <;> first | rfl | omega | (simp; done) | (simp; omega))) ?_
          refine loop_next (x := (i, L, la, lc, Z, za, zc)) ((i + 1, L ++ [e], ao78, cp78, Z ++ [(dAll x0 (es.take i)).v.ck.n], ao84, cp84)) ?_ ?_ ?_ ?_
          · try dsimp only
            exact ⟨by omega, by rw [dAll_next he, dAll_app]; exact hrel2, okAll_app hok2 hcy, by simp [hLZ], by simp; omega⟩
          · show m - (i + 1) < m - i; omega
          · exact ⟨rfl, rfl, rfl, rfl, rfl, rfl, rfl, trivial⟩
          · (try simp only [List.cons_append, List.nil_append]); (repeat ((with_reducible apply Takes.cons); focus (first | (with_reducible (repeat (first | exact Take.here | apply Take.there)); done) | (repeat (first | exact Take.here | apply Take.there))))); (repeat (first | exact Takes.nil | exact Takes.self | refine takes_drop2 ?_))
        · skip
          refine c_skip ?_
          refine k_blk_n ?_
          refine k_then_n ?_
          refine c_plain (.q 0 (.q 1 (.q 2 (.done)))) (by kernel_rfl) ?_
          refine q_move rfl rfl rfl rfl ?_
          refine q_int rfl rfl rfl rfl rfl (b_add' _ (by (first | exact fits_i64 (by omega) (by omega) | exact fits_u64 (by omega) (by omega) | exact fits_u32 (by omega) (by omega) | exact fits_u8 (by omega) (by omega)))) ?_
          refine q_assign rfl rfl rfl rfl ?_
          refine r_done ?_
          refine k_then_n ?_
          rw [show (deF (dAll x0 (es.take i)) e.1 e.2.1 e.2.2) = dAll x0 (es.take (i + 1)) from (dAll_next he).symm]
          refine loop_next (x := (i, L, la, lc, Z, za, zc)) ((i + 1, L, la, lc, Z, za, zc)) ?_ ?_ ?_ ?_
          · try dsimp only
            exact ⟨by omega, by rw [dAll_next he]; exact by first | exact rel_no hrel hncan | exact rel_skip (dAll_inv hi0 _) hrel hcan (by omega) ho, hok2, hLZ, by omega⟩
          · show m - (i + 1) < m - i; omega
          · exact ⟨rfl, rfl, rfl, rfl, rfl, rfl, rfl, trivial⟩
          · (try simp only [List.cons_append, List.nil_append]); (repeat ((with_reducible apply Takes.cons); focus (first | (with_reducible (repeat (first | exact Take.here | apply Take.there)); done) | (repeat (first | exact Take.here | apply Take.there))))); (repeat (first | exact Takes.nil | exact Takes.self | refine takes_drop2 ?_))
      · skip
        refine q_move rfl rfl rfl rfl ?_
        refine q_move rfl rfl rfl rfl ?_
        refine q_idxR (sz := 2) (k := i) rfl rfl rfl rfl rfl Try.underlying25 Try.sizeOf40 (he_) he enc3_len (by first | rfl | omega) (by omega) ?_
        intro ib56 io56 _ hd56
        refine q_field (k := 0) rfl rfl rfl rfl Try.underlying40 rfl Try.sizeOf38 rfl ?_
        refine q_load rfl rfl rfl rfl Try.isAgg38 (by with_reducible (repeat (first | exact Take.here | apply Take.there))) (hd56 0 (.int .i64 e.1) rfl) ?_
        refine q_int rfl rfl rfl rfl rfl (b_eql _ _ _ _) ?_
        refine q_pick_f rfl rfl rfl rfl rfl ?_
        refine q_assign rfl rfl rfl rfl ?_
        refine r_done ?_
        refine s_keep [1, 2, 3, 7, 9, 10, 11, 12, 54, 55, 56, 57, 58, 59] (e' := [(1, _), (2, _), (3, _), (7, _), (9, _), (10, _), (11, _), (12, _), (54, _), (55, _), (56, _), (57, _), (58, _), (59, _)]) rfl ?_
        refine k_then_n ?_
        refine c_seq ?_
        refine c_plain (.q 0 (.q 1 (.q 2 (.q 3 (.q 4 (.q 5 (.q 6 (.q 7 (.q 8 (.q 9 (.q 10 (.done)))))))))))) (by kernel_rfl) ?_
        refine q_move rfl rfl rfl rfl ?_
        refine q_not rfl rfl rfl rfl ?_
        refine q_move rfl rfl rfl rfl ?_
        refine s_bool_np 63 rfl (fun k2 => ?_) (fun k2 => ?_)
        · skip
          refine q_skip rfl rfl rfl rfl ?_
          refine q_skip rfl rfl rfl rfl ?_
          refine q_skip rfl rfl rfl rfl ?_
          refine q_skip rfl rfl rfl rfl ?_
          refine q_skip rfl rfl rfl rfl ?_
          refine q_skip rfl rfl rfl rfl ?_
          refine q_skip rfl rfl rfl rfl ?_
          refine q_pick_t rfl rfl rfl rfl rfl ?_
          refine r_done ?_
          refine s_keep [1, 2, 3, 7, 9, 10, 11, 54, 55, 56, 57, 58, 59, 64, 65, 66, 67, 68, 69, 70, 71] (e' := [(1, _), (2, _), (3, _), (7, _), (9, _), (10, _), (11, _), (54, _), (55, _), (56, _), (57, _), (58, _), (59, _), (64, _), (65, _), (66, _), (67, _), (68, _), (69, _), (70, _), (71, _)]) rfl ?_
          refine k_then_n ?_
          refine c_cond_t rfl ?_
          have ho : True := trivial
          refine c_seq ?_
          refine c_plain (.q 0 (.q 1 (.q 2 (.q 3 (.q 4 ((.l 5 [] ((.l 6 [] (.q 7 (.done))))))))))) (by kernel_rfl) ?_
          refine q_move rfl rfl rfl rfl ?_
          refine q_move rfl rfl rfl rfl ?_
          refine q_move rfl rfl rfl rfl ?_
          refine q_idxR (sz := 2) (k := i) rfl rfl rfl rfl rfl Try.underlying25 Try.sizeOf40 (he_) he enc3_len (by first | rfl | omega) (by omega) ?_
          intro ib75 io75 _ hd75
          refine q_loadN (vs := [_, _, _]) rfl rfl rfl rfl Try.isAgg40 Try.sizeOf40 (by with_reducible (repeat (first | exact Take.here | apply Take.there))) (hd75) rfl ?_
          refine l_buildSlice rfl rfl rfl rfl (run_build1 (us := [_, _, _]) Try.underlying25 Try.sizeOf40 rfl Try.zeroValue40 rfl rfl rfl) ?_
          intro b77
          refine ag_nil ?_
          refine l_append (sz := 3) (enc := enc3) (xs := L) rfl rfl rfl rfl rfl Try.underlying25 Try.typeInfo40 rfl rfl rfl (by decide) (by with_reducible (repeat (first | exact Take.here | apply Take.there))) (by with_reducible (repeat (first | exact Take.here | apply Take.there))) (by first | rfl | omega | (simp; done) | (simp; omega)) (ys := [e]) (rds_some rdn_cells) (by rfl) (by first | rfl | omega) (enc3_len) (enc3_one) (by omega) (by show _ * 24 ≤ _; omega) ?_
          intro ao78 cp78
          refine ag_nil ?_
          refine q_assign rfl rfl rfl rfl ?_
          refine r_done ?_
          refine s_keep [1, 2, 3, 7, 9, 10, 11, 54, 55, 56, 57, 58, 59, 64, 65, 66, 67, 68, 69, 70] (e' := [(1, _), (2, _), (3, _), (7, _), (9, _), (10, _), (11, _), (54, _), (55, _), (56, _), (57, _), (58, _), (59, _), (64, _), (65, _), (66, _), (67, _), (68, _), (69, _), (70, _)]) rfl ?_
          refine k_then_n ?_
          refine c_plain (.q 0 (.q 1 ((.l 2 [] (.q 3 ((.l 4 [] ((.l 5 [] (.q 6 (.done))))))))))) (by kernel_rfl) ?_
          refine q_move rfl rfl rfl rfl ?_
          refine q_move rfl rfl rfl rfl ?_
          have sp_6 := Dj.len_spec dpa dpc dpo dpoc d (deF (dAll x0 (es.take i)) e.1 e.2.1 e.2.2) (de_inv (dAll_inv hi0 _) e.1 e.2.1 e.2.2)
          refine l_call rfl rfl rfl rfl rfl rfl Try.call21 (sp_6) (by (repeat ((with_reducible apply Takes.cons); focus (first | (with_reducible (repeat (first | exact Take.here | apply Take.there)); done) | (repeat (first | exact Take.here | apply Take.there))))); exact Takes.nil) ?_
          rintro ⟨⟩ -
          try simp only [List.cons_append, List.nil_append]
          refine ag_nil ?_
          refine q_int rfl rfl rfl rfl rfl (b_sub' _ (by exact fits_i64 (by omega) (by omega))) ?_
          refine s_eq 82 rfl (v' := .int .i64 ((dAll x0 (es.take i)).v.ck.n)) (by rw [hnn]; congr 1; omega) ?_
          refine l_buildSlice rfl rfl rfl rfl (run_build1 (us := [_]) Try.underlying22 Try.sizeOf3 rfl Try.zeroValue3 rfl rfl rfl) ?_
          intro b83
          refine ag_nil ?_
          refine l_append (sz := 1) (enc := encZ) (xs := Z) rfl rfl rfl rfl rfl Try.underlying22 Try.typeInfo3 rfl rfl rfl (by decide) (by with_reducible (repeat (first | exact Take.here | apply Take.there))) (by with_reducible (repeat (first | exact Take.here | apply Take.there))) (by first | rfl | omega | (simp; done) | (simp; omega)) (ys := [((dAll x0 (es.take i)).v.ck.n)]) (rds_some rdn_cells) (by rfl) (by first | rfl | omega) (encZ_len) (encZ_one) (by omega) (by show _ * 8 ≤ _; omega) ?_
          intro ao84 cp84
          refine ag_nil ?_
          refine q_assign rfl rfl rfl rfl ?_
          refine r_done ?_
          refine s_keep [1, 2, 3, 7, 9, 10, 11, 54, 55, 56, 57, 58, 59, 64, 65, 66, 67, 68, 69, 70] (e' := [(1, _), (2, _), (3, _), (7, _), (9, _), (10, _), (11, _), (54, _), (55, _), (56, _), (57, _), (58, _), (59, _), (64, _), (65, _), (66, _), (67, _), (68, _), (69, _), (70, _)]) rfl ?_
          refine k_blk_n ?_
          refine k_then_n ?_
          refine c_plain (.q 0 (.q 1 (.q 2 (.done)))) (by kernel_rfl) ?_
          refine q_move rfl rfl rfl rfl ?_
          refine q_int rfl rfl rfl rfl rfl (b_add' _ (by (first | exact fits_i64 (by omega) (by omega) | exact fits_u64 (by omega) (by omega) | exact fits_u32 (by omega) (by omega) | exact fits_u8 (by omega) (by omega)))) ?_
          refine q_assign rfl rfl rfl rfl ?_
          refine r_done ?_
          refine k_then_n ?_
          rw [show (deF (dAll x0 (es.take i)) e.1 e.2.1 e.2.2) = dAll x0 (es.take (i + 1)) from (dAll_next he).symm]
          obtain ⟨hcy, hrel2⟩ := rel_app (dAll_inv hi0 _) (dAll_inv hi0 _) hrel hcan (by intro hk_; omega)
          have hLl : (L ++ [(e.1, e.2.1, e.2.2)]).length = L.length + 1 := by simp
          have hZl : (Z ++ [(dAll x0 (es.take i)).v.ck.n]).length = Z.length + 1 := by simp
          refine s_eq 9 rfl (v' := .slice ao78 (L ++ [e]).length cp78) (by first | rfl | (congr 1; done) | (congr 1 <;> first | rfl | omega | (simp; done) | (simp; omega))) ?_
          refine s_eq 10 rfl (v' := .slice ao84 (Z ++ [(dAll x0 (es.take i)).v.ck.n]).length cp84) (by first | rfl | (congr 1; done) | (congr 1 <;> first | rfl | omega | (simp; done) | (simp; omega))) ?_
          refine loop_next (x := (i, L, la, lc, Z, za, zc)) ((i + 1, L ++ [e], ao78, cp78, Z ++ [(dAll x0 (es.take i)).v.ck.n], ao84, cp84)) ?_ ?_ ?_ ?_
          · try dsimp only
            exact ⟨by omega, by rw [dAll_next he, dAll_app]; exact hrel2, okAll_app hok2 hcy, by simp [hLZ], by simp; omega⟩
          · show m - (i + 1) < m - i; omega
          · exact ⟨rfl, rfl, rfl, rfl, rfl, rfl, rfl, trivial⟩
          · (try simp only [List.cons_append, List.nil_append]); (repeat ((with_reducible apply Takes.cons); focus (first | (with_reducible (repeat (first | exact Take.here | apply Take.there)); done) | (repeat (first | exact Take.here | apply Take.there))))); (repeat (first | exact Takes.nil | exact Takes.self | refine takes_drop2 ?_))
        · skip
          refine q_move rfl rfl rfl rfl ?_
          refine q_move rfl rfl rfl rfl ?_
          refine q_idxR (sz := 2) (k := i) rfl rfl rfl rfl rfl Try.underlying25 Try.sizeOf40 (he_) he enc3_len (by first | rfl | omega) (by omega) ?_
          intro ib66 io66 _ hd66
          refine q_field (k := 2) rfl rfl rfl rfl Try.underlying40 rfl Try.sizeOf3 rfl ?_
          refine q_load rfl rfl rfl rfl Try.isAgg3 (by with_reducible (repeat (first | exact Take.here | apply Take.there))) (hd66 2 (.int .i64 e.2.2) rfl) ?_
          refine q_move rfl rfl rfl rfl ?_
          refine q_int rfl rfl rfl rfl rfl (b_eql _ _ _ _) ?_
          refine q_pick_f rfl rfl rfl rfl rfl ?_
          refine r_done ?_
          refine s_keep [1, 2, 3, 7, 9, 10, 11, 54, 55, 56, 57, 58, 59, 64, 65, 66, 67, 68, 69, 70, 71] (e' := [(1, _), (2, _), (3, _), (7, _), (9, _), (10, _), (11, _), (54, _), (55, _), (56, _), (57, _), (58, _), (59, _), (64, _), (65, _), (66, _), (67, _), (68, _), (69, _), (70, _), (71, _)]) rfl ?_
          refine k_then_n ?_
          refine c_cond_p rfl (fun ho => ?_) (fun ho => ?_)
          · skip
            refine c_seq ?_
            refine c_plain (.q 0 (.q 1 (.q 2 (.q 3 (.q 4 ((.l 5 [] ((.l 6 [] (.q 7 (.done))))))))))) (by kernel_rfl) ?_
            refine q_move rfl rfl rfl rfl ?_
            refine q_move rfl rfl rfl rfl ?_
            refine q_move rfl rfl rfl rfl ?_
            refine q_idxR (sz := 2) (k := i) rfl rfl rfl rfl rfl Try.underlying25 Try.sizeOf40 (he_) he enc3_len (by first | rfl | omega) (by omega) ?_
            intro ib75 io75 _ hd75
            refine q_loadN (vs := [_, _, _]) rfl rfl rfl rfl Try.isAgg40 Try.sizeOf40 (by with_reducible (repeat (first | exact Take.here | apply Take.there))) (hd75) rfl ?_
            refine l_buildSlice rfl rfl rfl rfl (run_build1 (us := [_, _, _]) Try.underlying25 Try.sizeOf40 rfl Try.zeroValue40 rfl rfl rfl) ?_
            intro b77
            refine ag_nil ?_
            refine l_append (sz := 3) (enc := enc3) (xs := L) rfl rfl rfl rfl rfl Try.underlying25 Try.typeInfo40 rfl rfl rfl (by decide) (by with_reducible (repeat (first | exact Take.here | apply Take.there))) (by with_reducible (repeat (first | exact Take.here | apply Take.there))) (by first | rfl | omega | (simp; done) | (simp; omega)) (ys := [e]) (rds_some rdn_cells) (by rfl) (by first | rfl | omega) (enc3_len) (enc3_one) (by omega) (by show _ * 24 ≤ _; omega) ?_
            intro ao78 cp78
            refine ag_nil ?_
            refine q_assign rfl rfl rfl rfl ?_
            refine r_done ?_
            refine s_keep [1, 2, 3, 7, 9, 10, 11, 54, 55, 56, 57, 58, 59, 64, 65, 66, 67, 68, 69, 70] (e' := [(1, _), (2, _), (3, _), (7, _), (9, _), (10, _), (11, _), (54, _), (55, _), (56, _), (57, _), (58, _), (59, _), (64, _), (65, _), (66, _), (67, _), (68, _), (69, _), (70, _)]) rfl ?_
            refine k_then_n ?_
            refine c_plain (.q 0 (.q 1 ((.l 2 [] (.q 3 ((.l 4 [] ((.l 5 [] (.q 6 (.done))))))))))) (by kernel_rfl) ?_
            refine q_move rfl rfl rfl rfl ?_
            refine q_move rfl rfl rfl rfl ?_
            have sp_7 := Dj.len_spec dpa dpc dpo dpoc d (deF (dAll x0 (es.take i)) e.1 e.2.1 e.2.2) (de_inv (dAll_inv hi0 _) e.1 e.2.1 e.2.2)
            refine l_call rfl rfl rfl rfl rfl rfl Try.call21 (sp_7) (by (repeat ((with_reducible apply Takes.cons); focus (first | (with_reducible (repeat (first | exact Take.here | apply Take.there)); done) | (repeat (first | exact Take.here | apply Take.there))))); exact Takes.nil) ?_
            rintro ⟨⟩ -
            try simp only [List.cons_append, List.nil_append]
            refine ag_nil ?_
            refine q_int rfl rfl rfl rfl rfl (b_sub' _ (by exact fits_i64 (by omega) (by omega))) ?_
            refine s_eq 82 rfl (v' := .int .i64 ((dAll x0 (es.take i)).v.ck.n)) (by rw [hnn]; congr 1; omega) ?_
            refine l_buildSlice rfl rfl rfl rfl (run_build1 (us := [_]) Try.underlying22 Try.sizeOf3 rfl Try.zeroValue3 rfl rfl rfl) ?_
            intro b83
            refine ag_nil ?_
            refine l_append (sz := 1) (enc := encZ) (xs := Z) rfl rfl rfl rfl rfl Try.underlying22 Try.typeInfo3 rfl rfl rfl (by decide) (by with_reducible (repeat (first | exact Take.here | apply Take.there))) (by with_reducible (repeat (first | exact Take.here | apply Take.there))) (by first | rfl | omega | (simp; done) | (simp; omega)) (ys := [((dAll x0 (es.take i)).v.ck.n)]) (rds_some rdn_cells) (by rfl) (by first | rfl | omega) (encZ_len) (encZ_one) (by omega) (by show _ * 8 ≤ _; omega) ?_
            intro ao84 cp84
            refine ag_nil ?_
            refine q_assign rfl rfl rfl rfl ?_
            refine r_done ?_
            refine s_keep [1, 2, 3, 7, 9, 10, 11, 54, 55, 56, 57, 58, 59, 64, 65, 66, 67, 68, 69, 70] (e' := [(1, _), (2, _), (3, _), (7, _), (9, _), (10, _), (11, _), (54, _), (55, _), (56, _), (57, _), (58, _), (59, _), (64, _), (65, _), (66, _), (67, _), (68, _), (69, _), (70, _)]) rfl ?_
            refine k_blk_n ?_
            refine k_then_n ?_
            refine c_plain (.q 0 (.q 1 (.q 2 (.done)))) (by kernel_rfl) ?_
            refine q_move rfl rfl rfl rfl ?_
            refine q_int rfl rfl rfl rfl rfl (b_add' _ (by (first | exact fits_i64 (by omega) (by omega) | exact fits_u64 (by omega) (by omega) | exact fits_u32 (by omega) (by omega) | exact fits_u8 (by omega) (by omega)))) ?_
            refine q_assign rfl rfl rfl rfl ?_
            refine r_done ?_
            refine k_then_n ?_
            rw [show (deF (dAll x0 (es.take i)) e.1 e.2.1 e.2.2) = dAll x0 (es.take (i + 1)) from (dAll_next he).symm]
            obtain ⟨hcy, hrel2⟩ := rel_app (dAll_inv hi0 _) (dAll_inv hi0 _) hrel hcan (by intro hk_; omega)
            have hLl : (L ++ [(e.1, e.2.1, e.2.2)]).length = L.length + 1 := by simp
            have hZl : (Z ++ [(dAll x0 (es.take i)).v.ck.n]).length = Z.length + 1 := by simp
            refine s_eq 9 rfl (v' := .slice ao78 (L ++ [e]).length cp78) (by first | rfl | (congr 1; done) | (congr 1 <;> first | rfl | omega | (simp; done) | (simp; omega))) ?_
            refine s_eq 10 rfl (v' := .slice ao84 (Z ++ [(dAll x0 (es.take i)).v.ck.n]).length cp84) (by first | rfl | (congr 1; done) | (congr 1 <;> first | rfl | omega | (simp; done) | (simp; omega))) ?_
            refine loop_next (x := (i, L, la, lc, Z, za, zc)) ((i + 1, L ++ [e], ao78, cp78, Z ++ [(dAll x0 (es.take i)).v.ck.n], ao84, cp84)) ?_ ?_ ?_ ?_
            · try dsimp only
              exact ⟨by omega, by rw [dAll_next he, dAll_app]; exact hrel2, okAll_app hok2 hcy, by simp [hLZ], by simp; omega⟩
            · show m - (i + 1) < m - i; omega
            · exact ⟨rfl, rfl, rfl, rfl, rfl, rfl, rfl, trivial⟩
            · (try simp only [List.cons_append, List.nil_append]); (repeat ((with_reducible apply Takes.cons); focus (first | (with_reducible (repeat (first | exact Take.here | apply Take.there)); done) | (repeat (first | exact Take.here | apply Take.there))))); (repeat (first | exact Takes.nil | exact Takes.self | refine takes_drop2 ?_))
          · skip
            refine c_skip ?_
            refine k_blk_n ?_
            refine k_then_n ?_
            refine c_plain (.q 0 (.q 1 (.q 2 (.done)))) (by kernel_rfl) ?_
            refine q_move rfl rfl rfl rfl ?_
            refine q_int rfl rfl rfl rfl rfl (b_add' _ (by (first | exact fits_i64 (by omega) (by omega) | exact fits_u64 (by omega) (by omega) | exact fits_u32 (by omega) (by omega) | exact fits_u8 (by omega) (by omega)))) ?_
            refine q_assign rfl rfl rfl rfl ?_
            refine r_done ?_
            refine k_then_n ?_
            rw [show (deF (dAll x0 (es.take i)) e.1 e.2.1 e.2.2) = dAll x0 (es.take (i + 1)) from (dAll_next he).symm]
            refine loop_next (x := (i, L, la, lc, Z, za, zc)) ((i + 1, L, la, lc, Z, za, zc)) ?_ ?_ ?_ ?_
            · try dsimp only
              exact ⟨by omega, by rw [dAll_next he]; exact by first | exact rel_no hrel hncan | exact rel_skip (dAll_inv hi0 _) hrel hcan (by omega) ho, hok2, hLZ, by omega⟩
            · show m - (i + 1) < m - i; omega
            · exact ⟨rfl, rfl, rfl, rfl, rfl, rfl, rfl, trivial⟩
            · (try simp only [List.cons_append, List.nil_append]); (repeat ((with_reducible apply Takes.cons); focus (first | (with_reducible (repeat (first | exact Take.here | apply Take.there)); done) | (repeat (first | exact Take.here | apply Take.there))))); (repeat (first | exact Takes.nil | exact Takes.self | refine takes_drop2 ?_))
  · skip
    refine c_exit ?_
    refine k_then_exit ?_
    refine k_then_exit ?_
    refine k_blk_here ?_
    refine k_then_n ?_
    refine c_seq ?_
    obtain rfl : i = m := by omega
    rw [List.take_of_length_le (show es.length ≤ i by omega)] at hrel ⊢
    refine c_plain (.q 0 ((.l 1 [] (.q 2 (.q 3 (.q 4 (.q 5 (.q 6 (.done))))))))) (by kernel_rfl) ?_
    refine q_loadN_c rfl rfl rfl rfl Try.isAgg24 Try.sizeOf24 (by with_reducible (repeat (first | exact Take.here | apply Take.there))) 0 (us := [_, _, _, _, _]) (by first | rfl | exact (Nat.add_zero _).symm) rfl rfl ?_
    have sp_8 := Dj.new_spec th va vo lk pl ao n c A (hr) (by first | rfl | assumption | omega | (simp; done) | (simp; omega)) (by omega) hok
    refine l_call rfl rfl rfl rfl rfl rfl Try.call15 (sp_8) (by (repeat ((with_reducible apply Takes.cons); focus (first | (with_reducible (repeat (first | exact Take.here | apply Take.there)); done) | (repeat (first | exact Take.here | apply Take.there))))); exact Takes.nil) ?_
    rintro ⟨c_, ⟨c_pa, c_pc⟩, c_po, c_poc⟩ -
    try simp only [List.cons_append, List.nil_append]
    refine ag_nil ?_
    refine q_move rfl rfl rfl rfl ?_
    refine q_extract rfl rfl rfl rfl rfl ?_
    refine q_extract rfl rfl rfl rfl rfl ?_
    refine q_assign rfl rfl rfl rfl ?_
    refine q_assign rfl rfl rfl rfl ?_
    refine r_done ?_
    rw [← hx0]
    refine s_keep [2, 7, 9, 10, 13, 14] (e' := [(2, _), (7, _), (9, _), (10, _), (13, _), (14, _)]) rfl ?_
    refine k_then_n ?_
    refine c_seq ?_
    refine c_plain (.q 0 (.q 1 ((.l 2 [] (.q 3 (.q 4 (.q 5 (.q 6 (.q 7 (.done)))))))))) (by kernel_rfl) ?_
    refine q_move rfl rfl rfl rfl ?_
    refine q_move rfl rfl rfl rfl ?_
    refine s_take (A := own 3 enc3 la lc L) (by with_reducible (repeat (first | exact Take.here | apply Take.there))) ?_
    refine own_fc fun f_9a f_9b f_9c => ?_
    have sp_10 := events_spec c_pa c_pc c_po c_poc c_ x0 hi0 (by rw [hn0]; decide) pl hp0 L la L.length lc (own 3 enc3 la lc L) (rds_own enc3_len (fun h => (f_9b h).1) f_9c) (by first | rfl | assumption | omega | (simp; done) | (simp; omega)) (by omega)
    refine l_call rfl rfl rfl rfl rfl rfl Try.call22 (sp_10) (by (repeat ((with_reducible apply Takes.cons); focus (first | (with_reducible (repeat (first | exact Take.here | apply Take.there)); done) | (repeat (first | exact Take.here | apply Take.there))))); exact Takes.nil) ?_
    rintro ii ⟨hii1, hii2, hii3⟩
    try simp only [List.cons_append, List.nil_append]
    refine ag_nil ?_
    obtain rfl : ii = L.length := okAll_end hok2 hii1 hii3
    rw [List.take_length]
    obtain ⟨hfd, hfg⟩ := rel_ans hrel
    rw [show (if L.length = L.length then (0 : Int) else 6) = 0 from if_pos rfl]
    refine q_move rfl rfl rfl rfl ?_
    refine q_extract rfl rfl rfl rfl rfl ?_
    refine q_extract rfl rfl rfl rfl rfl ?_
    refine q_assign rfl rfl rfl rfl ?_
    refine q_assign rfl rfl rfl rfl ?_
    refine r_done ?_
    refine s_keep [2, 7, 9, 10, 13, 14, 15, 16] (e' := [(2, _), (7, _), (9, _), (10, _), (13, _), (14, _), (15, _), (16, _)]) rfl ?_
    refine k_then_n ?_
    refine c_seq ?_
    refine c_seq ?_
    refine c_plain (.q 0 ((.l 1 [] (.q 2 (.q 3 (.q 4 ((.l 5 [] (.q 6 (.q 7 (.q 8 (.q 9 (.q 10 (.q 11 (.q 12 (.q 13 (.done))))))))))))))))) (by kernel_rfl) ?_
    refine q_move rfl rfl rfl rfl ?_
    have sp_11 := num_spec 0
    refine l_call rfl rfl rfl rfl rfl rfl Try.call16 (sp_11) (by (repeat ((with_reducible apply Takes.cons); focus (first | (with_reducible (repeat (first | exact Take.here | apply Take.there)); done) | (repeat (first | exact Take.here | apply Take.there))))); exact Takes.nil) ?_
    rintro ⟨⟩ -
    try simp only [List.cons_append, List.nil_append]
    refine ag_nil ?_
    refine q_int rfl rfl rfl rfl rfl (b_neq _ _ _ _) ?_
    refine s_eq 98 rfl (v' := .bool false) (by first | rfl | simp) ?_
    refine q_move rfl rfl rfl rfl ?_
    refine q_move rfl rfl rfl rfl ?_
    have sp_12 := num_spec 0
    refine l_call rfl rfl rfl rfl rfl rfl Try.call16 (sp_12) (by (repeat ((with_reducible apply Takes.cons); focus (first | (with_reducible (repeat (first | exact Take.here | apply Take.there)); done) | (repeat (first | exact Take.here | apply Take.there))))); exact Takes.nil) ?_
    rintro ⟨⟩ -
    try simp only [List.cons_append, List.nil_append]
    refine ag_nil ?_
    refine q_int rfl rfl rfl rfl rfl (b_neq _ _ _ _) ?_
    refine s_eq 102 rfl (v' := .bool false) (by first | rfl | simp) ?_
    refine q_pick_f rfl rfl rfl rfl rfl ?_
    refine q_move rfl rfl rfl rfl ?_
    refine q_move rfl rfl rfl rfl ?_
    refine q_move rfl rfl rfl rfl ?_
    refine q_len rfl rfl rfl rfl Try.underlying25 ?_
    refine q_int rfl rfl rfl rfl rfl (b_neq _ _ _ _) ?_
    refine q_pick_f rfl rfl rfl rfl rfl ?_
    refine r_done ?_
    refine s_keep [2, 7, 10, 13, 109] (e' := [(2, _), (7, _), (10, _), (13, _), (109, _)]) rfl ?_
    refine k_then_n ?_
    refine c_cond_p rfl (fun hg => by exfalso; first | exact hg rfl | omega) (fun hg => ?_)
    refine c_skip ?_
    refine k_then_n ?_
    refine c_seq ?_
    refine c_plain (.q 0 (.q 1 ((.l 2 [] (.q 3 (.q 4 (.q 5 (.q 6 (.q 7 (.done)))))))))) (by kernel_rfl) ?_
    refine q_move rfl rfl rfl rfl ?_
    refine q_move rfl rfl rfl rfl ?_
    have sp_13 := Dj.flagged_spec dpa dpc dpo dpoc d (dAll x0 es) (dAll_inv hi0 _) v
    refine l_call rfl rfl rfl rfl rfl rfl Try.call23 (sp_13) (by (repeat ((with_reducible apply Takes.cons); focus (first | (with_reducible (repeat (first | exact Take.here | apply Take.there)); done) | (repeat (first | exact Take.here | apply Take.there))))); exact Takes.nil) ?_
    rintro ⟨⟩ -
    try simp only [List.cons_append, List.nil_append]
    refine ag_nil ?_
    refine q_move rfl rfl rfl rfl ?_
    refine q_extract rfl rfl rfl rfl rfl ?_
    refine q_extract rfl rfl rfl rfl rfl ?_
    refine q_assign rfl rfl rfl rfl ?_
    refine q_assign rfl rfl rfl rfl ?_
    refine r_done ?_
    refine s_keep [2, 10, 13, 17, 18] (e' := [(2, _), (10, _), (13, _), (17, _), (18, _)]) rfl ?_
    refine k_then_n ?_
    refine c_seq ?_
    refine c_plain (.q 0 (.q 1 ((.l 2 [] (.q 3 (.q 4 (.q 5 (.q 6 (.q 7 (.done)))))))))) (by kernel_rfl) ?_
    refine q_move rfl rfl rfl rfl ?_
    refine q_move rfl rfl rfl rfl ?_
    have sp_14 := Dj.flagged_spec c_pa c_pc c_po c_poc c_ (dAll x0 L) (dAll_inv hi0 _) v
    refine l_call rfl rfl rfl rfl rfl rfl Try.call23 (sp_14) (by (repeat ((with_reducible apply Takes.cons); focus (first | (with_reducible (repeat (first | exact Take.here | apply Take.there)); done) | (repeat (first | exact Take.here | apply Take.there))))); exact Takes.nil) ?_
    rintro ⟨⟩ -
    try simp only [List.cons_append, List.nil_append]
    refine ag_nil ?_
    refine q_move rfl rfl rfl rfl ?_
    refine q_extract rfl rfl rfl rfl rfl ?_
    refine q_extract rfl rfl rfl rfl rfl ?_
    refine q_assign rfl rfl rfl rfl ?_
    refine q_assign rfl rfl rfl rfl ?_
    refine r_done ?_
    refine s_keep [10, 17, 18, 19, 20] (e' := [(10, _), (17, _), (18, _), (19, _), (20, _)]) rfl ?_
    refine k_then_n ?_
    refine c_seq ?_
    refine c_plain (.q 0 (.q 1 (.q 2 (.q 3 (.q 4 (.q 5 (.q 6 (.q 7 (.q 8 (.q 9 (.q 10 (.q 11 (.q 12 (.q 13 (.q 14 (.q 15 (.q 16 (.q 17 (.q 18 (.q 19 (.q 20 (.q 21 (.q 22 (.q 23 (.q 24 (.q 25 (.done))))))))))))))))))))))))))) (by kernel_rfl) ?_
    refine q_move rfl rfl rfl rfl ?_
    refine q_move rfl rfl rfl rfl ?_
    refine q_eqb rfl rfl rfl rfl rfl Try.underlying4 ?_
    refine s_eq 124 rfl (v' := .bool true) (by rw [hfd]; cases fdF (wF (dAll x0 L) v) <;> rfl) ?_
    refine q_move rfl rfl rfl rfl ?_
    refine q_move rfl rfl rfl rfl ?_
    refine q_not rfl rfl rfl rfl ?_
    refine q_move rfl rfl rfl rfl ?_
    refine s_bool 128 rfl (fun hfl => ?_) (fun hfl => ?_)
    · skip
      try simp only [Bool.and_eq_true, Bool.or_eq_true, Bool.not_eq_true', Bool.not_eq_false', Bool.and_eq_false_iff, Bool.or_eq_false_iff, decide_eq_true_eq, decide_eq_false_iff_not] at hfl
      refine q_skip rfl rfl rfl rfl ?_
      refine q_skip rfl rfl rfl rfl ?_
      refine q_skip rfl rfl rfl rfl ?_
      refine q_skip rfl rfl rfl rfl ?_
      refine q_skip rfl rfl rfl rfl ?_
      refine q_skip rfl rfl rfl rfl ?_
      refine q_skip rfl rfl rfl rfl ?_
      refine q_skip rfl rfl rfl rfl ?_
      refine q_skip rfl rfl rfl rfl ?_
      refine q_skip rfl rfl rfl rfl ?_
      refine q_skip rfl rfl rfl rfl ?_
      refine q_skip rfl rfl rfl rfl ?_
      refine q_skip rfl rfl rfl rfl ?_
      refine q_skip rfl rfl rfl rfl ?_
      refine q_skip rfl rfl rfl rfl ?_
      refine q_skip rfl rfl rfl rfl ?_
      refine q_pick_t rfl rfl rfl rfl rfl ?_
      refine q_pick_t rfl rfl rfl rfl rfl ?_
      refine q_assign rfl rfl rfl rfl ?_
      refine r_done ?_
      refine s_keep [6] (e' := [(6, _)]) rfl ?_
      refine k_then_n ?_
      refine c_ret ?_
      refine ret1 rfl rfl (()) (by first | rfl | (first | rfl | (congr 1; done) | (congr 1 <;> first | rfl | omega | (simp; done) | (simp; omega)))) (by trivial) ?_
      (repeat ((with_reducible apply Takes.cons); focus (first | (with_reducible (repeat (first | exact Take.here | apply Take.there)); done) | (repeat (first | exact Take.here | apply Take.there))))); (repeat (first | exact Takes.nil | exact Takes.self | refine takes_drop2 ?_))
    · skip
      try simp only [Bool.and_eq_true, Bool.or_eq_true, Bool.not_eq_true', Bool.not_eq_false', Bool.and_eq_false_iff, Bool.or_eq_false_iff, decide_eq_true_eq, decide_eq_false_iff_not] at hfl
      obtain ⟨j, hj, hZj⟩ := hfg (by simpa using hfl)
      have hjl := (List.getElem?_eq_some_iff.1 hZj).1
      refine q_move rfl rfl rfl rfl ?_
      refine q_int rfl rfl rfl rfl rfl (b_geq _ _ _ _) ?_
      refine q_move rfl rfl rfl rfl ?_
      refine s_bool_p 131 rfl (fun hg => ?_) (fun hg => by exfalso; omega)
      refine q_move rfl rfl rfl rfl ?_
      refine q_move rfl rfl rfl rfl ?_
      refine q_len rfl rfl rfl rfl Try.underlying22 ?_
      refine q_int rfl rfl rfl rfl rfl (b_lss _ _ _ _) ?_
      refine q_pick_t rfl rfl rfl rfl rfl ?_
      refine q_move rfl rfl rfl rfl ?_
      refine s_bool_p 137 rfl (fun hg => ?_) (fun hg => by exfalso; omega)
      refine q_move rfl rfl rfl rfl ?_
      refine q_move rfl rfl rfl rfl ?_
      refine q_idxO (sz := 0) (k := j) (enc := encZ) (xs := Z) rfl rfl rfl rfl rfl Try.underlying22 Try.sizeOf3 hZj (by first | rfl | omega) (by omega) (by with_reducible (repeat (first | exact Take.here | apply Take.there))) ?_
      intro ib140 io140 ha140 hl140 hc140
      refine q_load_O (v := (.int .i64 (fgF (wF (dAll x0 es) v)))) (j := 0) (k' := j) (enc := encZ) (off := io140) rfl rfl rfl rfl Try.isAgg3 ha140 encZ_len hZj (by with_reducible (repeat (first | exact Take.here | apply Take.there))) (by first | rfl | exact (Nat.add_zero _).symm | omega) (by rfl) ?_
      refine q_move rfl rfl rfl rfl ?_
      refine q_int rfl rfl rfl rfl rfl (b_eql _ _ _ _) ?_
      refine s_eq 143 rfl (v' := .bool true) (by rw [decide_eq_true rfl]) ?_
      refine q_pick_t rfl rfl rfl rfl rfl ?_
      refine q_pick_f rfl rfl rfl rfl rfl ?_
      refine q_pick_t rfl rfl rfl rfl rfl ?_
      refine q_assign rfl rfl rfl rfl ?_
      refine r_done ?_
      refine s_keep [6] (e' := [(6, _)]) rfl ?_
      refine k_then_n ?_
      refine c_ret ?_
      refine ret1 rfl rfl (()) (by first | rfl | (first | rfl | (congr 1; done) | (congr 1 <;> first | rfl | omega | (simp; done) | (simp; omega)))) (by trivial) ?_
      (repeat ((with_reducible apply Takes.cons); focus (first | (with_reducible (repeat (first | exact Take.here | apply Take.there)); done) | (repeat (first | exact Take.here | apply Take.there))))); (repeat (first | exact Takes.nil | exact Takes.self | refine takes_drop2 ?_))

theorem else_bad (th va vo lk : Int) (pl : List Int) (ao : Option Addr) (n c : Nat) (A : HProp) (hr : RdS A ao (pl.flatMap encZ)) (hn : pl.length = n) (hb : n ≤ 4000000) (hok : ¬ OkS th va vo lk pl) (es : List T3) (eo : Option Addr) (m ec : Nat) (he_ : RdS A eo (es.flatMap enc3)) (hem : es.length = m) (hmb : m ≤ 4000000) (v : Int) : Spec Try.prog 6 [.agg #[.int .i64 th, .int .i64 va, .int .i64 vo, .int .i64 lk, .slice ao n c], .slice eo m ec, .int .i64 v] [A] (fun (_ : Unit) => .bool true) (fun _ => True) (fun _ => [A]) := by
  refine spec_mk (n := 147) Try.func6 rfl rfl rfl ?_
  intro Γ w0
  simp only [argE, List.cons_append, List.nil_append, Nat.zero_add, Nat.reduceAdd]
  refine c_seq ?_
  refine c_plain ((.l 0 [] (.q 1 (.done)))) (by kernel_rfl) ?_
  refine l_box rfl rfl rfl rfl (us := [_, _, _, _, _]) rfl ?_
  intro b3
  refine ag_nil ?_
  refine q_assign rfl rfl rfl rfl ?_
  refine r_done ?_
  refine k_then_n ?_
  refine c_seq ?_
  refine c_plain (.q 0 ((.l 1 [] (.q 2 (.q 3 (.q 4 (.q 5 (.q 6 (.done))))))))) (by kernel_rfl) ?_
  refine q_loadN_c rfl rfl rfl rfl Try.isAgg24 Try.sizeOf24 (by with_reducible (repeat (first | exact Take.here | apply Take.there))) 0 (us := [_, _, _, _, _]) (by first | rfl | exact (Nat.add_zero _).symm) rfl rfl ?_
  have sp_1 := Dj.newbad_spec th va vo lk pl ao n c A (hr) (by first | rfl | assumption | omega | (simp; done) | (simp; omega)) (by omega) hok
  refine l_call rfl rfl rfl rfl rfl rfl Try.call15 (sp_1) (by (repeat ((with_reducible apply Takes.cons); focus (first | (with_reducible (repeat (first | exact Take.here | apply Take.there)); done) | (repeat (first | exact Take.here | apply Take.there))))); exact Takes.nil) ?_
  rintro ⟨⟩ -
  try simp only [List.cons_append, List.nil_append]
  refine ag_nil ?_
  refine q_move rfl rfl rfl rfl ?_
  refine q_extract rfl rfl rfl rfl rfl ?_
  refine q_extract rfl rfl rfl rfl rfl ?_
  refine q_assign rfl rfl rfl rfl ?_
  refine q_assign rfl rfl rfl rfl ?_
  refine r_done ?_
  refine s_keep [1, 2, 3, 7, 8] (e' := [(1, _), (2, _), (3, _), (7, _), (8, _)]) rfl ?_
  refine k_then_n ?_
  refine c_seq ?_
  refine c_seq ?_
  refine c_plain ((.l 0 [] (.q 1 (.done)))) (by kernel_rfl) ?_
  refine l_call rfl rfl rfl rfl rfl rfl Try.call8 (works_spec) (by (repeat ((with_reducible apply Takes.cons); focus (first | (with_reducible (repeat (first | exact Take.here | apply Take.there)); done) | (repeat (first | exact Take.here | apply Take.there))))); exact Takes.nil) ?_
  rintro ⟨⟩ -
  try simp only [List.cons_append, List.nil_append]
  refine ag_nil ?_
  refine q_not rfl rfl rfl rfl ?_
  refine s_eq 27 rfl (v' := .bool false) rfl ?_
  refine r_done ?_
  refine k_then_n ?_
  refine c_cond_f rfl ?_
  refine c_skip ?_
  refine k_then_n ?_
  refine c_seq ?_
  refine c_seq ?_
  refine c_plain (.q 0 ((.l 1 [] (.q 2 (.done))))) (by kernel_rfl) ?_
  refine q_move rfl rfl rfl rfl ?_
  have sp_2 := num_spec 5
  refine l_call rfl rfl rfl rfl rfl rfl Try.call16 (sp_2) (by (repeat ((with_reducible apply Takes.cons); focus (first | (with_reducible (repeat (first | exact Take.here | apply Take.there)); done) | (repeat (first | exact Take.here | apply Take.there))))); exact Takes.nil) ?_
  rintro ⟨⟩ -
  try simp only [List.cons_append, List.nil_append]
  refine ag_nil ?_
  refine q_int rfl rfl rfl rfl rfl (b_neq _ _ _ _) ?_
  refine s_eq 30 rfl (v' := .bool true) (by first | rfl | simp) ?_
  refine r_done ?_
  refine s_keep [1, 2, 3, 7, 30] (e' := [(1, _), (2, _), (3, _), (7, _), (30, _)]) rfl ?_
  refine k_then_n ?_
  refine c_cond_t rfl ?_
  refine c_seq ?_
  refine c_plain (.q 0 (.q 1 (.q 2 (.done)))) (by kernel_rfl) ?_
  refine q_move rfl rfl rfl rfl ?_
  refine q_eq_nil rfl rfl rfl rfl Try.underlying30 ?_
  refine s_eq 32 rfl (v' := .bool true) rfl ?_
  refine q_assign rfl rfl rfl rfl ?_
  refine r_done ?_
  refine s_keep [6] (e' := [(6, _)]) rfl ?_
  refine k_then_n ?_
  refine c_ret ?_
  refine k_then_ret ?_
  refine ret1 rfl rfl (()) (by first | rfl | (first | rfl | (congr 1; done) | (congr 1 <;> first | rfl | omega | (simp; done) | (simp; omega)))) (by trivial) ?_
  (repeat ((with_reducible apply Takes.cons); focus (first | (with_reducible (repeat (first | exact Take.here | apply Take.there)); done) | (repeat (first | exact Take.here | apply Take.there))))); (repeat (first | exact Takes.nil | exact Takes.self | refine takes_drop2 ?_))

theorem else_spec (th va vo lk : Int) (pl : List Int) (ao : Option Addr) (n c : Nat) (A : HProp) (hr : RdS A ao (pl.flatMap encZ)) (hn : pl.length = n) (hb : n ≤ 4000000) (es : List T3) (eo : Option Addr) (m ec : Nat) (he_ : RdS A eo (es.flatMap enc3)) (hem : es.length = m) (hmb : m ≤ 4000000) (v : Int) : Spec Try.prog 6 [.agg #[.int .i64 th, .int .i64 va, .int .i64 vo, .int .i64 lk, .slice ao n c], .slice eo m ec, .int .i64 v] [A] (fun (_ : Unit) => .bool true) (fun _ => True) (fun _ => [A]) := by
  by_cases hok : OkS th va vo lk pl
  · exact else_ok th va vo lk pl ao n c A hr hn hb hok es eo m ec he_ hem hmb v
  · exact else_bad th va vo lk pl ao n c A hr hn hb hok es eo m ec he_ hem hmb v
end Go.Ab.Dj
