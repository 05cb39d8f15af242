/- What the threads know of one another: a step. -/
import Derived.Test.YtkoclbjiaofkhaaDj1
set_option linter.unusedVariables false
set_option linter.unusedSimpArgs false
set_option maxRecDepth 100000
namespace Go.Ab.Dj
open Go Go.Proofs Go.Ab Go.Ab.Fe Go.Ab.Vc
theorem th_some {x : VS} (hx : VInv x) {t : Int} (h : (stF x.ck t).1 ≠ 0) : ∃ l, x.th t = some l := Option.isSome_iff_exists.1 ((hx.th t).2 h)
theorem thF_eq {x : VS} {t : Int} {l : List Int} (h : x.th t = some l) : thF x t = l := by rw [thF, h]; rfl
theorem th_rng {x : VS} (hx : VInv x) {t : Int} (h : (stF x.ck t).1 ≠ 0) : 0 ≤ t ∧ t < 65535 := by
  obtain ⟨h0, h1, -⟩ := stF_nz h
  have h2 := hx.ck.tl
  have h3 := hx.ck.sh.th
  exact ⟨h0, by omega⟩
/-- A round that somebody waits in is kept. -/
theorem rd_some {x : VS} (hx : VInv x) {t o : Int} (h : (stF x.ck t).1 = 2) (ho : o = (stF x.ck t).2.1) : ∃ p, x.rd (o, (stF x.ck t).2.2) = some p ∧ 1 ≤ p.2 := by
  obtain ⟨h0, h1, h2⟩ := stF_nz (x := x.ck) (t := t) (by omega)
  have h3 : 0 < wtN x.ck o (stF x.ck t).2.2 := by
    unfold wtN
    rw [List.countP_pos_iff]
    exact ⟨stF x.ck t, List.mem_of_getElem? h2, decide_eq_true (by rw [ho, ← h])⟩
  have h4 := hx.wt o (stF x.ck t).2.2
  cases hr : x.rd (o, (stF x.ck t).2.2) with
  | none => rw [rdF, hr] at h4; simp at h4; omega
  | some p => rw [rdF, hr] at h4; exact ⟨p, rfl, by simp at h4; omega⟩
def dpF (x : VS) (t o : Int) : VS := ⟨x.ck, upd x.th t (some (jn (thF x t) (rdF x (o, (stF x.ck t).2.2)).1)), x.lk, x.vo, upd x.rd (o, (stF x.ck t).2.2) (if (rdF x (o, (stF x.ck t).2.2)).2 - 1 ≤ 0 then none else some ((rdF x (o, (stF x.ck t).2.2)).1, (rdF x (o, (stF x.ck t).2.2)).2 - 1))⟩
theorem clock_spec (b m1 : Nat) (v0 v1 v3 v4 v5 : Value) (F1 : Int → Option (Option Addr)) (tb : Nat) (ta : Option Addr) (tc : Nat) (l : List Int) (t : Int) (h0 : 0 ≤ t) (hF : F1 t = some (some ⟨tb, 0, none⟩)) : Spec Try.prog 48 [.pointer (some ⟨b, 0, none⟩), .int .i64 t] [cells b 0 [v0, v1, .map (some m1), v3, v4, v5], mapO ekZ evA m1 F1, cells tb 0 [.slice ta l.length tc], own 1 encU ta tc l] (fun (_ : Unit) => .int .u64 (l.getD t.toNat 0)) (fun _ => True) (fun _ => [cells b 0 [v0, v1, .map (some m1), v3, v4, v5], mapO ekZ evA m1 F1, cells tb 0 [.slice ta l.length tc], own 1 encU ta tc l]) := by
 refine spec_mk (n := 13) Try.func48 rfl rfl rfl ?_
 intro Γ w0
 simp only [argE, List.cons_append, List.nil_append, Nat.zero_add, Nat.reduceAdd]
 refine c_seq ?_
 refine c_plain (.q 0 (.done)) (by kernel_rfl) ?_
 refine q_assign rfl rfl rfl rfl ?_
 refine r_done ?_
 refine k_then_n ?_
 refine c_seq ?_
 refine c_plain (.q 0 (.q 1 (.q 2 (.q 3 (.q 4 (.q 5 (.q 6 ((.l 7 [] (.q 8 (.done))))))))))) (by kernel_rfl) ?_
 refine q_move rfl rfl rfl rfl ?_
 refine q_nil_p rfl rfl rfl rfl ?_
 refine q_field (k := 2) rfl rfl rfl rfl Try.underlying87 rfl Try.sizeOf84 rfl ?_
 refine q_load_c (j := 2) rfl rfl rfl rfl Try.isAgg84 (by with_reducible (repeat (first | exact Z0 | apply Z1))) (by first | rfl | exact (Nat.add_zero _).symm) (by rfl) ?_
 refine q_move rfl rfl rfl rfl ?_
 refine q_lookup1 (ek := ekZ) (ev1 := evA) (F := F1) (m := m1) (k := t) none rfl rfl rfl rfl rfl Try.underlying84 (keyOK_int Try.underlying3) Try.zeroValue82 (by with_reducible (repeat (first | exact Z0 | apply Z1))) ?_
 refine s_eq 10 rfl (v' := .pointer (some ⟨tb, 0, none⟩)) (by rw [hF]; rfl) ?_
 refine q_move rfl rfl rfl rfl ?_
 have sp_1 := get_z tb l ta l.length tc (by first | rfl | assumption | omega | (simp; done) | (simp; omega)) t (by omega)
 refine l_call rfl rfl rfl rfl rfl rfl Try.call66 (sp_1) (by (repeat ((with_reducible apply Z2); focus (first | (with_reducible (repeat (first | exact Z0 | apply Z1)); done) | (repeat (first | exact Z0 | apply Z1))))); exact Z3) ?_
 rintro ⟨⟩ -
 try simp only [List.cons_append, List.nil_append]
 refine ag_nil ?_
 refine q_assign rfl rfl rfl rfl ?_
 refine r_done ?_
 refine s_keep [4] (e' := [(4, _)]) rfl ?_
 refine k_then_n ?_
 refine c_ret ?_
 refine ret1 rfl rfl (()) (by first | rfl | (first | rfl | (congr 1; done) | (congr 1 <;> first | rfl | omega | (simp; done) | (simp; omega)))) (by trivial) ?_
 (repeat ((with_reducible apply Z2); focus (first | (with_reducible (repeat (first | exact Z0 | apply Z1)); done) | (repeat (first | exact Z0 | apply Z1))))); (repeat (first | exact Z3 | exact Takes.self | refine takes_drop2 ?_))

theorem can_spec (pa : Option Addr) (pc : Nat) (po : Option Addr) (poc b : Nat) (x : VS) (hx : VInv x) (k t o : Int) : Spec Try.prog 44 [.pointer (some ⟨b, 0, none⟩), .agg #[.int .i64 k, .int .i64 t, .int .i64 o]] [vsR pa pc po poc b x] (fun (_ : Unit) => .bool (decide (vcanF x k t o))) (fun _ => True) (fun _ => [vsR pa pc po poc b x]) := by
 refine spec_mk (n := 24) Try.func44 rfl rfl rfl ?_
 intro Γ w0
 simp only [argE, List.cons_append, List.nil_append, Nat.zero_add, Nat.reduceAdd]
 refine c_seq ?_
 refine c_plain ((.l 0 [] (.q 1 (.done)))) (by kernel_rfl) ?_
 refine l_box rfl rfl rfl rfl (us := [_, _, _]) rfl ?_
 intro b3
 refine ag_nil ?_
 refine q_assign rfl rfl rfl rfl ?_
 refine r_done ?_
 refine k_then_n ?_
 refine c_seq ?_
 refine c_seq ?_
 refine s_take (A := vsR pa pc po poc b x) (by with_reducible (repeat (first | exact Z0 | apply Z1))) ?_
 refine vs_open fun cb m1 m2 m3 m4 F1 F2 F3 F4 => ?_
 refine c_draw rfl (.q 0 (.q 1 (.q 2 (.q 3 (.q 4 ((.l 5 [] (.q 6 (.done))))))))) (by kernel_rfl) ?_
 refine q_move rfl rfl rfl rfl ?_
 refine q_nil_p rfl rfl rfl rfl ?_
 refine q_field (k := 0) rfl rfl rfl rfl Try.underlying87 rfl Try.sizeOf83 rfl ?_
 refine q_load_c (j := 0) rfl rfl rfl rfl Try.isAgg83 (by with_reducible (repeat (first | exact Z0 | apply Z1))) (by first | rfl | exact (Nat.add_zero _).symm) (by rfl) ?_
 refine q_loadN_c rfl rfl rfl rfl Try.isAgg40 Try.sizeOf40 (by with_reducible (repeat (first | exact Z0 | apply Z1))) 0 (us := [_, _, _]) (by first | rfl | exact (Nat.add_zero _).symm) rfl rfl ?_
 have sp_1 := Fe.can_spec pa pc cb x.ck hx.ck k t o
 refine l_call rfl rfl rfl rfl rfl rfl Try.call60 (sp_1) (by (repeat ((with_reducible apply Z2); focus (first | (with_reducible (repeat (first | exact Z0 | apply Z1)); done) | (repeat (first | exact Z0 | apply Z1))))); exact Z3) ?_
 rintro ⟨⟩ -
 try simp only [List.cons_append, List.nil_append]
 refine ag_nil ?_
 refine q_not rfl rfl rfl rfl ?_
 refine r_done ?_
 refine s_keep [0, 3, 11] (e' := [(0, _), (3, _), (11, _)]) rfl ?_
 refine k_then_n ?_
 refine c_cond_np rfl (fun hcn => ?_) (fun hcn => ?_)
 ·
  have hnv : ¬ vcanF x k t o := fun h => hcn h.1
  refine c_seq ?_
  refine c_plain (.q 0 (.done)) (by kernel_rfl) ?_
  refine q_assign rfl rfl rfl rfl ?_
  refine r_done ?_
  refine k_then_n ?_
  refine c_ret ?_
  refine k_then_ret ?_
  refine vs_fold (b := b) x (pa := pa) (pc := pc) (po := po) (poc := poc) (cb := cb) (m1 := m1) (m2 := m2) (m3 := m3) (m4 := m4) (by (repeat ((with_reducible apply Z2); focus (first | (with_reducible (repeat (first | exact Z0 | apply Z1)); done) | (repeat (first | exact Z0 | apply Z1))))); exact Z3) (by rfl) (by rfl) ?_
  refine ret1 rfl rfl (()) (by rw [decide_eq_false hnv]) (by trivial) ?_
  (repeat ((with_reducible apply Z2); focus (first | (with_reducible (repeat (first | exact Z0 | apply Z1)); done) | (repeat (first | exact Z0 | apply Z1))))); (repeat (first | exact Z3 | exact Takes.self | refine takes_drop2 ?_))
 ·
  have hc : canF x.ck k t o := hcn
  obtain ⟨l, hth⟩ := th_some hx (can_th hc)
  obtain ⟨h0, h1⟩ := th_rng hx (can_th hc)
  refine c_skip ?_
  refine k_then_n ?_
  refine c_seq ?_
  refine c_seq ?_
  refine c_plain (.q 0 (.q 1 (.done))) (by kernel_rfl) ?_
  refine q_field (k := 0) rfl rfl rfl rfl Try.underlying40 rfl Try.sizeOf38 rfl ?_
  refine q_load_c (j := 0) rfl rfl rfl rfl Try.isAgg38 (by with_reducible (repeat (first | exact Z0 | apply Z1))) (by first | rfl | exact (Nat.add_zero _).symm) (by rfl) ?_
  refine r_done ?_
  refine k_then_n ?_
  refine c_block ?_
  refine c_seq ?_
  refine c_seq ?_
  refine c_plain (.q 0 (.q 1 (.done))) (by kernel_rfl) ?_
  refine q_int rfl rfl rfl rfl rfl (b_eql _ _ _ _) ?_
  refine q_assign rfl rfl rfl rfl ?_
  refine r_done ?_
  refine k_then_n ?_
  refine c_cond_p rfl (fun k6 => ?_) (fun k6 => ?_)
  ·
   refine s_eq 14 rfl (v' := .bool true) (by rw [decide_eq_true k6]) ?_
   refine c_skip ?_
   refine k_then_n ?_
   refine c_cond_t rfl ?_
   refine c_seq ?_
   have hrel : relK k := by unfold relK; omega
   refine s_rest_take (F := F1) (T := x.th) (S := []) t (by with_reducible (repeat (first | exact Z0 | apply Z1))) (by simp) hth fun tv htF => ?_
   refine s_vec (by with_reducible (repeat (first | exact Z0 | apply Z1))) fun tb ta tc hta => ?_
   subst hta
   refine c_plain (.q 0 (.q 1 (.q 2 ((.l 3 [] (.q 4 (.q 5 (.done)))))))) (by kernel_rfl) ?_
   refine q_move rfl rfl rfl rfl ?_
   refine q_field (k := 1) rfl rfl rfl rfl Try.underlying40 rfl Try.sizeOf3 rfl ?_
   refine q_load_c (j := 1) rfl rfl rfl rfl Try.isAgg3 (by with_reducible (repeat (first | exact Z0 | apply Z1))) (by first | rfl | exact (Nat.add_zero _).symm) (by rfl) ?_
   have sp_2 := clock_spec b m1 (.pointer (some ⟨cb, 0, none⟩)) (.slice po x.ck.pa.length poc) (.map (some m2)) (.map (some m3)) (.map (some m4)) F1 tb (ta) (tc) l t (by omega) htF
   refine l_call rfl rfl rfl rfl rfl rfl Try.call48 (sp_2) (by (repeat ((with_reducible apply Z2); focus (first | (with_reducible (repeat (first | exact Z0 | apply Z1)); done) | (repeat (first | exact Z0 | apply Z1))))); exact Z3) ?_
   rintro ⟨⟩ -
   try simp only [List.cons_append, List.nil_append]
   refine ag_nil ?_
   refine q_int rfl rfl rfl rfl rfl (b_lss _ _ _ _) ?_
   refine q_assign rfl rfl rfl rfl ?_
   refine r_done ?_
   refine s_keep [4] (e' := [(4, _)]) rfl ?_
   refine k_then_n ?_
   refine c_ret ?_
   refine k_blk_ret ?_
   refine k_then_ret ?_
   refine s_vecF tb ta tc l (by (repeat ((with_reducible apply Z2); focus (first | (with_reducible (repeat (first | exact Z0 | apply Z1)); done) | (repeat (first | exact Z0 | apply Z1))))); exact Z3) ?_
   refine s_rest_put (F := F1) (T := x.th) (S := []) t F1 x.th (by (repeat ((with_reducible apply Z2); focus (first | (with_reducible (repeat (first | exact Z0 | apply Z1)); done) | (repeat (first | exact Z0 | apply Z1))))); exact Z3) (by simp) htF (fun _ _ _ => rfl) hth (fun _ _ _ => rfl) ?_
   refine vs_fold (b := b) x (pa := pa) (pc := pc) (po := po) (poc := poc) (cb := cb) (m1 := m1) (m2 := m2) (m3 := m3) (m4 := m4) (by (repeat ((with_reducible apply Z2); focus (first | (with_reducible (repeat (first | exact Z0 | apply Z1)); done) | (repeat (first | exact Z0 | apply Z1))))); exact Z3) (by rfl) (by rfl) ?_
   refine ret1 rfl rfl (()) (by congr 1; exact decide_eq_decide.2 (by unfold vcanF; rw [thF_eq hth]; exact ⟨fun h => ⟨hc, fun _ => h⟩, fun h => h.2 hrel⟩)) (by trivial) ?_
   (repeat ((with_reducible apply Z2); focus (first | (with_reducible (repeat (first | exact Z0 | apply Z1)); done) | (repeat (first | exact Z0 | apply Z1))))); (repeat (first | exact Z3 | exact Takes.self | refine takes_drop2 ?_))
  ·
   refine s_eq 14 rfl (v' := .bool false) (by rw [decide_eq_false k6]) ?_
   refine c_seq ?_
   refine c_plain (.q 0 (.q 1 (.done))) (by kernel_rfl) ?_
   refine q_int rfl rfl rfl rfl rfl (b_eql _ _ _ _) ?_
   refine q_assign rfl rfl rfl rfl ?_
   refine r_done ?_
   refine s_keep [0, 3, 13, 14] (e' := [(0, _), (3, _), (13, _), (14, _)]) rfl ?_
   refine k_then_n ?_
   refine c_cond_p rfl (fun k4 => ?_) (fun k4 => ?_)
   ·
    refine s_eq 14 rfl (v' := .bool true) (by rw [decide_eq_true k4]) ?_
    refine c_skip ?_
    refine k_then_n ?_
    refine c_cond_t rfl ?_
    refine c_seq ?_
    have hrel : relK k := by unfold relK; omega
    refine s_rest_take (F := F1) (T := x.th) (S := []) t (by with_reducible (repeat (first | exact Z0 | apply Z1))) (by simp) hth fun tv htF => ?_
    refine s_vec (by with_reducible (repeat (first | exact Z0 | apply Z1))) fun tb ta tc hta => ?_
    subst hta
    refine c_plain (.q 0 (.q 1 (.q 2 ((.l 3 [] (.q 4 (.q 5 (.done)))))))) (by kernel_rfl) ?_
    refine q_move rfl rfl rfl rfl ?_
    refine q_field (k := 1) rfl rfl rfl rfl Try.underlying40 rfl Try.sizeOf3 rfl ?_
    refine q_load_c (j := 1) rfl rfl rfl rfl Try.isAgg3 (by with_reducible (repeat (first | exact Z0 | apply Z1))) (by first | rfl | exact (Nat.add_zero _).symm) (by rfl) ?_
    have sp_3 := clock_spec b m1 (.pointer (some ⟨cb, 0, none⟩)) (.slice po x.ck.pa.length poc) (.map (some m2)) (.map (some m3)) (.map (some m4)) F1 tb (ta) (tc) l t (by omega) htF
    refine l_call rfl rfl rfl rfl rfl rfl Try.call48 (sp_3) (by (repeat ((with_reducible apply Z2); focus (first | (with_reducible (repeat (first | exact Z0 | apply Z1)); done) | (repeat (first | exact Z0 | apply Z1))))); exact Z3) ?_
    rintro ⟨⟩ -
    try simp only [List.cons_append, List.nil_append]
    refine ag_nil ?_
    refine q_int rfl rfl rfl rfl rfl (b_lss _ _ _ _) ?_
    refine q_assign rfl rfl rfl rfl ?_
    refine r_done ?_
    refine s_keep [4] (e' := [(4, _)]) rfl ?_
    refine k_then_n ?_
    refine c_ret ?_
    refine k_blk_ret ?_
    refine k_then_ret ?_
    refine s_vecF tb ta tc l (by (repeat ((with_reducible apply Z2); focus (first | (with_reducible (repeat (first | exact Z0 | apply Z1)); done) | (repeat (first | exact Z0 | apply Z1))))); exact Z3) ?_
    refine s_rest_put (F := F1) (T := x.th) (S := []) t F1 x.th (by (repeat ((with_reducible apply Z2); focus (first | (with_reducible (repeat (first | exact Z0 | apply Z1)); done) | (repeat (first | exact Z0 | apply Z1))))); exact Z3) (by simp) htF (fun _ _ _ => rfl) hth (fun _ _ _ => rfl) ?_
    refine vs_fold (b := b) x (pa := pa) (pc := pc) (po := po) (poc := poc) (cb := cb) (m1 := m1) (m2 := m2) (m3 := m3) (m4 := m4) (by (repeat ((with_reducible apply Z2); focus (first | (with_reducible (repeat (first | exact Z0 | apply Z1)); done) | (repeat (first | exact Z0 | apply Z1))))); exact Z3) (by rfl) (by rfl) ?_
    refine ret1 rfl rfl (()) (by congr 1; exact decide_eq_decide.2 (by unfold vcanF; rw [thF_eq hth]; exact ⟨fun h => ⟨hc, fun _ => h⟩, fun h => h.2 hrel⟩)) (by trivial) ?_
    (repeat ((with_reducible apply Z2); focus (first | (with_reducible (repeat (first | exact Z0 | apply Z1)); done) | (repeat (first | exact Z0 | apply Z1))))); (repeat (first | exact Z3 | exact Takes.self | refine takes_drop2 ?_))
   ·
    refine s_eq 14 rfl (v' := .bool false) (by rw [decide_eq_false k4]) ?_
    refine c_seq ?_
    refine c_plain (.q 0 (.q 1 (.done))) (by kernel_rfl) ?_
    refine q_int rfl rfl rfl rfl rfl (b_eql _ _ _ _) ?_
    refine q_assign rfl rfl rfl rfl ?_
    refine r_done ?_
    refine k_then_n ?_
    refine c_cond_p rfl (fun k7 => ?_) (fun k7 => ?_)
    ·
     refine s_eq 14 rfl (v' := .bool true) (by rw [decide_eq_true k7]) ?_
     refine c_skip ?_
     refine k_then_n ?_
     refine c_cond_t rfl ?_
     refine c_seq ?_
     have hrel : relK k := by unfold relK; omega
     refine s_rest_take (F := F1) (T := x.th) (S := []) t (by with_reducible (repeat (first | exact Z0 | apply Z1))) (by simp) hth fun tv htF => ?_
     refine s_vec (by with_reducible (repeat (first | exact Z0 | apply Z1))) fun tb ta tc hta => ?_
     subst hta
     refine c_plain (.q 0 (.q 1 (.q 2 ((.l 3 [] (.q 4 (.q 5 (.done)))))))) (by kernel_rfl) ?_
     refine q_move rfl rfl rfl rfl ?_
     refine q_field (k := 1) rfl rfl rfl rfl Try.underlying40 rfl Try.sizeOf3 rfl ?_
     refine q_load_c (j := 1) rfl rfl rfl rfl Try.isAgg3 (by with_reducible (repeat (first | exact Z0 | apply Z1))) (by first | rfl | exact (Nat.add_zero _).symm) (by rfl) ?_
     have sp_4 := clock_spec b m1 (.pointer (some ⟨cb, 0, none⟩)) (.slice po x.ck.pa.length poc) (.map (some m2)) (.map (some m3)) (.map (some m4)) F1 tb (ta) (tc) l t (by omega) htF
     refine l_call rfl rfl rfl rfl rfl rfl Try.call48 (sp_4) (by (repeat ((with_reducible apply Z2); focus (first | (with_reducible (repeat (first | exact Z0 | apply Z1)); done) | (repeat (first | exact Z0 | apply Z1))))); exact Z3) ?_
     rintro ⟨⟩ -
     try simp only [List.cons_append, List.nil_append]
     refine ag_nil ?_
     refine q_int rfl rfl rfl rfl rfl (b_lss _ _ _ _) ?_
     refine q_assign rfl rfl rfl rfl ?_
     refine r_done ?_
     refine s_keep [4] (e' := [(4, _)]) rfl ?_
     refine k_then_n ?_
     refine c_ret ?_
     refine k_blk_ret ?_
     refine k_then_ret ?_
     refine s_vecF tb ta tc l (by (repeat ((with_reducible apply Z2); focus (first | (with_reducible (repeat (first | exact Z0 | apply Z1)); done) | (repeat (first | exact Z0 | apply Z1))))); exact Z3) ?_
     refine s_rest_put (F := F1) (T := x.th) (S := []) t F1 x.th (by (repeat ((with_reducible apply Z2); focus (first | (with_reducible (repeat (first | exact Z0 | apply Z1)); done) | (repeat (first | exact Z0 | apply Z1))))); exact Z3) (by simp) htF (fun _ _ _ => rfl) hth (fun _ _ _ => rfl) ?_
     refine vs_fold (b := b) x (pa := pa) (pc := pc) (po := po) (poc := poc) (cb := cb) (m1 := m1) (m2 := m2) (m3 := m3) (m4 := m4) (by (repeat ((with_reducible apply Z2); focus (first | (with_reducible (repeat (first | exact Z0 | apply Z1)); done) | (repeat (first | exact Z0 | apply Z1))))); exact Z3) (by rfl) (by rfl) ?_
     refine ret1 rfl rfl (()) (by congr 1; exact decide_eq_decide.2 (by unfold vcanF; rw [thF_eq hth]; exact ⟨fun h => ⟨hc, fun _ => h⟩, fun h => h.2 hrel⟩)) (by trivial) ?_
     (repeat ((with_reducible apply Z2); focus (first | (with_reducible (repeat (first | exact Z0 | apply Z1)); done) | (repeat (first | exact Z0 | apply Z1))))); (repeat (first | exact Z3 | exact Takes.self | refine takes_drop2 ?_))
    ·
     refine s_eq 14 rfl (v' := .bool false) (by rw [decide_eq_false k7]) ?_
     refine c_plain (.q 0 (.q 1 (.done))) (by kernel_rfl) ?_
     refine q_int rfl rfl rfl rfl rfl (b_eql _ _ _ _) ?_
     refine q_assign rfl rfl rfl rfl ?_
     refine r_done ?_
     refine k_then_n ?_
     refine c_cond_p rfl (fun k9 => ?_) (fun k9 => ?_)
     ·
      refine s_eq 14 rfl (v' := .bool true) (by rw [decide_eq_true k9]) ?_
      refine c_seq ?_
      have hrel : relK k := by unfold relK; omega
      refine s_rest_take (F := F1) (T := x.th) (S := []) t (by with_reducible (repeat (first | exact Z0 | apply Z1))) (by simp) hth fun tv htF => ?_
      refine s_vec (by with_reducible (repeat (first | exact Z0 | apply Z1))) fun tb ta tc hta => ?_
      subst hta
      refine c_plain (.q 0 (.q 1 (.q 2 ((.l 3 [] (.q 4 (.q 5 (.done)))))))) (by kernel_rfl) ?_
      refine q_move rfl rfl rfl rfl ?_
      refine q_field (k := 1) rfl rfl rfl rfl Try.underlying40 rfl Try.sizeOf3 rfl ?_
      refine q_load_c (j := 1) rfl rfl rfl rfl Try.isAgg3 (by with_reducible (repeat (first | exact Z0 | apply Z1))) (by first | rfl | exact (Nat.add_zero _).symm) (by rfl) ?_
      have sp_5 := clock_spec b m1 (.pointer (some ⟨cb, 0, none⟩)) (.slice po x.ck.pa.length poc) (.map (some m2)) (.map (some m3)) (.map (some m4)) F1 tb (ta) (tc) l t (by omega) htF
      refine l_call rfl rfl rfl rfl rfl rfl Try.call48 (sp_5) (by (repeat ((with_reducible apply Z2); focus (first | (with_reducible (repeat (first | exact Z0 | apply Z1)); done) | (repeat (first | exact Z0 | apply Z1))))); exact Z3) ?_
      rintro ⟨⟩ -
      try simp only [List.cons_append, List.nil_append]
      refine ag_nil ?_
      refine q_int rfl rfl rfl rfl rfl (b_lss _ _ _ _) ?_
      refine q_assign rfl rfl rfl rfl ?_
      refine r_done ?_
      refine s_keep [4] (e' := [(4, _)]) rfl ?_
      refine k_then_n ?_
      refine c_ret ?_
      refine k_blk_ret ?_
      refine k_then_ret ?_
      refine s_vecF tb ta tc l (by (repeat ((with_reducible apply Z2); focus (first | (with_reducible (repeat (first | exact Z0 | apply Z1)); done) | (repeat (first | exact Z0 | apply Z1))))); exact Z3) ?_
      refine s_rest_put (F := F1) (T := x.th) (S := []) t F1 x.th (by (repeat ((with_reducible apply Z2); focus (first | (with_reducible (repeat (first | exact Z0 | apply Z1)); done) | (repeat (first | exact Z0 | apply Z1))))); exact Z3) (by simp) htF (fun _ _ _ => rfl) hth (fun _ _ _ => rfl) ?_
      refine vs_fold (b := b) x (pa := pa) (pc := pc) (po := po) (poc := poc) (cb := cb) (m1 := m1) (m2 := m2) (m3 := m3) (m4 := m4) (by (repeat ((with_reducible apply Z2); focus (first | (with_reducible (repeat (first | exact Z0 | apply Z1)); done) | (repeat (first | exact Z0 | apply Z1))))); exact Z3) (by rfl) (by rfl) ?_
      refine ret1 rfl rfl (()) (by congr 1; exact decide_eq_decide.2 (by unfold vcanF; rw [thF_eq hth]; exact ⟨fun h => ⟨hc, fun _ => h⟩, fun h => h.2 hrel⟩)) (by trivial) ?_
      (repeat ((with_reducible apply Z2); focus (first | (with_reducible (repeat (first | exact Z0 | apply Z1)); done) | (repeat (first | exact Z0 | apply Z1))))); (repeat (first | exact Z3 | exact Takes.self | refine takes_drop2 ?_))
     ·
      refine s_eq 14 rfl (v' := .bool false) (by rw [decide_eq_false k9]) ?_
      refine c_skip ?_
      refine k_blk_n ?_
      refine k_then_n ?_
      refine c_seq ?_
      refine c_plain (.q 0 (.done)) (by kernel_rfl) ?_
      refine q_assign rfl rfl rfl rfl ?_
      refine r_done ?_
      refine s_keep [4] (e' := [(4, _)]) rfl ?_
      refine k_then_n ?_
      refine c_ret ?_
      refine vs_fold (b := b) x (pa := pa) (pc := pc) (po := po) (poc := poc) (cb := cb) (m1 := m1) (m2 := m2) (m3 := m3) (m4 := m4) (by (repeat ((with_reducible apply Z2); focus (first | (with_reducible (repeat (first | exact Z0 | apply Z1)); done) | (repeat (first | exact Z0 | apply Z1))))); exact Z3) (by rfl) (by rfl) ?_
      refine ret1 rfl rfl (()) (by have hv : vcanF x k t o := ⟨hc, fun h => by unfold relK at h; omega⟩; rw [decide_eq_true hv]) (by trivial) ?_
      (repeat ((with_reducible apply Z2); focus (first | (with_reducible (repeat (first | exact Z0 | apply Z1)); done) | (repeat (first | exact Z0 | apply Z1))))); (repeat (first | exact Z3 | exact Takes.self | refine takes_drop2 ?_))

theorem depart_spec (pa : Option Addr) (pc : Nat) (po : Option Addr) (poc b : Nat) (x : VS) (hx : VInv x) (k t o : Int) (h2 : (stF x.ck t).1 = 2) (ho : o = (stF x.ck t).2.1) : Spec Try.prog 68 [.pointer (some ⟨b, 0, none⟩), .agg #[.int .i64 k, .int .i64 t, .int .i64 o]] [vsR pa pc po poc b x] (fun (_ : Unit) => .tuple #[]) (fun _ => True) (fun _ => [vsR pa pc po poc b (dpF x t o)]) := by
 refine spec_mk (n := 58) Try.func68 rfl rfl rfl ?_
 intro Γ w0
 simp only [argE, List.cons_append, List.nil_append, Nat.zero_add, Nat.reduceAdd]
 refine c_seq ?_
 refine c_plain ((.l 0 [] (.done))) (by kernel_rfl) ?_
 refine l_box rfl rfl rfl rfl (us := [_, _, _]) rfl ?_
 intro b3
 refine ag_nil ?_
 refine r_done ?_
 refine k_then_n ?_
 refine c_seq ?_
 obtain ⟨l, hth⟩ := th_some hx (t := t) (by omega)
 obtain ⟨h0, h1⟩ := th_rng hx (t := t) (by omega)
 obtain ⟨p, hrd, hp1⟩ := rd_some hx h2 ho
 have hpc := hx.rdc _ _ hrd
 have hps := hx.rds _ _ hrd
 have hrf : rdF x (o, (stF x.ck t).2.2) = p := by rw [rdF, hrd]; rfl
 have htf := thF_eq hth
 have hlc := hx.thc _ _ hth
 refine s_take (A := vsR pa pc po poc b x) (by with_reducible (repeat (first | exact Z0 | apply Z1))) ?_
 refine vs_open fun cb m1 m2 m3 m4 F1 F2 F3 F4 => ?_
 refine c_draw rfl (.q 0 (.q 1 (.q 2 (.q 3 (.q 4 (.q 5 ((.alt (.l 6 [] (.q 7 (.q 8 (.q 9 ((.l 10 [] ((.l 11 [] (.q 12 (.done)))))))))) (.l 10 [3, 5] ((.l 6 [] (.q 7 (.q 8 (.q 9 ((.l 11 [] (.q 12 (.done)))))))))))))))))) (by kernel_rfl) ?_
 refine q_move rfl rfl rfl rfl ?_
 refine q_nil_p rfl rfl rfl rfl ?_
 refine q_field (k := 0) rfl rfl rfl rfl Try.underlying87 rfl Try.sizeOf83 rfl ?_
 refine q_load_c (j := 0) rfl rfl rfl rfl Try.isAgg83 (by with_reducible (repeat (first | exact Z0 | apply Z1))) (by first | rfl | exact (Nat.add_zero _).symm) (by rfl) ?_
 refine q_field (k := 1) rfl rfl rfl rfl Try.underlying40 rfl Try.sizeOf3 rfl ?_
 refine q_load_c (j := 1) rfl rfl rfl rfl Try.isAgg3 (by with_reducible (repeat (first | exact Z0 | apply Z1))) (by first | rfl | exact (Nat.add_zero _).symm) (by rfl) ?_
 refine r_alt ?_ ?_
 ·
  have sp_1 := Fe.stand_spec pa pc cb x.ck t
  refine l_call rfl rfl rfl rfl rfl rfl Try.call79 (sp_1) (by (repeat ((with_reducible apply Z2); focus (first | (with_reducible (repeat (first | exact Z0 | apply Z1)); done) | (repeat (first | exact Z0 | apply Z1))))); exact Z3) ?_
  rintro ⟨⟩ -
  try simp only [List.cons_append, List.nil_append]
  refine ag_nil ?_
  refine q_move rfl rfl rfl rfl ?_
  refine q_extract rfl rfl rfl rfl rfl ?_
  refine q_extract rfl rfl rfl rfl rfl ?_
  refine l_alloc rfl rfl rfl Try.zeroValue79 (zs := [.int .i64 0, .int .i64 0, .int .i64 0]) rfl ?_
  intro b4
  refine ag_nil ?_
  refine l_store (j := 0) rfl rfl rfl rfl Try.sizeOf79 (us := [_, _, _]) rfl rfl rfl (by with_reducible (repeat (first | exact Z0 | apply Z1))) (by first | rfl | exact (Nat.add_zero _).symm) (by first | decide | (simp; done) | omega) ?_
  simp only [setL, List.set]
  refine ag_nil ?_
  refine q_assign rfl rfl rfl rfl ?_
  refine r_done ?_
  refine s_keep [0, 3, 4] (e' := [(0, _), (3, _), (4, _)]) rfl ?_
  refine k_then_n ?_
  refine c_seq ?_
  refine c_plain (.q 0 (.q 1 (.q 2 (.q 3 (.q 4 ((.l 5 [] ((.l 6 [] (.done)))))))))) (by kernel_rfl) ?_
  refine q_field (k := 2) rfl rfl rfl rfl Try.underlying40 rfl Try.sizeOf3 rfl ?_
  refine q_load_c (j := 2) rfl rfl rfl rfl Try.isAgg3 (by with_reducible (repeat (first | exact Z0 | apply Z1))) (by first | rfl | exact (Nat.add_zero _).symm) (by rfl) ?_
  refine q_field (k := 2) rfl rfl rfl rfl Try.underlying79 rfl Try.sizeOf3 rfl ?_
  refine q_load_c (j := 2) rfl rfl rfl rfl Try.isAgg3 (by with_reducible (repeat (first | exact Z0 | apply Z1))) (by first | rfl | exact (Nat.add_zero _).symm) (by rfl) ?_
  refine q_build rfl rfl rfl rfl (vs := [_, _]) (run_buildS Try.underlying138 Try.zeroValue138 (ps := [(0, 1), (1, 1)]) ⟨rfl, Try.sizeOf3, rfl, Try.sizeOf3, trivial⟩ rfl) ?_
  refine l_alloc rfl rfl rfl Try.zeroValue138 (zs := [.int .i64 0, .int .i64 0]) rfl ?_
  intro b6
  refine ag_nil ?_
  refine l_store (j := 0) rfl rfl rfl rfl Try.sizeOf138 (us := [_, _]) rfl rfl rfl (by with_reducible (repeat (first | exact Z0 | apply Z1))) (by first | rfl | exact (Nat.add_zero _).symm) (by first | decide | (simp; done) | omega) ?_
  simp only [setL, List.set]
  refine ag_nil ?_
  refine r_done ?_
  refine s_keep [0, 3, 6] (e' := [(0, _), (3, _), (6, _)]) rfl ?_
  refine k_then_n ?_
  refine c_seq ?_
  refine s_rest_take (F := F4) (T := x.rd) (S := []) (o, (stF x.ck t).2.2) (by with_reducible (repeat (first | exact Z0 | apply Z1))) (by simp) hrd fun rv hrF => ?_
  refine s_held (by with_reducible (repeat (first | exact Z0 | apply Z1))) fun hrs => ?_
  obtain ⟨rva, rvs⟩ := rv
  simp only at hrs
  subst hrs
  refine s_vec (by with_reducible (repeat (first | exact Z0 | apply Z1))) fun rb ra rc hra => ?_
  simp only at hra
  subst hra
  refine c_draw rfl (.q 0 (.q 1 (.q 2 (.q 3 (.q 4 (.q 5 ((.l 6 [3, 4, 5] ((.l 7 [] (.done))))))))))) (by kernel_rfl) ?_
  refine q_move rfl rfl rfl rfl ?_
  refine q_nil_p rfl rfl rfl rfl ?_
  refine q_field (k := 5) rfl rfl rfl rfl Try.underlying87 rfl Try.sizeOf85 rfl ?_
  refine q_load_c (j := 5) rfl rfl rfl rfl Try.isAgg85 (by with_reducible (repeat (first | exact Z0 | apply Z1))) (by first | rfl | exact (Nat.add_zero _).symm) (by rfl) ?_
  refine q_loadN_c rfl rfl rfl rfl Try.isAgg138 Try.sizeOf138 (by with_reducible (repeat (first | exact Z0 | apply Z1))) 0 (us := [_, _]) (by first | rfl | exact (Nat.add_zero _).symm) rfl rfl ?_
  refine q_lookup1 (ek := ek2) (ev1 := evH) (F := F4) (m := m4) (k := (o, (stF x.ck t).2.2)) (none, 0) rfl rfl rfl rfl rfl Try.underlying85 (keyOK_pair Try.underlying138 rfl rfl rfl rfl Try.underlying3 Try.underlying3 Try.isAgg3 Try.isAgg3 (by kernel_rfl)) Try.zeroValue140 (by with_reducible (repeat (first | exact Z0 | apply Z1))) ?_
  refine s_eq 28 rfl (v' := .agg #[.pointer (some ⟨rb, 0, none⟩), .int .i64 p.2]) (by rw [hrF]; rfl) ?_
  refine l_alloc rfl rfl rfl Try.zeroValue140 (zs := [.pointer none, .int .i64 0]) rfl ?_
  intro b7
  refine ag_load_c (q := 5) rfl rfl rfl Try.isAgg85 (by with_reducible (repeat (first | exact Z0 | apply Z1))) (by first | rfl | exact (Nat.add_zero _).symm) (by rfl) ?_
  refine ag_loadN_c rfl rfl (us := [_, _]) rfl Try.isAgg138 Try.sizeOf138 (by with_reducible (repeat (first | exact Z0 | apply Z1))) 0 (by first | rfl | exact (Nat.add_zero _).symm) rfl rfl ?_
  refine ag_lookup1 (ek := ek2) (ev1 := evH) (F := F4) (m := m4) (k := (o, (stF x.ck t).2.2)) (none, 0) rfl rfl (by first | rfl | (rw [hrF]; rfl)) rfl rfl Try.underlying85 (keyOK_pair Try.underlying138 rfl rfl rfl rfl Try.underlying3 Try.underlying3 Try.isAgg3 Try.isAgg3 (by kernel_rfl)) Try.zeroValue140 (by with_reducible (repeat (first | exact Z0 | apply Z1))) ?_
  refine ag_nil ?_
  refine l_store (j := 0) rfl rfl rfl rfl Try.sizeOf140 (us := [_, _]) rfl rfl rfl (by with_reducible (repeat (first | exact Z0 | apply Z1))) (by first | rfl | exact (Nat.add_zero _).symm) (by first | decide | (simp; done) | omega) ?_
  simp only [setL, List.set]
  refine ag_nil ?_
  refine r_done ?_
  refine s_keep [0, 3, 6, 7] (e' := [(0, _), (3, _), (6, _), (7, _)]) rfl ?_
  refine k_then_n ?_
  refine c_seq ?_
  refine s_rest_take (F := F1) (T := x.th) (S := []) t (by with_reducible (repeat (first | exact Z0 | apply Z1))) (by simp) hth fun tv htF => ?_
  refine s_vec (by with_reducible (repeat (first | exact Z0 | apply Z1))) fun tb ta tc hta => ?_
  subst hta
  refine c_draw rfl (.q 0 (.q 1 (.q 2 (.q 3 (.q 4 (.q 5 (.q 6 (.q 7 (.q 8 ((.l 9 [3, 5, 6] ((.l 10 [] (.done)))))))))))))) (by kernel_rfl) ?_
  refine q_move rfl rfl rfl rfl ?_
  refine q_nil_p rfl rfl rfl rfl ?_
  refine q_field (k := 2) rfl rfl rfl rfl Try.underlying87 rfl Try.sizeOf84 rfl ?_
  refine q_load_c (j := 2) rfl rfl rfl rfl Try.isAgg84 (by with_reducible (repeat (first | exact Z0 | apply Z1))) (by first | rfl | exact (Nat.add_zero _).symm) (by rfl) ?_
  refine q_field (k := 1) rfl rfl rfl rfl Try.underlying40 rfl Try.sizeOf3 rfl ?_
  refine q_load_c (j := 1) rfl rfl rfl rfl Try.isAgg3 (by with_reducible (repeat (first | exact Z0 | apply Z1))) (by first | rfl | exact (Nat.add_zero _).symm) (by rfl) ?_
  refine q_lookup1 (ek := ekZ) (ev1 := evA) (F := F1) (m := m1) (k := t) none rfl rfl rfl rfl rfl Try.underlying84 (keyOK_int Try.underlying3) Try.zeroValue82 (by with_reducible (repeat (first | exact Z0 | apply Z1))) ?_
  refine s_eq 35 rfl (v' := .pointer (some ⟨tb, 0, none⟩)) (by rw [htF]; rfl) ?_
  refine q_field (k := 0) rfl rfl rfl rfl Try.underlying140 rfl Try.sizeOf82 rfl ?_
  refine q_load_c (j := 0) rfl rfl rfl rfl Try.isAgg82 (by with_reducible (repeat (first | exact Z0 | apply Z1))) (by first | rfl | exact (Nat.add_zero _).symm) (by rfl) ?_
  refine l_buildSlice rfl rfl rfl rfl (run_build1 (us := [_]) Try.underlying150 Try.sizeOf82 rfl Try.zeroValue82 rfl rfl rfl) ?_
  intro b38
  refine ag_load_c (q := 2) rfl rfl rfl Try.isAgg84 (by with_reducible (repeat (first | exact Z0 | apply Z1))) (by first | rfl | exact (Nat.add_zero _).symm) (by rfl) ?_
  refine ag_load_c (q := 1) rfl rfl rfl Try.isAgg3 (by with_reducible (repeat (first | exact Z0 | apply Z1))) (by first | rfl | exact (Nat.add_zero _).symm) (by rfl) ?_
  refine ag_lookup1 (ek := ekZ) (ev1 := evA) (F := F1) (m := m1) (k := t) none rfl rfl (by first | rfl | (rw [htF]; rfl)) rfl rfl Try.underlying84 (keyOK_int Try.underlying3) Try.zeroValue82 (by with_reducible (repeat (first | exact Z0 | apply Z1))) ?_
  refine ag_nil ?_
  refine s_big_nil (f := kf) ?_
  refine s_heap (fun _ h => Bun.fold ((by (repeat ((with_reducible apply Z2); focus (first | (with_reducible (repeat (first | exact Z0 | apply Z1)); done) | (repeat (first | exact Z0 | apply Z1))))); exact Z3 : Takes _ [cells rb 0 [.slice ra p.1.length rc], own 1 encU ra rc p.1] _) _ h)) ?_
  refine s_big_push (f := kf) (L := []) (x := (rb, ra, rc, p.1)) (by (repeat ((with_reducible apply Z2); focus (first | (with_reducible (repeat (first | exact Z0 | apply Z1)); done) | (repeat (first | exact Z0 | apply Z1))))); exact Z3) ?_
  simp only [List.nil_append]
  have sp_2 := Vc.join_spec tb l ta l.length tc (by first | rfl | assumption | omega | (simp; done) | (simp; omega)) hlc [(rb, ra, rc, p.1)] [(rb, ra, rc, p.1)] (fun x hx => hx) (by intro x hx; simp at hx; subst hx; exact hpc) (some ⟨b38, 0, none⟩) 1 1 (cells b38 0 [.pointer (some ⟨rb, 0, none⟩)]) (rds_some rdn_cells) rfl (by decide)
  refine l_call rfl rfl rfl rfl rfl rfl Try.call78 (sp_2) (by (repeat ((with_reducible apply Z2); focus (first | (with_reducible (repeat (first | exact Z0 | apply Z1)); done) | (repeat (first | exact Z0 | apply Z1))))); exact Z3) ?_
  rintro ⟨ja, jc⟩ -
  try simp only [List.cons_append, List.nil_append]
  refine s_big_take (f := kf) (L := [(rb, ra, rc, p.1)]) (i := 0) (x := (rb, ra, rc, p.1)) (by with_reducible (repeat (first | exact Z0 | apply Z1))) rfl ?_
  refine s_bun ?_
  try simp only [List.cons_append, List.nil_append, List.eraseIdx_cons_zero]
  rw [show jnA l [(rb, ra, rc, p.1)] = jn l p.1 from rfl]
  try simp only [List.cons_append, List.nil_append]
  refine ag_nil ?_
  refine r_done ?_
  refine s_keep [0, 6, 7] (e' := [(0, _), (6, _), (7, _)]) rfl ?_
  refine k_then_n ?_
  refine c_seq ?_
  refine c_seq ?_
  refine c_plain (.q 0 (.q 1 (.q 2 (.q 3 ((.l 4 [] (.done))))))) (by kernel_rfl) ?_
  refine q_field (k := 1) rfl rfl rfl rfl Try.underlying140 rfl Try.sizeOf3 rfl ?_
  refine q_load_c (j := 1) rfl rfl rfl rfl Try.isAgg3 (by with_reducible (repeat (first | exact Z0 | apply Z1))) (by first | rfl | exact (Nat.add_zero _).symm) (by rfl) ?_
  refine q_int rfl rfl rfl rfl rfl (b_sub' _ (by exact fits_i64 (by omega) (by omega))) ?_
  refine q_field (k := 1) rfl rfl rfl rfl Try.underlying140 rfl Try.sizeOf3 rfl ?_
  refine l_store (j := 1) rfl rfl rfl rfl Try.sizeOf3 (us := [_]) rfl rfl rfl (by with_reducible (repeat (first | exact Z0 | apply Z1))) (by first | rfl | exact (Nat.add_zero _).symm) (by first | decide | (simp; done) | omega) ?_
  simp only [setL, List.set]
  refine ag_nil ?_
  refine r_done ?_
  refine s_keep [0, 6, 7] (e' := [(0, _), (6, _), (7, _)]) rfl ?_
  refine k_then_n ?_
  refine c_seq ?_
  refine c_plain (.q 0 (.q 1 (.q 2 (.done)))) (by kernel_rfl) ?_
  refine q_field (k := 1) rfl rfl rfl rfl Try.underlying140 rfl Try.sizeOf3 rfl ?_
  refine q_load_c (j := 1) rfl rfl rfl rfl Try.isAgg3 (by with_reducible (repeat (first | exact Z0 | apply Z1))) (by first | rfl | exact (Nat.add_zero _).symm) (by rfl) ?_
  refine q_int rfl rfl rfl rfl rfl (b_leq _ _ _ _) ?_
  refine r_done ?_
  refine k_then_n ?_
  refine c_cond_p rfl (fun hz => ?_) (fun hz => ?_)
  ·
   refine c_seq ?_
   refine c_draw rfl (.q 0 (.q 1 (.q 2 (.q 3 (.q 4 ((.l 5 [] (.done)))))))) (by kernel_rfl) ?_
   refine q_move rfl rfl rfl rfl ?_
   refine q_nil_p rfl rfl rfl rfl ?_
   refine q_field (k := 5) rfl rfl rfl rfl Try.underlying87 rfl Try.sizeOf85 rfl ?_
   refine q_load_c (j := 5) rfl rfl rfl rfl Try.isAgg85 (by with_reducible (repeat (first | exact Z0 | apply Z1))) (by first | rfl | exact (Nat.add_zero _).symm) (by rfl) ?_
   refine q_loadN_c rfl rfl rfl rfl Try.isAgg138 Try.sizeOf138 (by with_reducible (repeat (first | exact Z0 | apply Z1))) 0 (us := [_, _]) (by first | rfl | exact (Nat.add_zero _).symm) rfl rfl ?_
   refine l_delete (ek := ek2) (ev1 := evH) (F := F4) (m := m4) (k := (o, (stF x.ck t).2.2)) rfl rfl rfl rfl Try.underlying85 (keyOK_pair Try.underlying138 rfl rfl rfl rfl Try.underlying3 Try.underlying3 Try.isAgg3 Try.isAgg3 (by kernel_rfl)) (by with_reducible (repeat (first | exact Z0 | apply Z1))) ?_
   refine ag_nil ?_
   refine r_done ?_
   refine s_rest_none (F := F4) (T := x.rd) (S := []) (o, (stF x.ck t).2.2) (upd F4 (o, (stF x.ck t).2.2) none) (upd x.rd (o, (stF x.ck t).2.2) none) (by with_reducible (repeat (first | exact Z0 | apply Z1))) upd_same (fun q h _ => upd_ne h) upd_same (fun q h _ => upd_ne h) ?_
   refine s_vecF tb ja jc (jn l p.1) (by (repeat ((with_reducible apply Z2); focus (first | (with_reducible (repeat (first | exact Z0 | apply Z1)); done) | (repeat (first | exact Z0 | apply Z1))))); exact Z3) ?_
   refine s_rest_put (F := F1) (T := x.th) (S := []) t F1 (upd x.th t (some (jn l p.1))) (by (repeat ((with_reducible apply Z2); focus (first | (with_reducible (repeat (first | exact Z0 | apply Z1)); done) | (repeat (first | exact Z0 | apply Z1))))); exact Z3) (by simp) htF (fun _ _ _ => rfl) upd_same (fun q h _ => upd_ne h) ?_
   refine s_keep [] (e' := []) rfl ?_
   refine k_then_n ?_
   refine c_ret ?_
   refine k_then_ret ?_
   refine vs_fold (b := b) (dpF x t o) (pa := pa) (pc := pc) (po := po) (poc := poc) (cb := cb) (m1 := m1) (m2 := m2) (m3 := m3) (m4 := m4) (by (repeat ((with_reducible apply Z2); focus (first | (with_reducible (repeat (first | exact Z0 | apply Z1)); done) | (repeat (first | exact Z0 | apply Z1))))); exact Z3) (by rw [dpF, hrf, htf, if_pos hz]) (by rfl) ?_
   refine ret0 rfl (()) (by first | rfl | (first | rfl | (congr 1; done) | (congr 1 <;> first | rfl | omega | (simp; done) | (simp; omega)))) (by trivial) ?_
   (repeat ((with_reducible apply Z2); focus (first | (with_reducible (repeat (first | exact Z0 | apply Z1)); done) | (repeat (first | exact Z0 | apply Z1))))); (repeat (first | exact Z3 | exact Takes.self | refine takes_drop2 ?_))
  ·
   refine c_skip ?_
   refine k_then_n ?_
   refine c_draw rfl (.q 0 (.q 1 (.q 2 (.q 3 (.q 4 (.q 5 ((.l 6 [] (.done))))))))) (by kernel_rfl) ?_
   refine q_move rfl rfl rfl rfl ?_
   refine q_nil_p rfl rfl rfl rfl ?_
   refine q_field (k := 5) rfl rfl rfl rfl Try.underlying87 rfl Try.sizeOf85 rfl ?_
   refine q_load_c (j := 5) rfl rfl rfl rfl Try.isAgg85 (by with_reducible (repeat (first | exact Z0 | apply Z1))) (by first | rfl | exact (Nat.add_zero _).symm) (by rfl) ?_
   refine q_loadN_c rfl rfl rfl rfl Try.isAgg138 Try.sizeOf138 (by with_reducible (repeat (first | exact Z0 | apply Z1))) 0 (us := [_, _]) (by first | rfl | exact (Nat.add_zero _).symm) rfl rfl ?_
   refine q_loadN_c rfl rfl rfl rfl Try.isAgg140 Try.sizeOf140 (by with_reducible (repeat (first | exact Z0 | apply Z1))) 0 (us := [_, _]) (by first | rfl | exact (Nat.add_zero _).symm) rfl rfl ?_
   refine l_mapUpd (ek := ek2) (ev1 := evH) (F := F4) (m := m4) (k := (o, (stF x.ck t).2.2)) (v := ((some ⟨rb, 0, none⟩ : Option Addr), p.2 - 1)) (by first | exact .inl rfl | exact .inr rfl) rfl rfl rfl rfl Try.underlying85 (keyOK_pair Try.underlying138 rfl rfl rfl rfl Try.underlying3 Try.underlying3 Try.isAgg3 Try.isAgg3 (by kernel_rfl)) (by with_reducible (repeat (first | exact Z0 | apply Z1))) ?_
   refine ag_nil ?_
   refine r_done ?_
   refine s_keep [] (e' := []) rfl ?_
   refine ret_end ?_
   refine s_vecF rb ra rc p.1 (by (repeat ((with_reducible apply Z2); focus (first | (with_reducible (repeat (first | exact Z0 | apply Z1)); done) | (repeat (first | exact Z0 | apply Z1))))); exact Z3) ?_
   refine s_heldF (some ⟨rb, 0, none⟩, p.2 - 1) (p.1, p.2 - 1) (by first | (with_reducible (repeat (first | exact Z0 | apply Z1)); done) | (repeat (first | exact Z0 | apply Z1))) rfl ?_
   refine s_rest_put (F := F4) (T := x.rd) (S := []) (o, (stF x.ck t).2.2) (upd F4 (o, (stF x.ck t).2.2) (some (some ⟨rb, 0, none⟩, p.2 - 1))) (upd x.rd (o, (stF x.ck t).2.2) (some (p.1, p.2 - 1))) (by (repeat ((with_reducible apply Z2); focus (first | (with_reducible (repeat (first | exact Z0 | apply Z1)); done) | (repeat (first | exact Z0 | apply Z1))))); exact Z3) (by simp) upd_same (fun q h _ => upd_ne h) upd_same (fun q h _ => upd_ne h) ?_
   refine s_vecF tb ja jc (jn l p.1) (by (repeat ((with_reducible apply Z2); focus (first | (with_reducible (repeat (first | exact Z0 | apply Z1)); done) | (repeat (first | exact Z0 | apply Z1))))); exact Z3) ?_
   refine s_rest_put (F := F1) (T := x.th) (S := []) t F1 (upd x.th t (some (jn l p.1))) (by (repeat ((with_reducible apply Z2); focus (first | (with_reducible (repeat (first | exact Z0 | apply Z1)); done) | (repeat (first | exact Z0 | apply Z1))))); exact Z3) (by simp) htF (fun _ _ _ => rfl) upd_same (fun q h _ => upd_ne h) ?_
   refine vs_fold (b := b) (dpF x t o) (pa := pa) (pc := pc) (po := po) (poc := poc) (cb := cb) (m1 := m1) (m2 := m2) (m3 := m3) (m4 := m4) (by (repeat ((with_reducible apply Z2); focus (first | (with_reducible (repeat (first | exact Z0 | apply Z1)); done) | (repeat (first | exact Z0 | apply Z1))))); exact Z3) (by rw [dpF, hrf, htf, if_neg hz]) (by rfl) ?_
   refine ret0 rfl (()) (by first | rfl | (first | rfl | (congr 1; done) | (congr 1 <;> first | rfl | omega | (simp; done) | (simp; omega)))) (by trivial) ?_
   (repeat ((with_reducible apply Z2); focus (first | (with_reducible (repeat (first | exact Z0 | apply Z1)); done) | (repeat (first | exact Z0 | apply Z1))))); (repeat (first | exact Z3 | exact Takes.self | refine takes_drop2 ?_))
 refine l_alloc rfl rfl rfl Try.zeroValue79 (zs := [.int .i64 0, .int .i64 0, .int .i64 0]) rfl ?_
 intro b4
 refine ag_load_c (q := 0) rfl rfl rfl Try.isAgg83 (by with_reducible (repeat (first | exact Z0 | apply Z1))) (by first | rfl | exact (Nat.add_zero _).symm) (by rfl) ?_
 refine ag_load_c (q := 1) rfl rfl rfl Try.isAgg3 (by with_reducible (repeat (first | exact Z0 | apply Z1))) (by first | rfl | exact (Nat.add_zero _).symm) (by rfl) ?_
 refine ag_nil ?_
 have sp_3 := Fe.stand_spec pa pc cb x.ck t
 refine l_call rfl rfl rfl rfl rfl rfl Try.call79 (sp_3) (by (repeat ((with_reducible apply Z2); focus (first | (with_reducible (repeat (first | exact Z0 | apply Z1)); done) | (repeat (first | exact Z0 | apply Z1))))); exact Z3) ?_
 rintro ⟨⟩ -
 try simp only [List.cons_append, List.nil_append]
 refine ag_nil ?_
 refine q_move rfl rfl rfl rfl ?_
 refine q_extract rfl rfl rfl rfl rfl ?_
 refine q_extract rfl rfl rfl rfl rfl ?_
 refine l_store (j := 0) rfl rfl rfl rfl Try.sizeOf79 (us := [_, _, _]) rfl rfl rfl (by with_reducible (repeat (first | exact Z0 | apply Z1))) (by first | rfl | exact (Nat.add_zero _).symm) (by first | decide | (simp; done) | omega) ?_
 simp only [setL, List.set]
 refine ag_nil ?_
 refine q_assign rfl rfl rfl rfl ?_
 refine r_done ?_
 refine s_keep [0, 3, 4] (e' := [(0, _), (3, _), (4, _)]) rfl ?_
 refine k_then_n ?_
 refine c_seq ?_
 refine c_plain (.q 0 (.q 1 (.q 2 (.q 3 (.q 4 ((.l 5 [] ((.l 6 [] (.done)))))))))) (by kernel_rfl) ?_
 refine q_field (k := 2) rfl rfl rfl rfl Try.underlying40 rfl Try.sizeOf3 rfl ?_
 refine q_load_c (j := 2) rfl rfl rfl rfl Try.isAgg3 (by with_reducible (repeat (first | exact Z0 | apply Z1))) (by first | rfl | exact (Nat.add_zero _).symm) (by rfl) ?_
 refine q_field (k := 2) rfl rfl rfl rfl Try.underlying79 rfl Try.sizeOf3 rfl ?_
 refine q_load_c (j := 2) rfl rfl rfl rfl Try.isAgg3 (by with_reducible (repeat (first | exact Z0 | apply Z1))) (by first | rfl | exact (Nat.add_zero _).symm) (by rfl) ?_
 refine q_build rfl rfl rfl rfl (vs := [_, _]) (run_buildS Try.underlying138 Try.zeroValue138 (ps := [(0, 1), (1, 1)]) ⟨rfl, Try.sizeOf3, rfl, Try.sizeOf3, trivial⟩ rfl) ?_
 refine l_alloc rfl rfl rfl Try.zeroValue138 (zs := [.int .i64 0, .int .i64 0]) rfl ?_
 intro b6
 refine ag_nil ?_
 refine l_store (j := 0) rfl rfl rfl rfl Try.sizeOf138 (us := [_, _]) rfl rfl rfl (by with_reducible (repeat (first | exact Z0 | apply Z1))) (by first | rfl | exact (Nat.add_zero _).symm) (by first | decide | (simp; done) | omega) ?_
 simp only [setL, List.set]
 refine ag_nil ?_
 refine r_done ?_
 refine s_keep [0, 3, 6] (e' := [(0, _), (3, _), (6, _)]) rfl ?_
 refine k_then_n ?_
 refine c_seq ?_
 refine s_rest_take (F := F4) (T := x.rd) (S := []) (o, (stF x.ck t).2.2) (by with_reducible (repeat (first | exact Z0 | apply Z1))) (by simp) hrd fun rv hrF => ?_
 refine s_held (by with_reducible (repeat (first | exact Z0 | apply Z1))) fun hrs => ?_
 obtain ⟨rva, rvs⟩ := rv
 simp only at hrs
 subst hrs
 refine s_vec (by with_reducible (repeat (first | exact Z0 | apply Z1))) fun rb ra rc hra => ?_
 simp only at hra
 subst hra
 refine c_draw rfl (.q 0 (.q 1 (.q 2 (.q 3 (.q 4 (.q 5 ((.l 6 [3, 4, 5] ((.l 7 [] (.done))))))))))) (by kernel_rfl) ?_
 refine q_move rfl rfl rfl rfl ?_
 refine q_nil_p rfl rfl rfl rfl ?_
 refine q_field (k := 5) rfl rfl rfl rfl Try.underlying87 rfl Try.sizeOf85 rfl ?_
 refine q_load_c (j := 5) rfl rfl rfl rfl Try.isAgg85 (by with_reducible (repeat (first | exact Z0 | apply Z1))) (by first | rfl | exact (Nat.add_zero _).symm) (by rfl) ?_
 refine q_loadN_c rfl rfl rfl rfl Try.isAgg138 Try.sizeOf138 (by with_reducible (repeat (first | exact Z0 | apply Z1))) 0 (us := [_, _]) (by first | rfl | exact (Nat.add_zero _).symm) rfl rfl ?_
 refine q_lookup1 (ek := ek2) (ev1 := evH) (F := F4) (m := m4) (k := (o, (stF x.ck t).2.2)) (none, 0) rfl rfl rfl rfl rfl Try.underlying85 (keyOK_pair Try.underlying138 rfl rfl rfl rfl Try.underlying3 Try.underlying3 Try.isAgg3 Try.isAgg3 (by kernel_rfl)) Try.zeroValue140 (by with_reducible (repeat (first | exact Z0 | apply Z1))) ?_
 refine s_eq 28 rfl (v' := .agg #[.pointer (some ⟨rb, 0, none⟩), .int .i64 p.2]) (by rw [hrF]; rfl) ?_
 refine l_alloc rfl rfl rfl Try.zeroValue140 (zs := [.pointer none, .int .i64 0]) rfl ?_
 intro b7
 refine ag_load_c (q := 5) rfl rfl rfl Try.isAgg85 (by with_reducible (repeat (first | exact Z0 | apply Z1))) (by first | rfl | exact (Nat.add_zero _).symm) (by rfl) ?_
 refine ag_loadN_c rfl rfl (us := [_, _]) rfl Try.isAgg138 Try.sizeOf138 (by with_reducible (repeat (first | exact Z0 | apply Z1))) 0 (by first | rfl | exact (Nat.add_zero _).symm) rfl rfl ?_
 refine ag_lookup1 (ek := ek2) (ev1 := evH) (F := F4) (m := m4) (k := (o, (stF x.ck t).2.2)) (none, 0) rfl rfl (by first | rfl | (rw [hrF]; rfl)) rfl rfl Try.underlying85 (keyOK_pair Try.underlying138 rfl rfl rfl rfl Try.underlying3 Try.underlying3 Try.isAgg3 Try.isAgg3 (by kernel_rfl)) Try.zeroValue140 (by with_reducible (repeat (first | exact Z0 | apply Z1))) ?_
 refine ag_nil ?_
 refine l_store (j := 0) rfl rfl rfl rfl Try.sizeOf140 (us := [_, _]) rfl rfl rfl (by with_reducible (repeat (first | exact Z0 | apply Z1))) (by first | rfl | exact (Nat.add_zero _).symm) (by first | decide | (simp; done) | omega) ?_
 simp only [setL, List.set]
 refine ag_nil ?_
 refine r_done ?_
 refine s_keep [0, 3, 6, 7] (e' := [(0, _), (3, _), (6, _), (7, _)]) rfl ?_
 refine k_then_n ?_
 refine c_seq ?_
 refine s_rest_take (F := F1) (T := x.th) (S := []) t (by with_reducible (repeat (first | exact Z0 | apply Z1))) (by simp) hth fun tv htF => ?_
 refine s_vec (by with_reducible (repeat (first | exact Z0 | apply Z1))) fun tb ta tc hta => ?_
 subst hta
 refine c_draw rfl (.q 0 (.q 1 (.q 2 (.q 3 (.q 4 (.q 5 (.q 6 (.q 7 (.q 8 ((.l 9 [3, 5, 6] ((.l 10 [] (.done)))))))))))))) (by kernel_rfl) ?_
 refine q_move rfl rfl rfl rfl ?_
 refine q_nil_p rfl rfl rfl rfl ?_
 refine q_field (k := 2) rfl rfl rfl rfl Try.underlying87 rfl Try.sizeOf84 rfl ?_
 refine q_load_c (j := 2) rfl rfl rfl rfl Try.isAgg84 (by with_reducible (repeat (first | exact Z0 | apply Z1))) (by first | rfl | exact (Nat.add_zero _).symm) (by rfl) ?_
 refine q_field (k := 1) rfl rfl rfl rfl Try.underlying40 rfl Try.sizeOf3 rfl ?_
 refine q_load_c (j := 1) rfl rfl rfl rfl Try.isAgg3 (by with_reducible (repeat (first | exact Z0 | apply Z1))) (by first | rfl | exact (Nat.add_zero _).symm) (by rfl) ?_
 refine q_lookup1 (ek := ekZ) (ev1 := evA) (F := F1) (m := m1) (k := t) none rfl rfl rfl rfl rfl Try.underlying84 (keyOK_int Try.underlying3) Try.zeroValue82 (by with_reducible (repeat (first | exact Z0 | apply Z1))) ?_
 refine s_eq 35 rfl (v' := .pointer (some ⟨tb, 0, none⟩)) (by rw [htF]; rfl) ?_
 refine q_field (k := 0) rfl rfl rfl rfl Try.underlying140 rfl Try.sizeOf82 rfl ?_
 refine q_load_c (j := 0) rfl rfl rfl rfl Try.isAgg82 (by with_reducible (repeat (first | exact Z0 | apply Z1))) (by first | rfl | exact (Nat.add_zero _).symm) (by rfl) ?_
 refine l_buildSlice rfl rfl rfl rfl (run_build1 (us := [_]) Try.underlying150 Try.sizeOf82 rfl Try.zeroValue82 rfl rfl rfl) ?_
 intro b38
 refine ag_load_c (q := 2) rfl rfl rfl Try.isAgg84 (by with_reducible (repeat (first | exact Z0 | apply Z1))) (by first | rfl | exact (Nat.add_zero _).symm) (by rfl) ?_
 refine ag_load_c (q := 1) rfl rfl rfl Try.isAgg3 (by with_reducible (repeat (first | exact Z0 | apply Z1))) (by first | rfl | exact (Nat.add_zero _).symm) (by rfl) ?_
 refine ag_lookup1 (ek := ekZ) (ev1 := evA) (F := F1) (m := m1) (k := t) none rfl rfl (by first | rfl | (rw [htF]; rfl)) rfl rfl Try.underlying84 (keyOK_int Try.underlying3) Try.zeroValue82 (by with_reducible (repeat (first | exact Z0 | apply Z1))) ?_
 refine ag_nil ?_
 refine s_big_nil (f := kf) ?_
 refine s_heap (fun _ h => Bun.fold ((by (repeat ((with_reducible apply Z2); focus (first | (with_reducible (repeat (first | exact Z0 | apply Z1)); done) | (repeat (first | exact Z0 | apply Z1))))); exact Z3 : Takes _ [cells rb 0 [.slice ra p.1.length rc], own 1 encU ra rc p.1] _) _ h)) ?_
 refine s_big_push (f := kf) (L := []) (x := (rb, ra, rc, p.1)) (by (repeat ((with_reducible apply Z2); focus (first | (with_reducible (repeat (first | exact Z0 | apply Z1)); done) | (repeat (first | exact Z0 | apply Z1))))); exact Z3) ?_
 simp only [List.nil_append]
 have sp_4 := Vc.join_spec tb l ta l.length tc (by first | rfl | assumption | omega | (simp; done) | (simp; omega)) hlc [(rb, ra, rc, p.1)] [(rb, ra, rc, p.1)] (fun x hx => hx) (by intro x hx; simp at hx; subst hx; exact hpc) (some ⟨b38, 0, none⟩) 1 1 (cells b38 0 [.pointer (some ⟨rb, 0, none⟩)]) (rds_some rdn_cells) rfl (by decide)
 refine l_call rfl rfl rfl rfl rfl rfl Try.call78 (sp_4) (by (repeat ((with_reducible apply Z2); focus (first | (with_reducible (repeat (first | exact Z0 | apply Z1)); done) | (repeat (first | exact Z0 | apply Z1))))); exact Z3) ?_
 rintro ⟨ja, jc⟩ -
 try simp only [List.cons_append, List.nil_append]
 refine s_big_take (f := kf) (L := [(rb, ra, rc, p.1)]) (i := 0) (x := (rb, ra, rc, p.1)) (by with_reducible (repeat (first | exact Z0 | apply Z1))) rfl ?_
 refine s_bun ?_
 try simp only [List.cons_append, List.nil_append, List.eraseIdx_cons_zero]
 rw [show jnA l [(rb, ra, rc, p.1)] = jn l p.1 from rfl]
 try simp only [List.cons_append, List.nil_append]
 refine ag_nil ?_
 refine r_done ?_
 refine s_keep [0, 6, 7] (e' := [(0, _), (6, _), (7, _)]) rfl ?_
 refine k_then_n ?_
 refine c_seq ?_
 refine c_seq ?_
 refine c_plain (.q 0 (.q 1 (.q 2 (.q 3 ((.l 4 [] (.done))))))) (by kernel_rfl) ?_
 refine q_field (k := 1) rfl rfl rfl rfl Try.underlying140 rfl Try.sizeOf3 rfl ?_
 refine q_load_c (j := 1) rfl rfl rfl rfl Try.isAgg3 (by with_reducible (repeat (first | exact Z0 | apply Z1))) (by first | rfl | exact (Nat.add_zero _).symm) (by rfl) ?_
 refine q_int rfl rfl rfl rfl rfl (b_sub' _ (by exact fits_i64 (by omega) (by omega))) ?_
 refine q_field (k := 1) rfl rfl rfl rfl Try.underlying140 rfl Try.sizeOf3 rfl ?_
 refine l_store (j := 1) rfl rfl rfl rfl Try.sizeOf3 (us := [_]) rfl rfl rfl (by with_reducible (repeat (first | exact Z0 | apply Z1))) (by first | rfl | exact (Nat.add_zero _).symm) (by first | decide | (simp; done) | omega) ?_
 simp only [setL, List.set]
 refine ag_nil ?_
 refine r_done ?_
 refine s_keep [0, 6, 7] (e' := [(0, _), (6, _), (7, _)]) rfl ?_
 refine k_then_n ?_
 refine c_seq ?_
 refine c_plain (.q 0 (.q 1 (.q 2 (.done)))) (by kernel_rfl) ?_
 refine q_field (k := 1) rfl rfl rfl rfl Try.underlying140 rfl Try.sizeOf3 rfl ?_
 refine q_load_c (j := 1) rfl rfl rfl rfl Try.isAgg3 (by with_reducible (repeat (first | exact Z0 | apply Z1))) (by first | rfl | exact (Nat.add_zero _).symm) (by rfl) ?_
 refine q_int rfl rfl rfl rfl rfl (b_leq _ _ _ _) ?_
 refine r_done ?_
 refine k_then_n ?_
 refine c_cond_p rfl (fun hz => ?_) (fun hz => ?_)
 ·
  refine c_seq ?_
  refine c_draw rfl (.q 0 (.q 1 (.q 2 (.q 3 (.q 4 ((.l 5 [] (.done)))))))) (by kernel_rfl) ?_
  refine q_move rfl rfl rfl rfl ?_
  refine q_nil_p rfl rfl rfl rfl ?_
  refine q_field (k := 5) rfl rfl rfl rfl Try.underlying87 rfl Try.sizeOf85 rfl ?_
  refine q_load_c (j := 5) rfl rfl rfl rfl Try.isAgg85 (by with_reducible (repeat (first | exact Z0 | apply Z1))) (by first | rfl | exact (Nat.add_zero _).symm) (by rfl) ?_
  refine q_loadN_c rfl rfl rfl rfl Try.isAgg138 Try.sizeOf138 (by with_reducible (repeat (first | exact Z0 | apply Z1))) 0 (us := [_, _]) (by first | rfl | exact (Nat.add_zero _).symm) rfl rfl ?_
  refine l_delete (ek := ek2) (ev1 := evH) (F := F4) (m := m4) (k := (o, (stF x.ck t).2.2)) rfl rfl rfl rfl Try.underlying85 (keyOK_pair Try.underlying138 rfl rfl rfl rfl Try.underlying3 Try.underlying3 Try.isAgg3 Try.isAgg3 (by kernel_rfl)) (by with_reducible (repeat (first | exact Z0 | apply Z1))) ?_
  refine ag_nil ?_
  refine r_done ?_
  refine s_rest_none (F := F4) (T := x.rd) (S := []) (o, (stF x.ck t).2.2) (upd F4 (o, (stF x.ck t).2.2) none) (upd x.rd (o, (stF x.ck t).2.2) none) (by with_reducible (repeat (first | exact Z0 | apply Z1))) upd_same (fun q h _ => upd_ne h) upd_same (fun q h _ => upd_ne h) ?_
  refine s_vecF tb ja jc (jn l p.1) (by (repeat ((with_reducible apply Z2); focus (first | (with_reducible (repeat (first | exact Z0 | apply Z1)); done) | (repeat (first | exact Z0 | apply Z1))))); exact Z3) ?_
  refine s_rest_put (F := F1) (T := x.th) (S := []) t F1 (upd x.th t (some (jn l p.1))) (by (repeat ((with_reducible apply Z2); focus (first | (with_reducible (repeat (first | exact Z0 | apply Z1)); done) | (repeat (first | exact Z0 | apply Z1))))); exact Z3) (by simp) htF (fun _ _ _ => rfl) upd_same (fun q h _ => upd_ne h) ?_
  refine s_keep [] (e' := []) rfl ?_
  refine k_then_n ?_
  refine c_ret ?_
  refine k_then_ret ?_
  refine vs_fold (b := b) (dpF x t o) (pa := pa) (pc := pc) (po := po) (poc := poc) (cb := cb) (m1 := m1) (m2 := m2) (m3 := m3) (m4 := m4) (by (repeat ((with_reducible apply Z2); focus (first | (with_reducible (repeat (first | exact Z0 | apply Z1)); done) | (repeat (first | exact Z0 | apply Z1))))); exact Z3) (by rw [dpF, hrf, htf, if_pos hz]) (by rfl) ?_
  refine ret0 rfl (()) (by first | rfl | (first | rfl | (congr 1; done) | (congr 1 <;> first | rfl | omega | (simp; done) | (simp; omega)))) (by trivial) ?_
  (repeat ((with_reducible apply Z2); focus (first | (with_reducible (repeat (first | exact Z0 | apply Z1)); done) | (repeat (first | exact Z0 | apply Z1))))); (repeat (first | exact Z3 | exact Takes.self | refine takes_drop2 ?_))
 ·
  refine c_skip ?_
  refine k_then_n ?_
  refine c_draw rfl (.q 0 (.q 1 (.q 2 (.q 3 (.q 4 (.q 5 ((.l 6 [] (.done))))))))) (by kernel_rfl) ?_
  refine q_move rfl rfl rfl rfl ?_
  refine q_nil_p rfl rfl rfl rfl ?_
  refine q_field (k := 5) rfl rfl rfl rfl Try.underlying87 rfl Try.sizeOf85 rfl ?_
  refine q_load_c (j := 5) rfl rfl rfl rfl Try.isAgg85 (by with_reducible (repeat (first | exact Z0 | apply Z1))) (by first | rfl | exact (Nat.add_zero _).symm) (by rfl) ?_
  refine q_loadN_c rfl rfl rfl rfl Try.isAgg138 Try.sizeOf138 (by with_reducible (repeat (first | exact Z0 | apply Z1))) 0 (us := [_, _]) (by first | rfl | exact (Nat.add_zero _).symm) rfl rfl ?_
  refine q_loadN_c rfl rfl rfl rfl Try.isAgg140 Try.sizeOf140 (by with_reducible (repeat (first | exact Z0 | apply Z1))) 0 (us := [_, _]) (by first | rfl | exact (Nat.add_zero _).symm) rfl rfl ?_
  refine l_mapUpd (ek := ek2) (ev1 := evH) (F := F4) (m := m4) (k := (o, (stF x.ck t).2.2)) (v := ((some ⟨rb, 0, none⟩ : Option Addr), p.2 - 1)) (by first | exact .inl rfl | exact .inr rfl) rfl rfl rfl rfl Try.underlying85 (keyOK_pair Try.underlying138 rfl rfl rfl rfl Try.underlying3 Try.underlying3 Try.isAgg3 Try.isAgg3 (by kernel_rfl)) (by with_reducible (repeat (first | exact Z0 | apply Z1))) ?_
  refine ag_nil ?_
  refine r_done ?_
  refine s_keep [] (e' := []) rfl ?_
  refine ret_end ?_
  refine s_vecF rb ra rc p.1 (by (repeat ((with_reducible apply Z2); focus (first | (with_reducible (repeat (first | exact Z0 | apply Z1)); done) | (repeat (first | exact Z0 | apply Z1))))); exact Z3) ?_
  refine s_heldF (some ⟨rb, 0, none⟩, p.2 - 1) (p.1, p.2 - 1) (by first | (with_reducible (repeat (first | exact Z0 | apply Z1)); done) | (repeat (first | exact Z0 | apply Z1))) rfl ?_
  refine s_rest_put (F := F4) (T := x.rd) (S := []) (o, (stF x.ck t).2.2) (upd F4 (o, (stF x.ck t).2.2) (some (some ⟨rb, 0, none⟩, p.2 - 1))) (upd x.rd (o, (stF x.ck t).2.2) (some (p.1, p.2 - 1))) (by (repeat ((with_reducible apply Z2); focus (first | (with_reducible (repeat (first | exact Z0 | apply Z1)); done) | (repeat (first | exact Z0 | apply Z1))))); exact Z3) (by simp) upd_same (fun q h _ => upd_ne h) upd_same (fun q h _ => upd_ne h) ?_
  refine s_vecF tb ja jc (jn l p.1) (by (repeat ((with_reducible apply Z2); focus (first | (with_reducible (repeat (first | exact Z0 | apply Z1)); done) | (repeat (first | exact Z0 | apply Z1))))); exact Z3) ?_
  refine s_rest_put (F := F1) (T := x.th) (S := []) t F1 (upd x.th t (some (jn l p.1))) (by (repeat ((with_reducible apply Z2); focus (first | (with_reducible (repeat (first | exact Z0 | apply Z1)); done) | (repeat (first | exact Z0 | apply Z1))))); exact Z3) (by simp) htF (fun _ _ _ => rfl) upd_same (fun q h _ => upd_ne h) ?_
  refine vs_fold (b := b) (dpF x t o) (pa := pa) (pc := pc) (po := po) (poc := poc) (cb := cb) (m1 := m1) (m2 := m2) (m3 := m3) (m4 := m4) (by (repeat ((with_reducible apply Z2); focus (first | (with_reducible (repeat (first | exact Z0 | apply Z1)); done) | (repeat (first | exact Z0 | apply Z1))))); exact Z3) (by rw [dpF, hrf, htf, if_neg hz]) (by rfl) ?_
  refine ret0 rfl (()) (by first | rfl | (first | rfl | (congr 1; done) | (congr 1 <;> first | rfl | omega | (simp; done) | (simp; omega)))) (by trivial) ?_
  (repeat ((with_reducible apply Z2); focus (first | (with_reducible (repeat (first | exact Z0 | apply Z1)); done) | (repeat (first | exact Z0 | apply Z1))))); (repeat (first | exact Z3 | exact Takes.self | refine takes_drop2 ?_))
end Go.Ab.Dj
