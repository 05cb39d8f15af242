/- What the law Pairs rests on, part 3 of 6. -/
import Derived.Test.YtiefkbajaffgcaaPairsB
import Derived.Shelf.Slices.In.SortAlone
import Derived.Shelf.Slices.In.SortNone
import Derived.Lib.SortBridge
import Derived.Sort.EveryDepth
import Derived.Laws.IdiomRangeMap
set_option linter.unusedVariables false
set_option linter.unusedSimpArgs false
set_option maxRecDepth 100000
namespace Go.Ab.Dj
open Go Go.Proofs Go.Ab Go.Ab.Fe Go.Ab.Vc
theorem th_some {x : VS} (hx : VInv x) {t : Int} (h : (stF x.ck t).1 ≠ 0) : ∃ l, x.th t = some l := Option.isSome_iff_exists.1 ((hx.th t).2 h)
theorem thF_eq {x : VS} {t : Int} {l : List Int} (h : x.th t = some l) : thF x t = l := by rw [thF, h]; rfl
theorem th_rng {x : VS} (hx : VInv x) {t : Int} (h : (stF x.ck t).1 ≠ 0) : 0 ≤ t ∧ t < 65535 := by
  obtain ⟨h0, h1, -⟩ := stF_nz h
  have h2 := hx.ck.tl
  have h3 := hx.ck.sh.th
  exact ⟨h0, by omega⟩
/-- A round that somebody waits in is kept. -/
theorem rd_some {x : VS} (hx : VInv x) {t o : Int} (h : (stF x.ck t).1 = 2) (ho : o = (stF x.ck t).2.1) : ∃ p, x.rd (o, (stF x.ck t).2.2) = some p ∧ 1 ≤ p.2 := by
  obtain ⟨h0, h1, h2⟩ := stF_nz (x := x.ck) (t := t) (by omega)
  have h3 : 0 < wtN x.ck o (stF x.ck t).2.2 := by
    unfold wtN
    rw [List.countP_pos_iff]
    exact ⟨stF x.ck t, List.mem_of_getElem? h2, decide_eq_true (by rw [ho, ← h])⟩
  have h4 := hx.wt o (stF x.ck t).2.2
  cases hr : x.rd (o, (stF x.ck t).2.2) with
  | none => rw [rdF, hr] at h4; simp at h4; omega
  | some p => rw [rdF, hr] at h4; exact ⟨p, rfl, by simp at h4; omega⟩
def dpF (x : VS) (t o : Int) : VS := ⟨x.ck, upd x.th t (some (jn (thF x t) (rdF x (o, (stF x.ck t).2.2)).1)), x.lk, x.vo, upd x.rd (o, (stF x.ck t).2.2) (if (rdF x (o, (stF x.ck t).2.2)).2 - 1 ≤ 0 then none else some ((rdF x (o, (stF x.ck t).2.2)).1, (rdF x (o, (stF x.ck t).2.2)).2 - 1))⟩
theorem clock_spec (b m1 : Nat) (v0 v1 v3 v4 v5 : Value) (F1 : Int → Option (Option Addr)) (tb : Nat) (ta : Option Addr) (tc : Nat) (l : List Int) (t : Int) (h0 : 0 ≤ t) (hF : F1 t = some (some ⟨tb, 0, none⟩)) : Spec Try.prog 50 [.pointer (some ⟨b, 0, none⟩), .int .i64 t] [cells b 0 [v0, v1, .map (some m1), v3, v4, v5], mapO ekZ evA m1 F1, cells tb 0 [.slice ta l.length tc], own 1 encU ta tc l] (fun (_ : Unit) => .int .u64 (l.getD t.toNat 0)) (fun _ => True) (fun _ => [cells b 0 [v0, v1, .map (some m1), v3, v4, v5], mapO ekZ evA m1 F1, cells tb 0 [.slice ta l.length tc], own 1 encU ta tc l]) := by
 refine spec_mk (n := 13) Try.func50 rfl rfl rfl ?_
 intro Γ w0
 simp only [argE, List.cons_append, List.nil_append, Nat.zero_add, Nat.reduceAdd]
 refine c_seq ?_
 refine c_plain (.q 0 (.done)) (by kernel_rfl) ?_
 refine q_assign rfl rfl rfl rfl ?_
 refine r_done ?_
 refine k_then_n ?_
 refine c_seq ?_
 refine c_plain (.q 0 (.q 1 (.q 2 (.q 3 (.q 4 (.q 5 (.q 6 ((.l 7 [] (.q 8 (.done))))))))))) (by kernel_rfl) ?_
 refine q_move rfl rfl rfl rfl ?_
 refine q_nil_p rfl rfl rfl rfl ?_
 refine q_field (k := 2) rfl rfl rfl rfl Try.underlying80 rfl Try.sizeOf77 rfl ?_
 refine q_load_c (j := 2) rfl rfl rfl rfl Try.isAgg77 Tk (by first | rfl | exact (Nat.add_zero _).symm) (by rfl) ?_
 refine q_move rfl rfl rfl rfl ?_
 refine q_lookup1 (ek := ekZ) (ev1 := evA) (F := F1) (m := m1) (k := t) none rfl rfl rfl rfl rfl Try.underlying77 (keyOK_int Try.underlying3) Try.zeroValue106 Tk ?_
 refine s_eq 10 rfl (v' := .pointer (some ⟨tb, 0, none⟩)) (by rw [hF]; rfl) ?_
 refine q_move rfl rfl rfl rfl ?_
 have sp_1 := get_z tb l ta l.length tc (by first | rfl | assumption | omega | (simp; done) | (simp; omega)) t (by omega)
 refine l_call rfl rfl rfl rfl rfl rfl Try.call60 (sp_1) Ts ?_
 rintro ⟨⟩ -
 try simp only [List.cons_append, List.nil_append]
 refine ag_nil ?_
 refine q_assign rfl rfl rfl rfl ?_
 refine r_done ?_
 refine s_keep [4] (e' := [(4, _)]) rfl ?_
 refine k_then_n ?_
 refine c_ret ?_
 refine ret1 rfl rfl (()) (by first | rfl | (first | rfl | (congr 1; done) | (congr 1 <;> first | rfl | omega | (simp; done) | (simp; omega)))) (by trivial) ?_
 exact Tf
theorem can_spec (pa : Option Addr) (pc : Nat) (po : Option Addr) (poc b : Nat) (x : VS) (hx : VInv x) (k t o : Int) : Spec Try.prog 29 [.pointer (some ⟨b, 0, none⟩), .agg #[.int .i64 k, .int .i64 t, .int .i64 o]] [vsR pa pc po poc b x] (fun (_ : Unit) => .bool (decide (vcanF x k t o))) (fun _ => True) (fun _ => [vsR pa pc po poc b x]) := by
 refine spec_mk (n := 24) Try.func29 rfl rfl rfl ?_
 intro Γ w0
 simp only [argE, List.cons_append, List.nil_append, Nat.zero_add, Nat.reduceAdd]
 refine c_seq ?_
 refine c_plain ((.l 0 [] (.q 1 (.done)))) (by kernel_rfl) ?_
 refine l_box rfl rfl rfl rfl (us := [_, _, _]) rfl ?_
 intro b3
 refine ag_nil ?_
 refine q_assign rfl rfl rfl rfl ?_
 refine r_done ?_
 refine k_then_n ?_
 refine c_seq ?_
 refine c_seq ?_
 refine s_take (A := vsR pa pc po poc b x) Tk ?_
 refine vs_open fun cb m1 m2 m3 m4 F1 F2 F3 F4 => ?_
 refine c_draw rfl (.q 0 (.q 1 (.q 2 (.q 3 (.q 4 ((.l 5 [] (.q 6 (.done))))))))) (by kernel_rfl) ?_
 refine q_move rfl rfl rfl rfl ?_
 refine q_nil_p rfl rfl rfl rfl ?_
 refine q_field (k := 0) rfl rfl rfl rfl Try.underlying80 rfl Try.sizeOf76 rfl ?_
 refine q_load_c (j := 0) rfl rfl rfl rfl Try.isAgg76 Tk (by first | rfl | exact (Nat.add_zero _).symm) (by rfl) ?_
 refine q_loadN_c rfl rfl rfl rfl Try.isAgg36 Try.sizeOf36 Tk 0 (us := [_, _, _]) (by first | rfl | exact (Nat.add_zero _).symm) rfl rfl ?_
 have sp_1 := Fe.can_spec pa pc cb x.ck hx.ck k t o
 refine l_call rfl rfl rfl rfl rfl rfl Try.call34 (sp_1) Ts ?_
 rintro ⟨⟩ -
 try simp only [List.cons_append, List.nil_append]
 refine ag_nil ?_
 refine q_not rfl rfl rfl rfl ?_
 refine r_done ?_
 refine s_keep [0, 3, 11] (e' := [(0, _), (3, _), (11, _)]) rfl ?_
 refine k_then_n ?_
 refine c_cond_np rfl (fun hcn => ?_) (fun hcn => ?_)
 ·
  have hnv : ¬ vcanF x k t o := fun h => hcn h.1
  refine c_seq ?_
  refine c_plain (.q 0 (.done)) (by kernel_rfl) ?_
  refine q_assign rfl rfl rfl rfl ?_
  refine r_done ?_
  refine k_then_n ?_
  refine c_ret ?_
  refine k_then_ret ?_
  refine vs_fold (b := b) x (pa := pa) (pc := pc) (po := po) (poc := poc) (cb := cb) (m1 := m1) (m2 := m2) (m3 := m3) (m4 := m4) Ts (by rfl) (by rfl) ?_
  refine ret1 rfl rfl (()) (by rw [decide_eq_false hnv]) (by trivial) ?_
  exact Tf
 ·
  have hc : canF x.ck k t o := hcn
  obtain ⟨l, hth⟩ := th_some hx (can_th hc)
  obtain ⟨h0, h1⟩ := th_rng hx (can_th hc)
  refine c_skip ?_
  refine k_then_n ?_
  refine c_seq ?_
  refine c_seq ?_
  refine c_plain (.q 0 (.q 1 (.done))) (by kernel_rfl) ?_
  refine q_field (k := 0) rfl rfl rfl rfl Try.underlying36 rfl Try.sizeOf34 rfl ?_
  refine q_load_c (j := 0) rfl rfl rfl rfl Try.isAgg34 Tk (by first | rfl | exact (Nat.add_zero _).symm) (by rfl) ?_
  refine r_done ?_
  refine k_then_n ?_
  refine c_block ?_
  refine c_seq ?_
  refine c_seq ?_
  refine c_plain (.q 0 (.q 1 (.done))) (by kernel_rfl) ?_
  refine q_int rfl rfl rfl rfl rfl (b_eql _ _ _ _) ?_
  refine q_assign rfl rfl rfl rfl ?_
  refine r_done ?_
  refine k_then_n ?_
  refine c_cond_p rfl (fun k6 => ?_) (fun k6 => ?_)
  ·
   refine s_eq 14 rfl (v' := .bool true) (by rw [decide_eq_true k6]) ?_
   refine c_skip ?_
   refine k_then_n ?_
   refine c_cond_t rfl ?_
   refine c_seq ?_
   have hrel : relK k := by unfold relK; omega
   refine s_rest_take (F := F1) (T := x.th) (S := []) t Tk (by simp) hth fun tv htF => ?_
   refine s_vec Tk fun tb ta tc hta => ?_
   subst hta
   refine c_plain (.q 0 (.q 1 (.q 2 ((.l 3 [] (.q 4 (.q 5 (.done)))))))) (by kernel_rfl) ?_
   refine q_move rfl rfl rfl rfl ?_
   refine q_field (k := 1) rfl rfl rfl rfl Try.underlying36 rfl Try.sizeOf3 rfl ?_
   refine q_load_c (j := 1) rfl rfl rfl rfl Try.isAgg3 Tk (by first | rfl | exact (Nat.add_zero _).symm) (by rfl) ?_
   have sp_2 := clock_spec b m1 (.pointer (some ⟨cb, 0, none⟩)) (.slice po x.ck.pa.length poc) (.map (some m2)) (.map (some m3)) (.map (some m4)) F1 tb (ta) (tc) l t (by omega) htF
   refine l_call rfl rfl rfl rfl rfl rfl Try.call50 (sp_2) Ts ?_
   rintro ⟨⟩ -
   try simp only [List.cons_append, List.nil_append]
   refine ag_nil ?_
   refine q_int rfl rfl rfl rfl rfl (b_lss _ _ _ _) ?_
   refine q_assign rfl rfl rfl rfl ?_
   refine r_done ?_
   refine s_keep [4] (e' := [(4, _)]) rfl ?_
   refine k_then_n ?_
   refine c_ret ?_
   refine k_blk_ret ?_
   refine k_then_ret ?_
   refine s_vecF tb ta tc l Ts ?_
   refine s_rest_put (F := F1) (T := x.th) (S := []) t F1 x.th Ts (by simp) htF (fun _ _ _ => rfl) hth (fun _ _ _ => rfl) ?_
   refine vs_fold (b := b) x (pa := pa) (pc := pc) (po := po) (poc := poc) (cb := cb) (m1 := m1) (m2 := m2) (m3 := m3) (m4 := m4) Ts (by rfl) (by rfl) ?_
   refine ret1 rfl rfl (()) (by congr 1; exact decide_eq_decide.2 (by unfold vcanF; rw [thF_eq hth]; exact ⟨fun h => ⟨hc, fun _ => h⟩, fun h => h.2 hrel⟩)) (by trivial) ?_
   exact Tf
  ·
   refine s_eq 14 rfl (v' := .bool false) (by rw [decide_eq_false k6]) ?_
   refine c_seq ?_
   refine c_plain (.q 0 (.q 1 (.done))) (by kernel_rfl) ?_
   refine q_int rfl rfl rfl rfl rfl (b_eql _ _ _ _) ?_
   refine q_assign rfl rfl rfl rfl ?_
   refine r_done ?_
   refine s_keep [0, 3, 13, 14] (e' := [(0, _), (3, _), (13, _), (14, _)]) rfl ?_
   refine k_then_n ?_
   refine c_cond_p rfl (fun k4 => ?_) (fun k4 => ?_)
   ·
    refine s_eq 14 rfl (v' := .bool true) (by rw [decide_eq_true k4]) ?_
    refine c_skip ?_
    refine k_then_n ?_
    refine c_cond_t rfl ?_
    refine c_seq ?_
    have hrel : relK k := by unfold relK; omega
    refine s_rest_take (F := F1) (T := x.th) (S := []) t Tk (by simp) hth fun tv htF => ?_
    refine s_vec Tk fun tb ta tc hta => ?_
    subst hta
    refine c_plain (.q 0 (.q 1 (.q 2 ((.l 3 [] (.q 4 (.q 5 (.done)))))))) (by kernel_rfl) ?_
    refine q_move rfl rfl rfl rfl ?_
    refine q_field (k := 1) rfl rfl rfl rfl Try.underlying36 rfl Try.sizeOf3 rfl ?_
    refine q_load_c (j := 1) rfl rfl rfl rfl Try.isAgg3 Tk (by first | rfl | exact (Nat.add_zero _).symm) (by rfl) ?_
    have sp_3 := clock_spec b m1 (.pointer (some ⟨cb, 0, none⟩)) (.slice po x.ck.pa.length poc) (.map (some m2)) (.map (some m3)) (.map (some m4)) F1 tb (ta) (tc) l t (by omega) htF
    refine l_call rfl rfl rfl rfl rfl rfl Try.call50 (sp_3) Ts ?_
    rintro ⟨⟩ -
    try simp only [List.cons_append, List.nil_append]
    refine ag_nil ?_
    refine q_int rfl rfl rfl rfl rfl (b_lss _ _ _ _) ?_
    refine q_assign rfl rfl rfl rfl ?_
    refine r_done ?_
    refine s_keep [4] (e' := [(4, _)]) rfl ?_
    refine k_then_n ?_
    refine c_ret ?_
    refine k_blk_ret ?_
    refine k_then_ret ?_
    refine s_vecF tb ta tc l Ts ?_
    refine s_rest_put (F := F1) (T := x.th) (S := []) t F1 x.th Ts (by simp) htF (fun _ _ _ => rfl) hth (fun _ _ _ => rfl) ?_
    refine vs_fold (b := b) x (pa := pa) (pc := pc) (po := po) (poc := poc) (cb := cb) (m1 := m1) (m2 := m2) (m3 := m3) (m4 := m4) Ts (by rfl) (by rfl) ?_
    refine ret1 rfl rfl (()) (by congr 1; exact decide_eq_decide.2 (by unfold vcanF; rw [thF_eq hth]; exact ⟨fun h => ⟨hc, fun _ => h⟩, fun h => h.2 hrel⟩)) (by trivial) ?_
    exact Tf
   ·
    refine s_eq 14 rfl (v' := .bool false) (by rw [decide_eq_false k4]) ?_
    refine c_seq ?_
    refine c_plain (.q 0 (.q 1 (.done))) (by kernel_rfl) ?_
    refine q_int rfl rfl rfl rfl rfl (b_eql _ _ _ _) ?_
    refine q_assign rfl rfl rfl rfl ?_
    refine r_done ?_
    refine k_then_n ?_
    refine c_cond_p rfl (fun k7 => ?_) (fun k7 => ?_)
    ·
     refine s_eq 14 rfl (v' := .bool true) (by rw [decide_eq_true k7]) ?_
     refine c_skip ?_
     refine k_then_n ?_
     refine c_cond_t rfl ?_
     refine c_seq ?_
     have hrel : relK k := by unfold relK; omega
     refine s_rest_take (F := F1) (T := x.th) (S := []) t Tk (by simp) hth fun tv htF => ?_
     refine s_vec Tk fun tb ta tc hta => ?_
     subst hta
     refine c_plain (.q 0 (.q 1 (.q 2 ((.l 3 [] (.q 4 (.q 5 (.done)))))))) (by kernel_rfl) ?_
     refine q_move rfl rfl rfl rfl ?_
     refine q_field (k := 1) rfl rfl rfl rfl Try.underlying36 rfl Try.sizeOf3 rfl ?_
     refine q_load_c (j := 1) rfl rfl rfl rfl Try.isAgg3 Tk (by first | rfl | exact (Nat.add_zero _).symm) (by rfl) ?_
     have sp_4 := clock_spec b m1 (.pointer (some ⟨cb, 0, none⟩)) (.slice po x.ck.pa.length poc) (.map (some m2)) (.map (some m3)) (.map (some m4)) F1 tb (ta) (tc) l t (by omega) htF
     refine l_call rfl rfl rfl rfl rfl rfl Try.call50 (sp_4) Ts ?_
     rintro ⟨⟩ -
     try simp only [List.cons_append, List.nil_append]
     refine ag_nil ?_
     refine q_int rfl rfl rfl rfl rfl (b_lss _ _ _ _) ?_
     refine q_assign rfl rfl rfl rfl ?_
     refine r_done ?_
     refine s_keep [4] (e' := [(4, _)]) rfl ?_
     refine k_then_n ?_
     refine c_ret ?_
     refine k_blk_ret ?_
     refine k_then_ret ?_
     refine s_vecF tb ta tc l Ts ?_
     refine s_rest_put (F := F1) (T := x.th) (S := []) t F1 x.th Ts (by simp) htF (fun _ _ _ => rfl) hth (fun _ _ _ => rfl) ?_
     refine vs_fold (b := b) x (pa := pa) (pc := pc) (po := po) (poc := poc) (cb := cb) (m1 := m1) (m2 := m2) (m3 := m3) (m4 := m4) Ts (by rfl) (by rfl) ?_
     refine ret1 rfl rfl (()) (by congr 1; exact decide_eq_decide.2 (by unfold vcanF; rw [thF_eq hth]; exact ⟨fun h => ⟨hc, fun _ => h⟩, fun h => h.2 hrel⟩)) (by trivial) ?_
     exact Tf
    ·
     refine s_eq 14 rfl (v' := .bool false) (by rw [decide_eq_false k7]) ?_
     refine c_plain (.q 0 (.q 1 (.done))) (by kernel_rfl) ?_
     refine q_int rfl rfl rfl rfl rfl (b_eql _ _ _ _) ?_
     refine q_assign rfl rfl rfl rfl ?_
     refine r_done ?_
     refine k_then_n ?_
     refine c_cond_p rfl (fun k9 => ?_) (fun k9 => ?_)
     ·
      refine s_eq 14 rfl (v' := .bool true) (by rw [decide_eq_true k9]) ?_
      refine c_seq ?_
      have hrel : relK k := by unfold relK; omega
      refine s_rest_take (F := F1) (T := x.th) (S := []) t Tk (by simp) hth fun tv htF => ?_
      refine s_vec Tk fun tb ta tc hta => ?_
      subst hta
      refine c_plain (.q 0 (.q 1 (.q 2 ((.l 3 [] (.q 4 (.q 5 (.done)))))))) (by kernel_rfl) ?_
      refine q_move rfl rfl rfl rfl ?_
      refine q_field (k := 1) rfl rfl rfl rfl Try.underlying36 rfl Try.sizeOf3 rfl ?_
      refine q_load_c (j := 1) rfl rfl rfl rfl Try.isAgg3 Tk (by first | rfl | exact (Nat.add_zero _).symm) (by rfl) ?_
      have sp_5 := clock_spec b m1 (.pointer (some ⟨cb, 0, none⟩)) (.slice po x.ck.pa.length poc) (.map (some m2)) (.map (some m3)) (.map (some m4)) F1 tb (ta) (tc) l t (by omega) htF
      refine l_call rfl rfl rfl rfl rfl rfl Try.call50 (sp_5) Ts ?_
      rintro ⟨⟩ -
      try simp only [List.cons_append, List.nil_append]
      refine ag_nil ?_
      refine q_int rfl rfl rfl rfl rfl (b_lss _ _ _ _) ?_
      refine q_assign rfl rfl rfl rfl ?_
      refine r_done ?_
      refine s_keep [4] (e' := [(4, _)]) rfl ?_
      refine k_then_n ?_
      refine c_ret ?_
      refine k_blk_ret ?_
      refine k_then_ret ?_
      refine s_vecF tb ta tc l Ts ?_
      refine s_rest_put (F := F1) (T := x.th) (S := []) t F1 x.th Ts (by simp) htF (fun _ _ _ => rfl) hth (fun _ _ _ => rfl) ?_
      refine vs_fold (b := b) x (pa := pa) (pc := pc) (po := po) (poc := poc) (cb := cb) (m1 := m1) (m2 := m2) (m3 := m3) (m4 := m4) Ts (by rfl) (by rfl) ?_
      refine ret1 rfl rfl (()) (by congr 1; exact decide_eq_decide.2 (by unfold vcanF; rw [thF_eq hth]; exact ⟨fun h => ⟨hc, fun _ => h⟩, fun h => h.2 hrel⟩)) (by trivial) ?_
      exact Tf
     ·
      refine s_eq 14 rfl (v' := .bool false) (by rw [decide_eq_false k9]) ?_
      refine c_skip ?_
      refine k_blk_n ?_
      refine k_then_n ?_
      refine c_seq ?_
      refine c_plain (.q 0 (.done)) (by kernel_rfl) ?_
      refine q_assign rfl rfl rfl rfl ?_
      refine r_done ?_
      refine s_keep [4] (e' := [(4, _)]) rfl ?_
      refine k_then_n ?_
      refine c_ret ?_
      refine vs_fold (b := b) x (pa := pa) (pc := pc) (po := po) (poc := poc) (cb := cb) (m1 := m1) (m2 := m2) (m3 := m3) (m4 := m4) Ts (by rfl) (by rfl) ?_
      refine ret1 rfl rfl (()) (by have hv : vcanF x k t o := ⟨hc, fun h => by unfold relK at h; omega⟩; rw [decide_eq_true hv]) (by trivial) ?_
      exact Tf
theorem depart_spec (pa : Option Addr) (pc : Nat) (po : Option Addr) (poc b : Nat) (x : VS) (hx : VInv x) (k t o : Int) (h2 : (stF x.ck t).1 = 2) (ho : o = (stF x.ck t).2.1) : Spec Try.prog 52 [.pointer (some ⟨b, 0, none⟩), .agg #[.int .i64 k, .int .i64 t, .int .i64 o]] [vsR pa pc po poc b x] (fun (_ : Unit) => .tuple #[]) (fun _ => True) (fun _ => [vsR pa pc po poc b (dpF x t o)]) := by
 refine spec_mk (n := 58) Try.func52 rfl rfl rfl ?_
 intro Γ w0
 simp only [argE, List.cons_append, List.nil_append, Nat.zero_add, Nat.reduceAdd]
 refine c_seq ?_
 refine c_plain ((.l 0 [] (.done))) (by kernel_rfl) ?_
 refine l_box rfl rfl rfl rfl (us := [_, _, _]) rfl ?_
 intro b3
 refine ag_nil ?_
 refine r_done ?_
 refine k_then_n ?_
 refine c_seq ?_
 obtain ⟨l, hth⟩ := th_some hx (t := t) (by omega)
 obtain ⟨h0, h1⟩ := th_rng hx (t := t) (by omega)
 obtain ⟨p, hrd, hp1⟩ := rd_some hx h2 ho
 have hpc := hx.rdc _ _ hrd
 have hps := hx.rds _ _ hrd
 have hrf : rdF x (o, (stF x.ck t).2.2) = p := by rw [rdF, hrd]; rfl
 have htf := thF_eq hth
 have hlc := hx.thc _ _ hth
 refine s_take (A := vsR pa pc po poc b x) Tk ?_
 refine vs_open fun cb m1 m2 m3 m4 F1 F2 F3 F4 => ?_
 refine c_draw rfl (.q 0 (.q 1 (.q 2 (.q 3 (.q 4 (.q 5 ((.alt (.l 6 [] (.q 7 (.q 8 (.q 9 ((.l 10 [] ((.l 11 [] (.q 12 (.done)))))))))) (.l 10 [3, 5] ((.l 6 [] (.q 7 (.q 8 (.q 9 ((.l 11 [] (.q 12 (.done)))))))))))))))))) (by kernel_rfl) ?_
 refine q_move rfl rfl rfl rfl ?_
 refine q_nil_p rfl rfl rfl rfl ?_
 refine q_field (k := 0) rfl rfl rfl rfl Try.underlying80 rfl Try.sizeOf76 rfl ?_
 refine q_load_c (j := 0) rfl rfl rfl rfl Try.isAgg76 Tk (by first | rfl | exact (Nat.add_zero _).symm) (by rfl) ?_
 refine q_field (k := 1) rfl rfl rfl rfl Try.underlying36 rfl Try.sizeOf3 rfl ?_
 refine q_load_c (j := 1) rfl rfl rfl rfl Try.isAgg3 Tk (by first | rfl | exact (Nat.add_zero _).symm) (by rfl) ?_
 refine r_alt ?_ ?_
 ·
  have sp_1 := Fe.stand_spec pa pc cb x.ck t
  refine l_call rfl rfl rfl rfl rfl rfl Try.call72 (sp_1) Ts ?_
  rintro ⟨⟩ -
  try simp only [List.cons_append, List.nil_append]
  refine ag_nil ?_
  refine q_move rfl rfl rfl rfl ?_
  refine q_extract rfl rfl rfl rfl rfl ?_
  refine q_extract rfl rfl rfl rfl rfl ?_
  refine l_alloc rfl rfl rfl Try.zeroValue95 (zs := [.int .i64 0, .int .i64 0, .int .i64 0]) rfl ?_
  intro b4
  refine ag_nil ?_
  refine l_store (j := 0) rfl rfl rfl rfl Try.sizeOf95 (us := [_, _, _]) rfl rfl rfl Tk (by first | rfl | exact (Nat.add_zero _).symm) (by first | decide | (simp; done) | omega) ?_
  simp only [setL, List.set]
  refine ag_nil ?_
  refine q_assign rfl rfl rfl rfl ?_
  refine r_done ?_
  refine s_keep [0, 3, 4] (e' := [(0, _), (3, _), (4, _)]) rfl ?_
  refine k_then_n ?_
  refine c_seq ?_
  refine c_plain (.q 0 (.q 1 (.q 2 (.q 3 (.q 4 ((.l 5 [] ((.l 6 [] (.done)))))))))) (by kernel_rfl) ?_
  refine q_field (k := 2) rfl rfl rfl rfl Try.underlying36 rfl Try.sizeOf3 rfl ?_
  refine q_load_c (j := 2) rfl rfl rfl rfl Try.isAgg3 Tk (by first | rfl | exact (Nat.add_zero _).symm) (by rfl) ?_
  refine q_field (k := 2) rfl rfl rfl rfl Try.underlying95 rfl Try.sizeOf3 rfl ?_
  refine q_load_c (j := 2) rfl rfl rfl rfl Try.isAgg3 Tk (by first | rfl | exact (Nat.add_zero _).symm) (by rfl) ?_
  refine q_build rfl rfl rfl rfl (vs := [_, _]) (run_buildS Try.underlying119 Try.zeroValue119 (ps := [(0, 1), (1, 1)]) ⟨rfl, Try.sizeOf3, rfl, Try.sizeOf3, trivial⟩ rfl) ?_
  refine l_alloc rfl rfl rfl Try.zeroValue119 (zs := [.int .i64 0, .int .i64 0]) rfl ?_
  intro b6
  refine ag_nil ?_
  refine l_store (j := 0) rfl rfl rfl rfl Try.sizeOf119 (us := [_, _]) rfl rfl rfl Tk (by first | rfl | exact (Nat.add_zero _).symm) (by first | decide | (simp; done) | omega) ?_
  simp only [setL, List.set]
  refine ag_nil ?_
  refine r_done ?_
  refine s_keep [0, 3, 6] (e' := [(0, _), (3, _), (6, _)]) rfl ?_
  refine k_then_n ?_
  refine c_seq ?_
  refine s_rest_take (F := F4) (T := x.rd) (S := []) (o, (stF x.ck t).2.2) Tk (by simp) hrd fun rv hrF => ?_
  refine s_held Tk fun hrs => ?_
  obtain ⟨rva, rvs⟩ := rv
  simp only at hrs
  subst hrs
  refine s_vec Tk fun rb ra rc hra => ?_
  simp only at hra
  subst hra
  refine c_draw rfl (.q 0 (.q 1 (.q 2 (.q 3 (.q 4 (.q 5 ((.l 6 [3, 4, 5] ((.l 7 [] (.done))))))))))) (by kernel_rfl) ?_
  refine q_move rfl rfl rfl rfl ?_
  refine q_nil_p rfl rfl rfl rfl ?_
  refine q_field (k := 5) rfl rfl rfl rfl Try.underlying80 rfl Try.sizeOf78 rfl ?_
  refine q_load_c (j := 5) rfl rfl rfl rfl Try.isAgg78 Tk (by first | rfl | exact (Nat.add_zero _).symm) (by rfl) ?_
  refine q_loadN_c rfl rfl rfl rfl Try.isAgg119 Try.sizeOf119 Tk 0 (us := [_, _]) (by first | rfl | exact (Nat.add_zero _).symm) rfl rfl ?_
  refine q_lookup1 (ek := ek2) (ev1 := evH) (F := F4) (m := m4) (k := (o, (stF x.ck t).2.2)) (none, 0) rfl rfl rfl rfl rfl Try.underlying78 (keyOK_pair Try.underlying119 rfl rfl rfl rfl Try.underlying3 Try.underlying3 Try.isAgg3 Try.isAgg3 (by kernel_rfl)) Try.zeroValue121 Tk ?_
  refine s_eq 28 rfl (v' := .agg #[.pointer (some ⟨rb, 0, none⟩), .int .i64 p.2]) (by rw [hrF]; rfl) ?_
  refine l_alloc rfl rfl rfl Try.zeroValue121 (zs := [.pointer none, .int .i64 0]) rfl ?_
  intro b7
  refine ag_load_c (q := 5) rfl rfl rfl Try.isAgg78 Tk (by first | rfl | exact (Nat.add_zero _).symm) (by rfl) ?_
  refine ag_loadN_c rfl rfl (us := [_, _]) rfl Try.isAgg119 Try.sizeOf119 Tk 0 (by first | rfl | exact (Nat.add_zero _).symm) rfl rfl ?_
  refine ag_lookup1 (ek := ek2) (ev1 := evH) (F := F4) (m := m4) (k := (o, (stF x.ck t).2.2)) (none, 0) rfl rfl (by first | rfl | (rw [hrF]; rfl)) rfl rfl Try.underlying78 (keyOK_pair Try.underlying119 rfl rfl rfl rfl Try.underlying3 Try.underlying3 Try.isAgg3 Try.isAgg3 (by kernel_rfl)) Try.zeroValue121 Tk ?_
  refine ag_nil ?_
  refine l_store (j := 0) rfl rfl rfl rfl Try.sizeOf121 (us := [_, _]) rfl rfl rfl Tk (by first | rfl | exact (Nat.add_zero _).symm) (by first | decide | (simp; done) | omega) ?_
  simp only [setL, List.set]
  refine ag_nil ?_
  refine r_done ?_
  refine s_keep [0, 3, 6, 7] (e' := [(0, _), (3, _), (6, _), (7, _)]) rfl ?_
  refine k_then_n ?_
  refine c_seq ?_
  refine s_rest_take (F := F1) (T := x.th) (S := []) t Tk (by simp) hth fun tv htF => ?_
  refine s_vec Tk fun tb ta tc hta => ?_
  subst hta
  refine c_draw rfl (.q 0 (.q 1 (.q 2 (.q 3 (.q 4 (.q 5 (.q 6 (.q 7 (.q 8 ((.l 9 [3, 5, 6] ((.l 10 [] (.done)))))))))))))) (by kernel_rfl) ?_
  refine q_move rfl rfl rfl rfl ?_
  refine q_nil_p rfl rfl rfl rfl ?_
  refine q_field (k := 2) rfl rfl rfl rfl Try.underlying80 rfl Try.sizeOf77 rfl ?_
  refine q_load_c (j := 2) rfl rfl rfl rfl Try.isAgg77 Tk (by first | rfl | exact (Nat.add_zero _).symm) (by rfl) ?_
  refine q_field (k := 1) rfl rfl rfl rfl Try.underlying36 rfl Try.sizeOf3 rfl ?_
  refine q_load_c (j := 1) rfl rfl rfl rfl Try.isAgg3 Tk (by first | rfl | exact (Nat.add_zero _).symm) (by rfl) ?_
  refine q_lookup1 (ek := ekZ) (ev1 := evA) (F := F1) (m := m1) (k := t) none rfl rfl rfl rfl rfl Try.underlying77 (keyOK_int Try.underlying3) Try.zeroValue106 Tk ?_
  refine s_eq 35 rfl (v' := .pointer (some ⟨tb, 0, none⟩)) (by rw [htF]; rfl) ?_
  refine q_field (k := 0) rfl rfl rfl rfl Try.underlying121 rfl Try.sizeOf106 rfl ?_
  refine q_load_c (j := 0) rfl rfl rfl rfl Try.isAgg106 Tk (by first | rfl | exact (Nat.add_zero _).symm) (by rfl) ?_
  refine l_buildSlice rfl rfl rfl rfl (run_build1 (us := [_]) Try.underlying153 Try.sizeOf106 rfl Try.zeroValue106 rfl rfl rfl) ?_
  intro b38
  refine ag_load_c (q := 2) rfl rfl rfl Try.isAgg77 Tk (by first | rfl | exact (Nat.add_zero _).symm) (by rfl) ?_
  refine ag_load_c (q := 1) rfl rfl rfl Try.isAgg3 Tk (by first | rfl | exact (Nat.add_zero _).symm) (by rfl) ?_
  refine ag_lookup1 (ek := ekZ) (ev1 := evA) (F := F1) (m := m1) (k := t) none rfl rfl (by first | rfl | (rw [htF]; rfl)) rfl rfl Try.underlying77 (keyOK_int Try.underlying3) Try.zeroValue106 Tk ?_
  refine ag_nil ?_
  refine s_big_nil (f := kf) ?_
  refine s_heap (fun _ h => Bun.fold ((by (repeat ((with_reducible apply Z2); focus (first | (with_reducible (repeat (first | exact Z0 | apply Z1)); done) | (repeat (first | exact Z0 | apply Z1))))); exact Z3 : Takes _ [cells rb 0 [.slice ra p.1.length rc], own 1 encU ra rc p.1] _) _ h)) ?_
  refine s_big_push (f := kf) (L := []) (x := (rb, ra, rc, p.1)) Ts ?_
  simp only [List.nil_append]
  have sp_2 := Vc.join_spec tb l ta l.length tc (by first | rfl | assumption | omega | (simp; done) | (simp; omega)) hlc [(rb, ra, rc, p.1)] [(rb, ra, rc, p.1)] (fun x hx => hx) (by intro x hx; simp at hx; subst hx; exact hpc) (some ⟨b38, 0, none⟩) 1 1 (cells b38 0 [.pointer (some ⟨rb, 0, none⟩)]) (rds_some rdn_cells) rfl (by decide)
  refine l_call rfl rfl rfl rfl rfl rfl Try.call71 (sp_2) Ts ?_
  rintro ⟨ja, jc⟩ -
  try simp only [List.cons_append, List.nil_append]
  refine s_big_take (f := kf) (L := [(rb, ra, rc, p.1)]) (i := 0) (x := (rb, ra, rc, p.1)) Tk rfl ?_
  refine s_bun ?_
  try simp only [List.cons_append, List.nil_append, List.eraseIdx_cons_zero]
  rw [show jnA l [(rb, ra, rc, p.1)] = jn l p.1 from rfl]
  try simp only [List.cons_append, List.nil_append]
  refine ag_nil ?_
  refine r_done ?_
  refine s_keep [0, 6, 7] (e' := [(0, _), (6, _), (7, _)]) rfl ?_
  refine k_then_n ?_
  refine c_seq ?_
  refine c_seq ?_
  refine c_plain (.q 0 (.q 1 (.q 2 (.q 3 ((.l 4 [] (.done))))))) (by kernel_rfl) ?_
  refine q_field (k := 1) rfl rfl rfl rfl Try.underlying121 rfl Try.sizeOf3 rfl ?_
  refine q_load_c (j := 1) rfl rfl rfl rfl Try.isAgg3 Tk (by first | rfl | exact (Nat.add_zero _).symm) (by rfl) ?_
  refine q_int rfl rfl rfl rfl rfl (b_sub' _ (by exact fits_i64 (by omega) (by omega))) ?_
  refine q_field (k := 1) rfl rfl rfl rfl Try.underlying121 rfl Try.sizeOf3 rfl ?_
  refine l_store (j := 1) rfl rfl rfl rfl Try.sizeOf3 (us := [_]) rfl rfl rfl Tk (by first | rfl | exact (Nat.add_zero _).symm) (by first | decide | (simp; done) | omega) ?_
  simp only [setL, List.set]
  refine ag_nil ?_
  refine r_done ?_
  refine s_keep [0, 6, 7] (e' := [(0, _), (6, _), (7, _)]) rfl ?_
  refine k_then_n ?_
  refine c_seq ?_
  refine c_plain (.q 0 (.q 1 (.q 2 (.done)))) (by kernel_rfl) ?_
  refine q_field (k := 1) rfl rfl rfl rfl Try.underlying121 rfl Try.sizeOf3 rfl ?_
  refine q_load_c (j := 1) rfl rfl rfl rfl Try.isAgg3 Tk (by first | rfl | exact (Nat.add_zero _).symm) (by rfl) ?_
  refine q_int rfl rfl rfl rfl rfl (b_leq _ _ _ _) ?_
  refine r_done ?_
  refine k_then_n ?_
  refine c_cond_p rfl (fun hz => ?_) (fun hz => ?_)
  ·
   refine c_seq ?_
   refine c_draw rfl (.q 0 (.q 1 (.q 2 (.q 3 (.q 4 ((.l 5 [] (.done)))))))) (by kernel_rfl) ?_
   refine q_move rfl rfl rfl rfl ?_
   refine q_nil_p rfl rfl rfl rfl ?_
   refine q_field (k := 5) rfl rfl rfl rfl Try.underlying80 rfl Try.sizeOf78 rfl ?_
   refine q_load_c (j := 5) rfl rfl rfl rfl Try.isAgg78 Tk (by first | rfl | exact (Nat.add_zero _).symm) (by rfl) ?_
   refine q_loadN_c rfl rfl rfl rfl Try.isAgg119 Try.sizeOf119 Tk 0 (us := [_, _]) (by first | rfl | exact (Nat.add_zero _).symm) rfl rfl ?_
   refine l_delete (ek := ek2) (ev1 := evH) (F := F4) (m := m4) (k := (o, (stF x.ck t).2.2)) rfl rfl rfl rfl Try.underlying78 (keyOK_pair Try.underlying119 rfl rfl rfl rfl Try.underlying3 Try.underlying3 Try.isAgg3 Try.isAgg3 (by kernel_rfl)) Tk ?_
   refine ag_nil ?_
   refine r_done ?_
   refine s_rest_none (F := F4) (T := x.rd) (S := []) (o, (stF x.ck t).2.2) (upd F4 (o, (stF x.ck t).2.2) none) (upd x.rd (o, (stF x.ck t).2.2) none) Tk upd_same (fun q h _ => upd_ne h) upd_same (fun q h _ => upd_ne h) ?_
   refine s_vecF tb ja jc (jn l p.1) Ts ?_
   refine s_rest_put (F := F1) (T := x.th) (S := []) t F1 (upd x.th t (some (jn l p.1))) Ts (by simp) htF (fun _ _ _ => rfl) upd_same (fun q h _ => upd_ne h) ?_
   refine s_keep [] (e' := []) rfl ?_
   refine k_then_n ?_
   refine c_ret ?_
   refine k_then_ret ?_
   refine vs_fold (b := b) (dpF x t o) (pa := pa) (pc := pc) (po := po) (poc := poc) (cb := cb) (m1 := m1) (m2 := m2) (m3 := m3) (m4 := m4) Ts (by rw [dpF, hrf, htf, if_pos hz]) (by rfl) ?_
   refine ret0 rfl (()) (by first | rfl | (first | rfl | (congr 1; done) | (congr 1 <;> first | rfl | omega | (simp; done) | (simp; omega)))) (by trivial) ?_
   exact Tf
  ·
   refine c_skip ?_
   refine k_then_n ?_
   refine c_draw rfl (.q 0 (.q 1 (.q 2 (.q 3 (.q 4 (.q 5 ((.l 6 [] (.done))))))))) (by kernel_rfl) ?_
   refine q_move rfl rfl rfl rfl ?_
   refine q_nil_p rfl rfl rfl rfl ?_
   refine q_field (k := 5) rfl rfl rfl rfl Try.underlying80 rfl Try.sizeOf78 rfl ?_
   refine q_load_c (j := 5) rfl rfl rfl rfl Try.isAgg78 Tk (by first | rfl | exact (Nat.add_zero _).symm) (by rfl) ?_
   refine q_loadN_c rfl rfl rfl rfl Try.isAgg119 Try.sizeOf119 Tk 0 (us := [_, _]) (by first | rfl | exact (Nat.add_zero _).symm) rfl rfl ?_
   refine q_loadN_c rfl rfl rfl rfl Try.isAgg121 Try.sizeOf121 Tk 0 (us := [_, _]) (by first | rfl | exact (Nat.add_zero _).symm) rfl rfl ?_
   refine l_mapUpd (ek := ek2) (ev1 := evH) (F := F4) (m := m4) (k := (o, (stF x.ck t).2.2)) (v := ((some ⟨rb, 0, none⟩ : Option Addr), p.2 - 1)) (by first | exact .inl rfl | exact .inr rfl) rfl rfl rfl rfl Try.underlying78 (keyOK_pair Try.underlying119 rfl rfl rfl rfl Try.underlying3 Try.underlying3 Try.isAgg3 Try.isAgg3 (by kernel_rfl)) Tk ?_
   refine ag_nil ?_
   refine r_done ?_
   refine s_keep [] (e' := []) rfl ?_
   refine ret_end ?_
   refine s_vecF rb ra rc p.1 Ts ?_
   refine s_heldF (some ⟨rb, 0, none⟩, p.2 - 1) (p.1, p.2 - 1) Td rfl ?_
   refine s_rest_put (F := F4) (T := x.rd) (S := []) (o, (stF x.ck t).2.2) (upd F4 (o, (stF x.ck t).2.2) (some (some ⟨rb, 0, none⟩, p.2 - 1))) (upd x.rd (o, (stF x.ck t).2.2) (some (p.1, p.2 - 1))) Ts (by simp) upd_same (fun q h _ => upd_ne h) upd_same (fun q h _ => upd_ne h) ?_
   refine s_vecF tb ja jc (jn l p.1) Ts ?_
   refine s_rest_put (F := F1) (T := x.th) (S := []) t F1 (upd x.th t (some (jn l p.1))) Ts (by simp) htF (fun _ _ _ => rfl) upd_same (fun q h _ => upd_ne h) ?_
   refine vs_fold (b := b) (dpF x t o) (pa := pa) (pc := pc) (po := po) (poc := poc) (cb := cb) (m1 := m1) (m2 := m2) (m3 := m3) (m4 := m4) Ts (by rw [dpF, hrf, htf, if_neg hz]) (by rfl) ?_
   refine ret0 rfl (()) (by first | rfl | (first | rfl | (congr 1; done) | (congr 1 <;> first | rfl | omega | (simp; done) | (simp; omega)))) (by trivial) ?_
   exact Tf
 refine l_alloc rfl rfl rfl Try.zeroValue95 (zs := [.int .i64 0, .int .i64 0, .int .i64 0]) rfl ?_
 intro b4
 refine ag_load_c (q := 0) rfl rfl rfl Try.isAgg76 Tk (by first | rfl | exact (Nat.add_zero _).symm) (by rfl) ?_
 refine ag_load_c (q := 1) rfl rfl rfl Try.isAgg3 Tk (by first | rfl | exact (Nat.add_zero _).symm) (by rfl) ?_
 refine ag_nil ?_
 have sp_3 := Fe.stand_spec pa pc cb x.ck t
 refine l_call rfl rfl rfl rfl rfl rfl Try.call72 (sp_3) Ts ?_
 rintro ⟨⟩ -
 try simp only [List.cons_append, List.nil_append]
 refine ag_nil ?_
 refine q_move rfl rfl rfl rfl ?_
 refine q_extract rfl rfl rfl rfl rfl ?_
 refine q_extract rfl rfl rfl rfl rfl ?_
 refine l_store (j := 0) rfl rfl rfl rfl Try.sizeOf95 (us := [_, _, _]) rfl rfl rfl Tk (by first | rfl | exact (Nat.add_zero _).symm) (by first | decide | (simp; done) | omega) ?_
 simp only [setL, List.set]
 refine ag_nil ?_
 refine q_assign rfl rfl rfl rfl ?_
 refine r_done ?_
 refine s_keep [0, 3, 4] (e' := [(0, _), (3, _), (4, _)]) rfl ?_
 refine k_then_n ?_
 refine c_seq ?_
 refine c_plain (.q 0 (.q 1 (.q 2 (.q 3 (.q 4 ((.l 5 [] ((.l 6 [] (.done)))))))))) (by kernel_rfl) ?_
 refine q_field (k := 2) rfl rfl rfl rfl Try.underlying36 rfl Try.sizeOf3 rfl ?_
 refine q_load_c (j := 2) rfl rfl rfl rfl Try.isAgg3 Tk (by first | rfl | exact (Nat.add_zero _).symm) (by rfl) ?_
 refine q_field (k := 2) rfl rfl rfl rfl Try.underlying95 rfl Try.sizeOf3 rfl ?_
 refine q_load_c (j := 2) rfl rfl rfl rfl Try.isAgg3 Tk (by first | rfl | exact (Nat.add_zero _).symm) (by rfl) ?_
 refine q_build rfl rfl rfl rfl (vs := [_, _]) (run_buildS Try.underlying119 Try.zeroValue119 (ps := [(0, 1), (1, 1)]) ⟨rfl, Try.sizeOf3, rfl, Try.sizeOf3, trivial⟩ rfl) ?_
 refine l_alloc rfl rfl rfl Try.zeroValue119 (zs := [.int .i64 0, .int .i64 0]) rfl ?_
 intro b6
 refine ag_nil ?_
 refine l_store (j := 0) rfl rfl rfl rfl Try.sizeOf119 (us := [_, _]) rfl rfl rfl Tk (by first | rfl | exact (Nat.add_zero _).symm) (by first | decide | (simp; done) | omega) ?_
 simp only [setL, List.set]
 refine ag_nil ?_
 refine r_done ?_
 refine s_keep [0, 3, 6] (e' := [(0, _), (3, _), (6, _)]) rfl ?_
 refine k_then_n ?_
 refine c_seq ?_
 refine s_rest_take (F := F4) (T := x.rd) (S := []) (o, (stF x.ck t).2.2) Tk (by simp) hrd fun rv hrF => ?_
 refine s_held Tk fun hrs => ?_
 obtain ⟨rva, rvs⟩ := rv
 simp only at hrs
 subst hrs
 refine s_vec Tk fun rb ra rc hra => ?_
 simp only at hra
 subst hra
 refine c_draw rfl (.q 0 (.q 1 (.q 2 (.q 3 (.q 4 (.q 5 ((.l 6 [3, 4, 5] ((.l 7 [] (.done))))))))))) (by kernel_rfl) ?_
 refine q_move rfl rfl rfl rfl ?_
 refine q_nil_p rfl rfl rfl rfl ?_
 refine q_field (k := 5) rfl rfl rfl rfl Try.underlying80 rfl Try.sizeOf78 rfl ?_
 refine q_load_c (j := 5) rfl rfl rfl rfl Try.isAgg78 Tk (by first | rfl | exact (Nat.add_zero _).symm) (by rfl) ?_
 refine q_loadN_c rfl rfl rfl rfl Try.isAgg119 Try.sizeOf119 Tk 0 (us := [_, _]) (by first | rfl | exact (Nat.add_zero _).symm) rfl rfl ?_
 refine q_lookup1 (ek := ek2) (ev1 := evH) (F := F4) (m := m4) (k := (o, (stF x.ck t).2.2)) (none, 0) rfl rfl rfl rfl rfl Try.underlying78 (keyOK_pair Try.underlying119 rfl rfl rfl rfl Try.underlying3 Try.underlying3 Try.isAgg3 Try.isAgg3 (by kernel_rfl)) Try.zeroValue121 Tk ?_
 refine s_eq 28 rfl (v' := .agg #[.pointer (some ⟨rb, 0, none⟩), .int .i64 p.2]) (by rw [hrF]; rfl) ?_
 refine l_alloc rfl rfl rfl Try.zeroValue121 (zs := [.pointer none, .int .i64 0]) rfl ?_
 intro b7
 refine ag_load_c (q := 5) rfl rfl rfl Try.isAgg78 Tk (by first | rfl | exact (Nat.add_zero _).symm) (by rfl) ?_
 refine ag_loadN_c rfl rfl (us := [_, _]) rfl Try.isAgg119 Try.sizeOf119 Tk 0 (by first | rfl | exact (Nat.add_zero _).symm) rfl rfl ?_
 refine ag_lookup1 (ek := ek2) (ev1 := evH) (F := F4) (m := m4) (k := (o, (stF x.ck t).2.2)) (none, 0) rfl rfl (by first | rfl | (rw [hrF]; rfl)) rfl rfl Try.underlying78 (keyOK_pair Try.underlying119 rfl rfl rfl rfl Try.underlying3 Try.underlying3 Try.isAgg3 Try.isAgg3 (by kernel_rfl)) Try.zeroValue121 Tk ?_
 refine ag_nil ?_
 refine l_store (j := 0) rfl rfl rfl rfl Try.sizeOf121 (us := [_, _]) rfl rfl rfl Tk (by first | rfl | exact (Nat.add_zero _).symm) (by first | decide | (simp; done) | omega) ?_
 simp only [setL, List.set]
 refine ag_nil ?_
 refine r_done ?_
 refine s_keep [0, 3, 6, 7] (e' := [(0, _), (3, _), (6, _), (7, _)]) rfl ?_
 refine k_then_n ?_
 refine c_seq ?_
 refine s_rest_take (F := F1) (T := x.th) (S := []) t Tk (by simp) hth fun tv htF => ?_
 refine s_vec Tk fun tb ta tc hta => ?_
 subst hta
 refine c_draw rfl (.q 0 (.q 1 (.q 2 (.q 3 (.q 4 (.q 5 (.q 6 (.q 7 (.q 8 ((.l 9 [3, 5, 6] ((.l 10 [] (.done)))))))))))))) (by kernel_rfl) ?_
 refine q_move rfl rfl rfl rfl ?_
 refine q_nil_p rfl rfl rfl rfl ?_
 refine q_field (k := 2) rfl rfl rfl rfl Try.underlying80 rfl Try.sizeOf77 rfl ?_
 refine q_load_c (j := 2) rfl rfl rfl rfl Try.isAgg77 Tk (by first | rfl | exact (Nat.add_zero _).symm) (by rfl) ?_
 refine q_field (k := 1) rfl rfl rfl rfl Try.underlying36 rfl Try.sizeOf3 rfl ?_
 refine q_load_c (j := 1) rfl rfl rfl rfl Try.isAgg3 Tk (by first | rfl | exact (Nat.add_zero _).symm) (by rfl) ?_
 refine q_lookup1 (ek := ekZ) (ev1 := evA) (F := F1) (m := m1) (k := t) none rfl rfl rfl rfl rfl Try.underlying77 (keyOK_int Try.underlying3) Try.zeroValue106 Tk ?_
 refine s_eq 35 rfl (v' := .pointer (some ⟨tb, 0, none⟩)) (by rw [htF]; rfl) ?_
 refine q_field (k := 0) rfl rfl rfl rfl Try.underlying121 rfl Try.sizeOf106 rfl ?_
 refine q_load_c (j := 0) rfl rfl rfl rfl Try.isAgg106 Tk (by first | rfl | exact (Nat.add_zero _).symm) (by rfl) ?_
 refine l_buildSlice rfl rfl rfl rfl (run_build1 (us := [_]) Try.underlying153 Try.sizeOf106 rfl Try.zeroValue106 rfl rfl rfl) ?_
 intro b38
 refine ag_load_c (q := 2) rfl rfl rfl Try.isAgg77 Tk (by first | rfl | exact (Nat.add_zero _).symm) (by rfl) ?_
 refine ag_load_c (q := 1) rfl rfl rfl Try.isAgg3 Tk (by first | rfl | exact (Nat.add_zero _).symm) (by rfl) ?_
 refine ag_lookup1 (ek := ekZ) (ev1 := evA) (F := F1) (m := m1) (k := t) none rfl rfl (by first | rfl | (rw [htF]; rfl)) rfl rfl Try.underlying77 (keyOK_int Try.underlying3) Try.zeroValue106 Tk ?_
 refine ag_nil ?_
 refine s_big_nil (f := kf) ?_
 refine s_heap (fun _ h => Bun.fold ((by (repeat ((with_reducible apply Z2); focus (first | (with_reducible (repeat (first | exact Z0 | apply Z1)); done) | (repeat (first | exact Z0 | apply Z1))))); exact Z3 : Takes _ [cells rb 0 [.slice ra p.1.length rc], own 1 encU ra rc p.1] _) _ h)) ?_
 refine s_big_push (f := kf) (L := []) (x := (rb, ra, rc, p.1)) Ts ?_
 simp only [List.nil_append]
 have sp_4 := Vc.join_spec tb l ta l.length tc (by first | rfl | assumption | omega | (simp; done) | (simp; omega)) hlc [(rb, ra, rc, p.1)] [(rb, ra, rc, p.1)] (fun x hx => hx) (by intro x hx; simp at hx; subst hx; exact hpc) (some ⟨b38, 0, none⟩) 1 1 (cells b38 0 [.pointer (some ⟨rb, 0, none⟩)]) (rds_some rdn_cells) rfl (by decide)
 refine l_call rfl rfl rfl rfl rfl rfl Try.call71 (sp_4) Ts ?_
 rintro ⟨ja, jc⟩ -
 try simp only [List.cons_append, List.nil_append]
 refine s_big_take (f := kf) (L := [(rb, ra, rc, p.1)]) (i := 0) (x := (rb, ra, rc, p.1)) Tk rfl ?_
 refine s_bun ?_
 try simp only [List.cons_append, List.nil_append, List.eraseIdx_cons_zero]
 rw [show jnA l [(rb, ra, rc, p.1)] = jn l p.1 from rfl]
 try simp only [List.cons_append, List.nil_append]
 refine ag_nil ?_
 refine r_done ?_
 refine s_keep [0, 6, 7] (e' := [(0, _), (6, _), (7, _)]) rfl ?_
 refine k_then_n ?_
 refine c_seq ?_
 refine c_seq ?_
 refine c_plain (.q 0 (.q 1 (.q 2 (.q 3 ((.l 4 [] (.done))))))) (by kernel_rfl) ?_
 refine q_field (k := 1) rfl rfl rfl rfl Try.underlying121 rfl Try.sizeOf3 rfl ?_
 refine q_load_c (j := 1) rfl rfl rfl rfl Try.isAgg3 Tk (by first | rfl | exact (Nat.add_zero _).symm) (by rfl) ?_
 refine q_int rfl rfl rfl rfl rfl (b_sub' _ (by exact fits_i64 (by omega) (by omega))) ?_
 refine q_field (k := 1) rfl rfl rfl rfl Try.underlying121 rfl Try.sizeOf3 rfl ?_
 refine l_store (j := 1) rfl rfl rfl rfl Try.sizeOf3 (us := [_]) rfl rfl rfl Tk (by first | rfl | exact (Nat.add_zero _).symm) (by first | decide | (simp; done) | omega) ?_
 simp only [setL, List.set]
 refine ag_nil ?_
 refine r_done ?_
 refine s_keep [0, 6, 7] (e' := [(0, _), (6, _), (7, _)]) rfl ?_
 refine k_then_n ?_
 refine c_seq ?_
 refine c_plain (.q 0 (.q 1 (.q 2 (.done)))) (by kernel_rfl) ?_
 refine q_field (k := 1) rfl rfl rfl rfl Try.underlying121 rfl Try.sizeOf3 rfl ?_
 refine q_load_c (j := 1) rfl rfl rfl rfl Try.isAgg3 Tk (by first | rfl | exact (Nat.add_zero _).symm) (by rfl) ?_
 refine q_int rfl rfl rfl rfl rfl (b_leq _ _ _ _) ?_
 refine r_done ?_
 refine k_then_n ?_
 refine c_cond_p rfl (fun hz => ?_) (fun hz => ?_)
 ·
  refine c_seq ?_
  refine c_draw rfl (.q 0 (.q 1 (.q 2 (.q 3 (.q 4 ((.l 5 [] (.done)))))))) (by kernel_rfl) ?_
  refine q_move rfl rfl rfl rfl ?_
  refine q_nil_p rfl rfl rfl rfl ?_
  refine q_field (k := 5) rfl rfl rfl rfl Try.underlying80 rfl Try.sizeOf78 rfl ?_
  refine q_load_c (j := 5) rfl rfl rfl rfl Try.isAgg78 Tk (by first | rfl | exact (Nat.add_zero _).symm) (by rfl) ?_
  refine q_loadN_c rfl rfl rfl rfl Try.isAgg119 Try.sizeOf119 Tk 0 (us := [_, _]) (by first | rfl | exact (Nat.add_zero _).symm) rfl rfl ?_
  refine l_delete (ek := ek2) (ev1 := evH) (F := F4) (m := m4) (k := (o, (stF x.ck t).2.2)) rfl rfl rfl rfl Try.underlying78 (keyOK_pair Try.underlying119 rfl rfl rfl rfl Try.underlying3 Try.underlying3 Try.isAgg3 Try.isAgg3 (by kernel_rfl)) Tk ?_
  refine ag_nil ?_
  refine r_done ?_
  refine s_rest_none (F := F4) (T := x.rd) (S := []) (o, (stF x.ck t).2.2) (upd F4 (o, (stF x.ck t).2.2) none) (upd x.rd (o, (stF x.ck t).2.2) none) Tk upd_same (fun q h _ => upd_ne h) upd_same (fun q h _ => upd_ne h) ?_
  refine s_vecF tb ja jc (jn l p.1) Ts ?_
  refine s_rest_put (F := F1) (T := x.th) (S := []) t F1 (upd x.th t (some (jn l p.1))) Ts (by simp) htF (fun _ _ _ => rfl) upd_same (fun q h _ => upd_ne h) ?_
  refine s_keep [] (e' := []) rfl ?_
  refine k_then_n ?_
  refine c_ret ?_
  refine k_then_ret ?_
  refine vs_fold (b := b) (dpF x t o) (pa := pa) (pc := pc) (po := po) (poc := poc) (cb := cb) (m1 := m1) (m2 := m2) (m3 := m3) (m4 := m4) Ts (by rw [dpF, hrf, htf, if_pos hz]) (by rfl) ?_
  refine ret0 rfl (()) (by first | rfl | (first | rfl | (congr 1; done) | (congr 1 <;> first | rfl | omega | (simp; done) | (simp; omega)))) (by trivial) ?_
  exact Tf
 ·
  refine c_skip ?_
  refine k_then_n ?_
  refine c_draw rfl (.q 0 (.q 1 (.q 2 (.q 3 (.q 4 (.q 5 ((.l 6 [] (.done))))))))) (by kernel_rfl) ?_
  refine q_move rfl rfl rfl rfl ?_
  refine q_nil_p rfl rfl rfl rfl ?_
  refine q_field (k := 5) rfl rfl rfl rfl Try.underlying80 rfl Try.sizeOf78 rfl ?_
  refine q_load_c (j := 5) rfl rfl rfl rfl Try.isAgg78 Tk (by first | rfl | exact (Nat.add_zero _).symm) (by rfl) ?_
  refine q_loadN_c rfl rfl rfl rfl Try.isAgg119 Try.sizeOf119 Tk 0 (us := [_, _]) (by first | rfl | exact (Nat.add_zero _).symm) rfl rfl ?_
  refine q_loadN_c rfl rfl rfl rfl Try.isAgg121 Try.sizeOf121 Tk 0 (us := [_, _]) (by first | rfl | exact (Nat.add_zero _).symm) rfl rfl ?_
  refine l_mapUpd (ek := ek2) (ev1 := evH) (F := F4) (m := m4) (k := (o, (stF x.ck t).2.2)) (v := ((some ⟨rb, 0, none⟩ : Option Addr), p.2 - 1)) (by first | exact .inl rfl | exact .inr rfl) rfl rfl rfl rfl Try.underlying78 (keyOK_pair Try.underlying119 rfl rfl rfl rfl Try.underlying3 Try.underlying3 Try.isAgg3 Try.isAgg3 (by kernel_rfl)) Tk ?_
  refine ag_nil ?_
  refine r_done ?_
  refine s_keep [] (e' := []) rfl ?_
  refine ret_end ?_
  refine s_vecF rb ra rc p.1 Ts ?_
  refine s_heldF (some ⟨rb, 0, none⟩, p.2 - 1) (p.1, p.2 - 1) Td rfl ?_
  refine s_rest_put (F := F4) (T := x.rd) (S := []) (o, (stF x.ck t).2.2) (upd F4 (o, (stF x.ck t).2.2) (some (some ⟨rb, 0, none⟩, p.2 - 1))) (upd x.rd (o, (stF x.ck t).2.2) (some (p.1, p.2 - 1))) Ts (by simp) upd_same (fun q h _ => upd_ne h) upd_same (fun q h _ => upd_ne h) ?_
  refine s_vecF tb ja jc (jn l p.1) Ts ?_
  refine s_rest_put (F := F1) (T := x.th) (S := []) t F1 (upd x.th t (some (jn l p.1))) Ts (by simp) htF (fun _ _ _ => rfl) upd_same (fun q h _ => upd_ne h) ?_
  refine vs_fold (b := b) (dpF x t o) (pa := pa) (pc := pc) (po := po) (poc := poc) (cb := cb) (m1 := m1) (m2 := m2) (m3 := m3) (m4 := m4) Ts (by rw [dpF, hrf, htf, if_neg hz]) (by rfl) ?_
  refine ret0 rfl (()) (by first | rfl | (first | rfl | (congr 1; done) | (congr 1 <;> first | rfl | omega | (simp; done) | (simp; omega)))) (by trivial) ?_
  exact Tf
end Go.Ab.Dj
set_option linter.unusedVariables false
set_option linter.unusedSimpArgs false
set_option maxRecDepth 100000
namespace Go.Ab.Dj
open Go Go.Proofs Go.Ab Go.Ab.Fe Go.Ab.Vc
theorem vn5 {x : VS} {k t o : Int} {l : List Int} (h : x.th t = some l) (hk : k = 5) : vnF x k t o = ⟨nxF x.ck k t o, upd x.th t (some (mgF (x.lk o) l)), x.lk, x.vo, x.rd⟩ := by rw [vnF, if_pos hk, thF_eq h]
theorem vn3 {x : VS} {k t o : Int} {l : List Int} (h : x.th t = some l) (hk : k = 3) : vnF x k t o = ⟨nxF x.ck k t o, upd x.th t (some (mgF (x.vo o) l)), x.lk, x.vo, x.rd⟩ := by rw [vnF, if_neg (by omega), if_pos hk, thF_eq h]
theorem vn8 {x : VS} {k t o : Int} {l : List Int} (h : x.th t = some l) (hk : k = 8) : vnF x k t o = ⟨nxF x.ck k t o, upd x.th t (some (mgF (x.th o) l)), x.lk, x.vo, x.rd⟩ := by rw [vnF, if_neg (by omega), if_neg (by omega), if_pos hk, thF_eq h]
theorem vn10 {x : VS} {k t o : Int} {l : List Int} (h : x.th t = some l) (hk : k = 10) : vnF x k t o = ⟨nxF x.ck k t o, (dpF x t o).th, (dpF x t o).lk, (dpF x t o).vo, (dpF x t o).rd⟩ := by rw [vnF, if_neg (by omega), if_neg (by omega), if_neg (by omega), if_pos hk]; rfl
theorem vn6 {x : VS} {k t o : Int} {l : List Int} (h : x.th t = some l) (hk : k = 6) : vnF x k t o = ⟨nxF x.ck k t o, upd x.th t (some (icL l t.toNat)), upd x.lk o (some l), x.vo, x.rd⟩ := by rw [vnF, if_neg (by omega), if_neg (by omega), if_neg (by omega), if_neg (by omega), if_pos hk, thF_eq h]
theorem vn4 {x : VS} {k t o : Int} {l : List Int} (h : x.th t = some l) (hk : k = 4) : vnF x k t o = ⟨nxF x.ck k t o, upd x.th t (some (icL l t.toNat)), x.lk, upd x.vo o (some (mgF (x.vo o) l)), x.rd⟩ := by rw [vnF, if_neg (by omega), if_neg (by omega), if_neg (by omega), if_neg (by omega), if_neg (by omega), if_pos hk, thF_eq h]
theorem vn9 {x : VS} {k t o : Int} {l : List Int} (h : x.th t = some l) (hk : k = 9) : vnF x k t o = ⟨nxF x.ck k t o, upd x.th t (some (icL l t.toNat)), x.lk, x.vo, upd x.rd (o, (opF x.ck o).1) (some (mgF ((x.rd (o, (opF x.ck o).1)).map (·.1)) l, x.ck.pa.getD o.toNat 0))⟩ := by rw [vnF, if_neg (by omega), if_neg (by omega), if_neg (by omega), if_neg (by omega), if_neg (by omega), if_neg (by omega), if_pos hk, thF_eq h]
theorem vn7 {x : VS} {k t o : Int} {l : List Int} (h : x.th t = some l) (hk : k = 7) : vnF x k t o = ⟨nxF x.ck k t o, upd (upd x.th o (some (stL l o.toNat 1))) t (some (icL l t.toNat)), x.lk, x.vo, x.rd⟩ := by rw [vnF, if_neg (by omega), if_neg (by omega), if_neg (by omega), if_neg (by omega), if_neg (by omega), if_neg (by omega), if_neg (by omega), if_pos hk, thF_eq h]
theorem vn0 {x : VS} {k t o : Int} (k5 : k ≠ 5) (k3 : k ≠ 3) (k8 : k ≠ 8) (k10 : k ≠ 10) (k6 : k ≠ 6) (k4 : k ≠ 4) (k9 : k ≠ 9) (k7 : k ≠ 7) : vnF x k t o = ⟨nxF x.ck k t o, x.th, x.lk, x.vo, x.rd⟩ := by simp [vnF, *]
theorem nx_pa (x : CS) (k t o : Int) : (nxF x k t o).pa = x.pa := by
  unfold nxF
  split
  · unfold nextF
    repeat (split; · rfl)
    rfl
  · rfl
theorem map_fst_cv {x : VS} (hx : VInv x) {r : Int × Int} {q : List Int} (h : (x.rd r).map (·.1) = some q) : CV q := by
  cases hr : x.rd r with
  | none => rw [hr] at h; cases h
  | some p => rw [hr] at h; cases h; exact hx.rdc _ _ hr
theorem join_ne {x : CS} {t : Int} {k : Int} (hc : canF x k t t) (hk : k = 8) : False := by
  rcases hc with ⟨h1, h2, -⟩ | ⟨h1, -, h2⟩
  · omega
  · unfold okK at h2
    rcases h2 with h | h | h | h | h | h | h | h <;> omega
theorem next_spec (pa : Option Addr) (pc : Nat) (po : Option Addr) (poc b : Nat) (x : VS) (hx : VInv x) (hn : x.ck.n ≤ 1000000000000000) (pl : List Int) (hpl : x.ck.pa = pl) (k t o : Int) (hvc : vcanF x k t o) : Spec Try.prog 31 [.pointer (some ⟨b, 0, none⟩), .agg #[.int .i64 k, .int .i64 t, .int .i64 o]] [vsR pa pc po poc b x, own 1 encZ pa pc pl, own 1 encZ po poc pl] (fun (_ : Unit) => .tuple #[]) (fun _ => True) (fun _ => [vsR pa pc po poc b (vnF x k t o), own 1 encZ pa pc pl, own 1 encZ po poc pl]) := by
 refine spec_mk (n := 178) Try.func31 rfl rfl rfl ?_
 intro Γ w0
 simp only [argE, List.cons_append, List.nil_append, Nat.zero_add, Nat.reduceAdd]
 refine c_seq ?_
 refine c_plain ((.l 0 [] (.done))) (by kernel_rfl) ?_
 refine l_box rfl rfl rfl rfl (us := [_, _, _]) rfl ?_
 intro b3
 refine ag_nil ?_
 refine r_done ?_
 refine k_then_n ?_
 refine c_seq ?_
 obtain ⟨hc, hlt⟩ := hvc
 obtain ⟨l, hth⟩ := th_some hx (can_th hc)
 obtain ⟨h0, h1⟩ := th_rng hx (can_th hc)
 rw [thF_eq hth] at hlt
 have hlc := hx.thc _ _ hth
 have hlen := hlc.len
 obtain ⟨o5, o7, o9, o10, o11⟩ := can_obj hx.ck hc
 have hsh := hx.ck.sh
 refine s_take (A := vsR pa pc po poc b x) Tk ?_
 refine vs_open fun cb m1 m2 m3 m4 F1 F2 F3 F4 => ?_
 refine s_rest_take (F := F1) (T := x.th) (S := []) t Tk (by simp) hth fun tv htF => ?_
 refine s_vec Tk fun tb ta tc hta => ?_
 subst hta
 refine c_draw rfl (.q 0 (.q 1 (.q 2 (.q 3 (.q 4 (.q 5 (.q 6 (.q 7 (.done))))))))) (by kernel_rfl) ?_
 refine q_move rfl rfl rfl rfl ?_
 refine q_nil_p rfl rfl rfl rfl ?_
 refine q_field (k := 2) rfl rfl rfl rfl Try.underlying80 rfl Try.sizeOf77 rfl ?_
 refine q_load_c (j := 2) rfl rfl rfl rfl Try.isAgg77 Tk (by first | rfl | exact (Nat.add_zero _).symm) (by rfl) ?_
 refine q_field (k := 1) rfl rfl rfl rfl Try.underlying36 rfl Try.sizeOf3 rfl ?_
 refine q_load_c (j := 1) rfl rfl rfl rfl Try.isAgg3 Tk (by first | rfl | exact (Nat.add_zero _).symm) (by rfl) ?_
 refine q_lookup1 (ek := ekZ) (ev1 := evA) (F := F1) (m := m1) (k := t) none rfl rfl rfl rfl rfl Try.underlying77 (keyOK_int Try.underlying3) Try.zeroValue106 Tk ?_
 refine s_eq 15 rfl (v' := .pointer (some ⟨tb, 0, none⟩)) (by rw [htF]; rfl) ?_
 refine q_assign rfl rfl rfl rfl ?_
 refine r_done ?_
 refine s_keep [0, 3, 4] (e' := [(0, _), (3, _), (4, _)]) rfl ?_
 refine k_then_n ?_
 refine c_seq ?_
 refine c_seq ?_
 refine c_plain (.q 0 (.q 1 (.done))) (by kernel_rfl) ?_
 refine q_field (k := 0) rfl rfl rfl rfl Try.underlying36 rfl Try.sizeOf34 rfl ?_
 refine q_load_c (j := 0) rfl rfl rfl rfl Try.isAgg34 Tk (by first | rfl | exact (Nat.add_zero _).symm) (by rfl) ?_
 refine r_done ?_
 refine k_then_n ?_
 refine c_block ?_
 refine c_seq ?_
 refine c_plain (.q 0 (.q 1 (.done))) (by kernel_rfl) ?_
 refine q_int rfl rfl rfl rfl rfl (b_eql _ _ _ _) ?_
 refine q_assign rfl rfl rfl rfl ?_
 refine r_done ?_
 refine k_then_n ?_
 refine c_cond_p rfl (fun k5 => ?_) (fun k5 => ?_)
 ·
  refine s_rest_opt (F := F2) (T := x.lk) (S := []) o Tk (by simp) fun hso => ?_
  refine c_draw rfl (.q 0 (.q 1 (.q 2 (.q 3 (.q 4 (.q 5 (.q 6 (.q 7 (.q 8 (.q 9 (.q 10 (.q 11 (.q 12 (.q 13 ((.l 14 [3, 5] ((.l 15 [] (.done))))))))))))))))))) (by kernel_rfl) ?_
  refine q_move rfl rfl rfl rfl ?_
  refine q_nil_p rfl rfl rfl rfl ?_
  refine q_field (k := 2) rfl rfl rfl rfl Try.underlying80 rfl Try.sizeOf77 rfl ?_
  refine q_load_c (j := 2) rfl rfl rfl rfl Try.isAgg77 Tk (by first | rfl | exact (Nat.add_zero _).symm) (by rfl) ?_
  refine q_field (k := 1) rfl rfl rfl rfl Try.underlying36 rfl Try.sizeOf3 rfl ?_
  refine q_load_c (j := 1) rfl rfl rfl rfl Try.isAgg3 Tk (by first | rfl | exact (Nat.add_zero _).symm) (by rfl) ?_
  refine q_move rfl rfl rfl rfl ?_
  refine q_nil_p rfl rfl rfl rfl ?_
  refine q_field (k := 3) rfl rfl rfl rfl Try.underlying80 rfl Try.sizeOf77 rfl ?_
  refine q_load_c (j := 3) rfl rfl rfl rfl Try.isAgg77 Tk (by first | rfl | exact (Nat.add_zero _).symm) (by rfl) ?_
  refine q_field (k := 2) rfl rfl rfl rfl Try.underlying36 rfl Try.sizeOf3 rfl ?_
  refine q_load_c (j := 2) rfl rfl rfl rfl Try.isAgg3 Tk (by first | rfl | exact (Nat.add_zero _).symm) (by rfl) ?_
  refine q_lookup1 (ek := ekZ) (ev1 := evA) (F := F2) (m := m2) (k := o) none rfl rfl rfl rfl rfl Try.underlying77 (keyOK_int Try.underlying3) Try.zeroValue106 Tk ?_
  refine q_move rfl rfl rfl rfl ?_
  have sp_1 := merged_spec ((F2 o).getD none) (x.lk o) (hx.lkc _) tb l ta tc hlc
  refine l_call rfl rfl rfl rfl rfl rfl Try.call51 (sp_1) Ts ?_
  rintro ⟨mb, ma, mc⟩ -
  try simp only [List.cons_append, List.nil_append]
  refine ag_load_c (q := 2) rfl rfl rfl Try.isAgg77 Tk (by first | rfl | exact (Nat.add_zero _).symm) (by rfl) ?_
  refine ag_load_c (q := 1) rfl rfl rfl Try.isAgg3 Tk (by first | rfl | exact (Nat.add_zero _).symm) (by rfl) ?_
  refine ag_nil ?_
  refine l_mapUpd (ek := ekZ) (ev1 := evA) (F := F1) (m := m1) (k := t) (v := (some ⟨mb, 0, none⟩ : Option Addr)) (by first | exact .inl rfl | exact .inr rfl) rfl rfl rfl rfl Try.underlying77 (keyOK_int Try.underlying3) Tk ?_
  refine ag_nil ?_
  refine r_done ?_
  refine s_opt_back (F := F2) (T := x.lk) (S := []) o Ts (by simp) hso ?_
  refine s_vecF mb ma mc (mgF (x.lk o) l) Ts ?_
  refine s_rest_put (F := F1) (T := x.th) (S := []) t (upd F1 t (some (some ⟨mb, 0, none⟩ : Option Addr))) (upd x.th t (some (mgF (x.lk o) l))) Ts (by simp) upd_same (fun q h _ => upd_ne h) upd_same (fun q h _ => upd_ne h) ?_
  refine s_keep [0, 3] (e' := [(0, _), (3, _)]) rfl ?_
  refine k_blk_n ?_
  refine k_then_n ?_
  refine c_draw rfl (.q 0 (.q 1 (.q 2 (.q 3 (.q 4 ((.l 5 [] (.done)))))))) (by kernel_rfl) ?_
  refine q_move rfl rfl rfl rfl ?_
  refine q_nil_p rfl rfl rfl rfl ?_
  refine q_field (k := 0) rfl rfl rfl rfl Try.underlying80 rfl Try.sizeOf76 rfl ?_
  refine q_load_c (j := 0) rfl rfl rfl rfl Try.isAgg76 Tk (by first | rfl | exact (Nat.add_zero _).symm) (by rfl) ?_
  refine q_loadN_c rfl rfl rfl rfl Try.isAgg36 Try.sizeOf36 Tk 0 (us := [_, _, _]) (by first | rfl | exact (Nat.add_zero _).symm) rfl rfl ?_
  have sp_2 := Fe.next_spec pa pc cb x.ck hx.ck (by first | exact hn | omega) pl (hpl) k t o
  refine l_call rfl rfl rfl rfl rfl rfl Try.call57 (sp_2) Ts ?_
  rintro ⟨⟩ -
  try simp only [List.cons_append, List.nil_append]
  refine ag_nil ?_
  refine r_done ?_
  refine s_keep [] (e' := []) rfl ?_
  refine ret_end ?_
  refine vs_fold (b := b) (vnF x k t o) (pa := pa) (pc := pc) (po := po) (poc := poc) (cb := cb) (m1 := m1) (m2 := m2) (m3 := m3) (m4 := m4) Ts (by exact vn5 hth k5) (by rw [nx_pa]) ?_
  refine ret0 rfl (()) (by first | rfl | (first | rfl | (congr 1; done) | (congr 1 <;> first | rfl | omega | (simp; done) | (simp; omega)))) (by trivial) ?_
  exact Tf
 ·
  refine c_seq ?_
  refine c_plain (.q 0 (.q 1 (.done))) (by kernel_rfl) ?_
  refine q_int rfl rfl rfl rfl rfl (b_eql _ _ _ _) ?_
  refine q_assign rfl rfl rfl rfl ?_
  refine r_done ?_
  refine s_keep [0, 3, 4, 17, 35] (e' := [(0, _), (3, _), (4, _), (17, _), (35, _)]) rfl ?_
  refine k_then_n ?_
  refine c_cond_p rfl (fun k3 => ?_) (fun k3 => ?_)
  ·
   refine s_rest_opt (F := F3) (T := x.vo) (S := []) o Tk (by simp) fun hso => ?_
   refine c_draw rfl (.q 0 (.q 1 (.q 2 (.q 3 (.q 4 (.q 5 (.q 6 (.q 7 (.q 8 (.q 9 (.q 10 (.q 11 (.q 12 (.q 13 ((.l 14 [3, 5] ((.l 15 [] (.done))))))))))))))))))) (by kernel_rfl) ?_
   refine q_move rfl rfl rfl rfl ?_
   refine q_nil_p rfl rfl rfl rfl ?_
   refine q_field (k := 2) rfl rfl rfl rfl Try.underlying80 rfl Try.sizeOf77 rfl ?_
   refine q_load_c (j := 2) rfl rfl rfl rfl Try.isAgg77 Tk (by first | rfl | exact (Nat.add_zero _).symm) (by rfl) ?_
   refine q_field (k := 1) rfl rfl rfl rfl Try.underlying36 rfl Try.sizeOf3 rfl ?_
   refine q_load_c (j := 1) rfl rfl rfl rfl Try.isAgg3 Tk (by first | rfl | exact (Nat.add_zero _).symm) (by rfl) ?_
   refine q_move rfl rfl rfl rfl ?_
   refine q_nil_p rfl rfl rfl rfl ?_
   refine q_field (k := 4) rfl rfl rfl rfl Try.underlying80 rfl Try.sizeOf77 rfl ?_
   refine q_load_c (j := 4) rfl rfl rfl rfl Try.isAgg77 Tk (by first | rfl | exact (Nat.add_zero _).symm) (by rfl) ?_
   refine q_field (k := 2) rfl rfl rfl rfl Try.underlying36 rfl Try.sizeOf3 rfl ?_
   refine q_load_c (j := 2) rfl rfl rfl rfl Try.isAgg3 Tk (by first | rfl | exact (Nat.add_zero _).symm) (by rfl) ?_
   refine q_lookup1 (ek := ekZ) (ev1 := evA) (F := F3) (m := m3) (k := o) none rfl rfl rfl rfl rfl Try.underlying77 (keyOK_int Try.underlying3) Try.zeroValue106 Tk ?_
   refine q_move rfl rfl rfl rfl ?_
   have sp_3 := merged_spec ((F3 o).getD none) (x.vo o) (hx.voc _) tb l ta tc hlc
   refine l_call rfl rfl rfl rfl rfl rfl Try.call51 (sp_3) Ts ?_
   rintro ⟨mb, ma, mc⟩ -
   try simp only [List.cons_append, List.nil_append]
   refine ag_load_c (q := 2) rfl rfl rfl Try.isAgg77 Tk (by first | rfl | exact (Nat.add_zero _).symm) (by rfl) ?_
   refine ag_load_c (q := 1) rfl rfl rfl Try.isAgg3 Tk (by first | rfl | exact (Nat.add_zero _).symm) (by rfl) ?_
   refine ag_nil ?_
   refine l_mapUpd (ek := ekZ) (ev1 := evA) (F := F1) (m := m1) (k := t) (v := (some ⟨mb, 0, none⟩ : Option Addr)) (by first | exact .inl rfl | exact .inr rfl) rfl rfl rfl rfl Try.underlying77 (keyOK_int Try.underlying3) Tk ?_
   refine ag_nil ?_
   refine r_done ?_
   refine s_opt_back (F := F3) (T := x.vo) (S := []) o Ts (by simp) hso ?_
   refine s_vecF mb ma mc (mgF (x.vo o) l) Ts ?_
   refine s_rest_put (F := F1) (T := x.th) (S := []) t (upd F1 t (some (some ⟨mb, 0, none⟩ : Option Addr))) (upd x.th t (some (mgF (x.vo o) l))) Ts (by simp) upd_same (fun q h _ => upd_ne h) upd_same (fun q h _ => upd_ne h) ?_
   refine s_keep [0, 3] (e' := [(0, _), (3, _)]) rfl ?_
   refine k_blk_n ?_
   refine k_then_n ?_
   refine c_draw rfl (.q 0 (.q 1 (.q 2 (.q 3 (.q 4 ((.l 5 [] (.done)))))))) (by kernel_rfl) ?_
   refine q_move rfl rfl rfl rfl ?_
   refine q_nil_p rfl rfl rfl rfl ?_
   refine q_field (k := 0) rfl rfl rfl rfl Try.underlying80 rfl Try.sizeOf76 rfl ?_
   refine q_load_c (j := 0) rfl rfl rfl rfl Try.isAgg76 Tk (by first | rfl | exact (Nat.add_zero _).symm) (by rfl) ?_
   refine q_loadN_c rfl rfl rfl rfl Try.isAgg36 Try.sizeOf36 Tk 0 (us := [_, _, _]) (by first | rfl | exact (Nat.add_zero _).symm) rfl rfl ?_
   have sp_4 := Fe.next_spec pa pc cb x.ck hx.ck (by first | exact hn | omega) pl (hpl) k t o
   refine l_call rfl rfl rfl rfl rfl rfl Try.call57 (sp_4) Ts ?_
   rintro ⟨⟩ -
   try simp only [List.cons_append, List.nil_append]
   refine ag_nil ?_
   refine r_done ?_
   refine s_keep [] (e' := []) rfl ?_
   refine ret_end ?_
   refine vs_fold (b := b) (vnF x k t o) (pa := pa) (pc := pc) (po := po) (poc := poc) (cb := cb) (m1 := m1) (m2 := m2) (m3 := m3) (m4 := m4) Ts (by exact vn3 hth k3) (by rw [nx_pa]) ?_
   refine ret0 rfl (()) (by first | rfl | (first | rfl | (congr 1; done) | (congr 1 <;> first | rfl | omega | (simp; done) | (simp; omega)))) (by trivial) ?_
   exact Tf
  ·
   refine c_seq ?_
   refine c_plain (.q 0 (.q 1 (.done))) (by kernel_rfl) ?_
   refine q_int rfl rfl rfl rfl rfl (b_eql _ _ _ _) ?_
   refine q_assign rfl rfl rfl rfl ?_
   refine r_done ?_
   refine k_then_n ?_
   refine c_cond_p rfl (fun k8 => ?_) (fun k8 => ?_)
   ·
    have hne : o ≠ t := by
      intro e; rw [e] at hc
      exact join_ne hc k8
    refine s_rest_opt (F := F1) (T := x.th) (S := [t]) o Tk (by simpa using hne) fun hso => ?_
    refine c_draw rfl (.q 0 (.q 1 (.q 2 (.q 3 (.q 4 (.q 5 (.q 6 (.q 7 (.q 8 (.q 9 (.q 10 (.q 11 (.q 12 (.q 13 ((.l 14 [3, 5] ((.l 15 [] (.done))))))))))))))))))) (by kernel_rfl) ?_
    refine q_move rfl rfl rfl rfl ?_
    refine q_nil_p rfl rfl rfl rfl ?_
    refine q_field (k := 2) rfl rfl rfl rfl Try.underlying80 rfl Try.sizeOf77 rfl ?_
    refine q_load_c (j := 2) rfl rfl rfl rfl Try.isAgg77 Tk (by first | rfl | exact (Nat.add_zero _).symm) (by rfl) ?_
    refine q_field (k := 1) rfl rfl rfl rfl Try.underlying36 rfl Try.sizeOf3 rfl ?_
    refine q_load_c (j := 1) rfl rfl rfl rfl Try.isAgg3 Tk (by first | rfl | exact (Nat.add_zero _).symm) (by rfl) ?_
    refine q_move rfl rfl rfl rfl ?_
    refine q_nil_p rfl rfl rfl rfl ?_
    refine q_field (k := 2) rfl rfl rfl rfl Try.underlying80 rfl Try.sizeOf77 rfl ?_
    refine q_load_c (j := 2) rfl rfl rfl rfl Try.isAgg77 Tk (by first | rfl | exact (Nat.add_zero _).symm) (by rfl) ?_
    refine q_field (k := 2) rfl rfl rfl rfl Try.underlying36 rfl Try.sizeOf3 rfl ?_
    refine q_load_c (j := 2) rfl rfl rfl rfl Try.isAgg3 Tk (by first | rfl | exact (Nat.add_zero _).symm) (by rfl) ?_
    refine q_lookup1 (ek := ekZ) (ev1 := evA) (F := F1) (m := m1) (k := o) none rfl rfl rfl rfl rfl Try.underlying77 (keyOK_int Try.underlying3) Try.zeroValue106 Tk ?_
    refine q_move rfl rfl rfl rfl ?_
    have sp_5 := merged_spec ((F1 o).getD none) (x.th o) (hx.thc _) tb l ta tc hlc
    refine l_call rfl rfl rfl rfl rfl rfl Try.call51 (sp_5) Ts ?_
    rintro ⟨mb, ma, mc⟩ -
    try simp only [List.cons_append, List.nil_append]
    refine ag_load_c (q := 2) rfl rfl rfl Try.isAgg77 Tk (by first | rfl | exact (Nat.add_zero _).symm) (by rfl) ?_
    refine ag_load_c (q := 1) rfl rfl rfl Try.isAgg3 Tk (by first | rfl | exact (Nat.add_zero _).symm) (by rfl) ?_
    refine ag_nil ?_
    refine l_mapUpd (ek := ekZ) (ev1 := evA) (F := F1) (m := m1) (k := t) (v := (some ⟨mb, 0, none⟩ : Option Addr)) (by first | exact .inl rfl | exact .inr rfl) rfl rfl rfl rfl Try.underlying77 (keyOK_int Try.underlying3) Tk ?_
    refine ag_nil ?_
    refine r_done ?_
    refine s_opt_back (F := F1) (T := x.th) (S := [t]) o Ts (by simpa using hne) hso ?_
    refine s_vecF mb ma mc (mgF (x.th o) l) Ts ?_
    refine s_rest_put (F := F1) (T := x.th) (S := []) t (upd F1 t (some (some ⟨mb, 0, none⟩ : Option Addr))) (upd x.th t (some (mgF (x.th o) l))) Ts (by simp) upd_same (fun q h _ => upd_ne h) upd_same (fun q h _ => upd_ne h) ?_
    refine s_keep [0, 3] (e' := [(0, _), (3, _)]) rfl ?_
    refine k_blk_n ?_
    refine k_then_n ?_
    refine c_draw rfl (.q 0 (.q 1 (.q 2 (.q 3 (.q 4 ((.l 5 [] (.done)))))))) (by kernel_rfl) ?_
    refine q_move rfl rfl rfl rfl ?_
    refine q_nil_p rfl rfl rfl rfl ?_
    refine q_field (k := 0) rfl rfl rfl rfl Try.underlying80 rfl Try.sizeOf76 rfl ?_
    refine q_load_c (j := 0) rfl rfl rfl rfl Try.isAgg76 Tk (by first | rfl | exact (Nat.add_zero _).symm) (by rfl) ?_
    refine q_loadN_c rfl rfl rfl rfl Try.isAgg36 Try.sizeOf36 Tk 0 (us := [_, _, _]) (by first | rfl | exact (Nat.add_zero _).symm) rfl rfl ?_
    have sp_6 := Fe.next_spec pa pc cb x.ck hx.ck (by first | exact hn | omega) pl (hpl) k t o
    refine l_call rfl rfl rfl rfl rfl rfl Try.call57 (sp_6) Ts ?_
    rintro ⟨⟩ -
    try simp only [List.cons_append, List.nil_append]
    refine ag_nil ?_
    refine r_done ?_
    refine s_keep [] (e' := []) rfl ?_
    refine ret_end ?_
    refine vs_fold (b := b) (vnF x k t o) (pa := pa) (pc := pc) (po := po) (poc := poc) (cb := cb) (m1 := m1) (m2 := m2) (m3 := m3) (m4 := m4) Ts (by exact vn8 hth k8) (by rw [nx_pa]) ?_
    refine ret0 rfl (()) (by first | rfl | (first | rfl | (congr 1; done) | (congr 1 <;> first | rfl | omega | (simp; done) | (simp; omega)))) (by trivial) ?_
    exact Tf
   ·
    refine c_seq ?_
    refine c_plain (.q 0 (.q 1 (.done))) (by kernel_rfl) ?_
    refine q_int rfl rfl rfl rfl rfl (b_eql _ _ _ _) ?_
    refine q_assign rfl rfl rfl rfl ?_
    refine r_done ?_
    refine s_keep [0, 3, 4, 17, 69] (e' := [(0, _), (3, _), (4, _), (17, _), (69, _)]) rfl ?_
    refine k_then_n ?_
    refine c_cond_p rfl (fun k10 => ?_) (fun k10 => ?_)
    ·
     refine s_vecF tb ta tc l Ts ?_
     refine s_rest_put (F := F1) (T := x.th) (S := []) t F1 x.th Ts (by simp) htF (fun _ _ _ => rfl) hth (fun _ _ _ => rfl) ?_
     refine vs_fold (b := b) x (pa := pa) (pc := pc) (po := po) (poc := poc) (cb := cb) (m1 := m1) (m2 := m2) (m3 := m3) (m4 := m4) Ts (by rfl) (by rfl) ?_
     refine c_plain (.q 0 (.q 1 ((.l 2 [] (.done))))) (by kernel_rfl) ?_
     refine q_move rfl rfl rfl rfl ?_
     refine q_loadN_c rfl rfl rfl rfl Try.isAgg36 Try.sizeOf36 Tk 0 (us := [_, _, _]) (by first | rfl | exact (Nat.add_zero _).symm) rfl rfl ?_
     have sp_7 := depart_spec pa pc po poc b x hx k t o (o10 k10).1 (o10 k10).2.2
     refine l_call rfl rfl rfl rfl rfl rfl Try.call52 (sp_7) Ts ?_
     rintro ⟨⟩ -
     try simp only [List.cons_append, List.nil_append]
     refine ag_nil ?_
     refine r_done ?_
     refine s_take (A := vsR pa pc po poc b (dpF x t o)) Tk ?_
     refine vs_open fun cbz m1z m2z m3z m4z F1z F2z F3z F4z => ?_
     try simp only [show (dpF x t o).ck = x.ck from rfl]
     refine s_keep [0, 3] (e' := [(0, _), (3, _)]) rfl ?_
     refine k_blk_n ?_
     refine k_then_n ?_
     refine c_draw rfl (.q 0 (.q 1 (.q 2 (.q 3 (.q 4 ((.l 5 [] (.done)))))))) (by kernel_rfl) ?_
     refine q_move rfl rfl rfl rfl ?_
     refine q_nil_p rfl rfl rfl rfl ?_
     refine q_field (k := 0) rfl rfl rfl rfl Try.underlying80 rfl Try.sizeOf76 rfl ?_
     refine q_load_c (j := 0) rfl rfl rfl rfl Try.isAgg76 Tk (by first | rfl | exact (Nat.add_zero _).symm) (by rfl) ?_
     refine q_loadN_c rfl rfl rfl rfl Try.isAgg36 Try.sizeOf36 Tk 0 (us := [_, _, _]) (by first | rfl | exact (Nat.add_zero _).symm) rfl rfl ?_
     have sp_8 := Fe.next_spec pa pc cbz x.ck hx.ck (by first | exact hn | omega) pl (hpl) k t o
     refine l_call rfl rfl rfl rfl rfl rfl Try.call57 (sp_8) Ts ?_
     rintro ⟨⟩ -
     try simp only [List.cons_append, List.nil_append]
     refine ag_nil ?_
     refine r_done ?_
     refine s_keep [] (e' := []) rfl ?_
     refine ret_end ?_
     refine vs_fold (b := b) (vnF x k t o) (pa := pa) (pc := pc) (po := po) (poc := poc) (cb := cbz) (m1 := m1z) (m2 := m2z) (m3 := m3z) (m4 := m4z) Ts (by exact vn10 hth k10) (by rw [nx_pa]) ?_
     refine ret0 rfl (()) (by first | rfl | (first | rfl | (congr 1; done) | (congr 1 <;> first | rfl | omega | (simp; done) | (simp; omega)))) (by trivial) ?_
     exact Tf
    ·
     refine c_seq ?_
     refine c_plain (.q 0 (.q 1 (.done))) (by kernel_rfl) ?_
     refine q_int rfl rfl rfl rfl rfl (b_eql _ _ _ _) ?_
     refine q_assign rfl rfl rfl rfl ?_
     refine r_done ?_
     refine k_then_n ?_
     refine c_cond_p rfl (fun k6 => ?_) (fun k6 => ?_)
     ·
      refine c_seq ?_
      refine s_rest_opt (F := F2) (T := x.lk) (S := []) o Tk (by simp) fun hso => ?_
      refine c_draw rfl (.q 0 (.q 1 (.q 2 (.q 3 (.q 4 (.q 5 (.q 6 ((.l 7 [3, 5] ((.l 8 [] (.done)))))))))))) (by kernel_rfl) ?_
      refine q_move rfl rfl rfl rfl ?_
      refine q_nil_p rfl rfl rfl rfl ?_
      refine q_field (k := 3) rfl rfl rfl rfl Try.underlying80 rfl Try.sizeOf77 rfl ?_
      refine q_load_c (j := 3) rfl rfl rfl rfl Try.isAgg77 Tk (by first | rfl | exact (Nat.add_zero _).symm) (by rfl) ?_
      refine q_field (k := 2) rfl rfl rfl rfl Try.underlying36 rfl Try.sizeOf3 rfl ?_
      refine q_load_c (j := 2) rfl rfl rfl rfl Try.isAgg3 Tk (by first | rfl | exact (Nat.add_zero _).symm) (by rfl) ?_
      refine q_move rfl rfl rfl rfl ?_
      have sp_9 := Vc.copy_spec tb l ta l.length tc (by rfl) (by omega)
      refine l_call rfl rfl rfl rfl rfl rfl Try.call53 (sp_9) Ts ?_
      rintro ⟨ub, ua, uc⟩ -
      try simp only [List.cons_append, List.nil_append]
      refine ag_load_c (q := 3) rfl rfl rfl Try.isAgg77 Tk (by first | rfl | exact (Nat.add_zero _).symm) (by rfl) ?_
      refine ag_load_c (q := 2) rfl rfl rfl Try.isAgg3 Tk (by first | rfl | exact (Nat.add_zero _).symm) (by rfl) ?_
      refine ag_nil ?_
      refine l_mapUpd (ek := ekZ) (ev1 := evA) (F := F2) (m := m2) (k := o) (v := (some ⟨ub, 0, none⟩ : Option Addr)) (by first | exact .inl rfl | exact .inr rfl) rfl rfl rfl rfl Try.underlying77 (keyOK_int Try.underlying3) Tk ?_
      refine ag_nil ?_
      refine r_done ?_
      refine s_vecF ub ua uc l Ts ?_
      refine s_rest_put (F := F2) (T := x.lk) (S := []) o (upd F2 o (some (some ⟨ub, 0, none⟩ : Option Addr))) (upd x.lk o (some l)) Ts (by simp) upd_same (fun q h _ => upd_ne h) upd_same (fun q h _ => upd_ne h) ?_
      refine s_keep [0, 3, 4] (e' := [(0, _), (3, _), (4, _)]) rfl ?_
      refine k_then_n ?_
      refine c_plain (.q 0 (.q 1 (.q 2 ((.l 3 [] (.done)))))) (by kernel_rfl) ?_
      refine q_move rfl rfl rfl rfl ?_
      refine q_field (k := 1) rfl rfl rfl rfl Try.underlying36 rfl Try.sizeOf3 rfl ?_
      refine q_load_c (j := 1) rfl rfl rfl rfl Try.isAgg3 Tk (by first | rfl | exact (Nat.add_zero _).symm) (by rfl) ?_
      have sp_10 := inc_z tb l ta l.length tc (by first | rfl | assumption | omega | (simp; done) | (simp; omega)) hlc t (by omega) (by omega) (by exact hlt (by unfold relK; omega))
      refine l_call rfl rfl rfl rfl rfl rfl Try.call54 (sp_10) Ts ?_
      rintro ⟨ia, ic⟩ -
      try simp only [List.cons_append, List.nil_append]
      refine ag_nil ?_
      refine r_done ?_
      refine s_vecF tb ia ic (icL l t.toNat) Ts ?_
      refine s_rest_put (F := F1) (T := x.th) (S := []) t F1 (upd x.th t (some (icL l t.toNat))) Ts (by simp) htF (fun _ _ _ => rfl) upd_same (fun q h _ => upd_ne h) ?_
      refine s_keep [0, 3] (e' := [(0, _), (3, _)]) rfl ?_
      refine k_blk_n ?_
      refine k_then_n ?_
      refine c_draw rfl (.q 0 (.q 1 (.q 2 (.q 3 (.q 4 ((.l 5 [] (.done)))))))) (by kernel_rfl) ?_
      refine q_move rfl rfl rfl rfl ?_
      refine q_nil_p rfl rfl rfl rfl ?_
      refine q_field (k := 0) rfl rfl rfl rfl Try.underlying80 rfl Try.sizeOf76 rfl ?_
      refine q_load_c (j := 0) rfl rfl rfl rfl Try.isAgg76 Tk (by first | rfl | exact (Nat.add_zero _).symm) (by rfl) ?_
      refine q_loadN_c rfl rfl rfl rfl Try.isAgg36 Try.sizeOf36 Tk 0 (us := [_, _, _]) (by first | rfl | exact (Nat.add_zero _).symm) rfl rfl ?_
      have sp_11 := Fe.next_spec pa pc cb x.ck hx.ck (by first | exact hn | omega) pl (hpl) k t o
      refine l_call rfl rfl rfl rfl rfl rfl Try.call57 (sp_11) Ts ?_
      rintro ⟨⟩ -
      try simp only [List.cons_append, List.nil_append]
      refine ag_nil ?_
      refine r_done ?_
      refine s_keep [] (e' := []) rfl ?_
      refine ret_end ?_
      refine vs_fold (b := b) (vnF x k t o) (pa := pa) (pc := pc) (po := po) (poc := poc) (cb := cb) (m1 := m1) (m2 := m2) (m3 := m3) (m4 := m4) Ts (by exact vn6 hth k6) (by rw [nx_pa]) ?_
      refine ret0 rfl (()) (by first | rfl | (first | rfl | (congr 1; done) | (congr 1 <;> first | rfl | omega | (simp; done) | (simp; omega)))) (by trivial) ?_
      exact Tf
     ·
      refine c_seq ?_
      refine c_plain (.q 0 (.q 1 (.done))) (by kernel_rfl) ?_
      refine q_int rfl rfl rfl rfl rfl (b_eql _ _ _ _) ?_
      refine q_assign rfl rfl rfl rfl ?_
      refine r_done ?_
      refine s_keep [0, 3, 4, 17, 88] (e' := [(0, _), (3, _), (4, _), (17, _), (88, _)]) rfl ?_
      refine k_then_n ?_
      refine c_cond_p rfl (fun k4 => ?_) (fun k4 => ?_)
      ·
       refine c_seq ?_
       refine s_rest_opt (F := F3) (T := x.vo) (S := []) o Tk (by simp) fun hso => ?_
       refine c_draw rfl (.q 0 (.q 1 (.q 2 (.q 3 (.q 4 (.q 5 (.q 6 (.q 7 (.q 8 (.q 9 (.q 10 (.q 11 (.q 12 (.q 13 ((.l 14 [3, 5] ((.l 15 [] (.done))))))))))))))))))) (by kernel_rfl) ?_
       refine q_move rfl rfl rfl rfl ?_
       refine q_nil_p rfl rfl rfl rfl ?_
       refine q_field (k := 4) rfl rfl rfl rfl Try.underlying80 rfl Try.sizeOf77 rfl ?_
       refine q_load_c (j := 4) rfl rfl rfl rfl Try.isAgg77 Tk (by first | rfl | exact (Nat.add_zero _).symm) (by rfl) ?_
       refine q_field (k := 2) rfl rfl rfl rfl Try.underlying36 rfl Try.sizeOf3 rfl ?_
       refine q_load_c (j := 2) rfl rfl rfl rfl Try.isAgg3 Tk (by first | rfl | exact (Nat.add_zero _).symm) (by rfl) ?_
       refine q_move rfl rfl rfl rfl ?_
       refine q_nil_p rfl rfl rfl rfl ?_
       refine q_field (k := 4) rfl rfl rfl rfl Try.underlying80 rfl Try.sizeOf77 rfl ?_
       refine q_load_c (j := 4) rfl rfl rfl rfl Try.isAgg77 Tk (by first | rfl | exact (Nat.add_zero _).symm) (by rfl) ?_
       refine q_field (k := 2) rfl rfl rfl rfl Try.underlying36 rfl Try.sizeOf3 rfl ?_
       refine q_load_c (j := 2) rfl rfl rfl rfl Try.isAgg3 Tk (by first | rfl | exact (Nat.add_zero _).symm) (by rfl) ?_
       refine q_lookup1 (ek := ekZ) (ev1 := evA) (F := F3) (m := m3) (k := o) none rfl rfl rfl rfl rfl Try.underlying77 (keyOK_int Try.underlying3) Try.zeroValue106 Tk ?_
       refine q_move rfl rfl rfl rfl ?_
       have sp_12 := merged_spec ((F3 o).getD none) (x.vo o) (hx.voc _) tb l ta tc hlc
       refine l_call rfl rfl rfl rfl rfl rfl Try.call51 (sp_12) Ts ?_
       rintro ⟨mb, ma, mc⟩ -
       try simp only [List.cons_append, List.nil_append]
       refine ag_load_c (q := 4) rfl rfl rfl Try.isAgg77 Tk (by first | rfl | exact (Nat.add_zero _).symm) (by rfl) ?_
       refine ag_load_c (q := 2) rfl rfl rfl Try.isAgg3 Tk (by first | rfl | exact (Nat.add_zero _).symm) (by rfl) ?_
       refine ag_nil ?_
       refine l_mapUpd (ek := ekZ) (ev1 := evA) (F := F3) (m := m3) (k := o) (v := (some ⟨mb, 0, none⟩ : Option Addr)) (by first | exact .inl rfl | exact .inr rfl) rfl rfl rfl rfl Try.underlying77 (keyOK_int Try.underlying3) Tk ?_
       refine ag_nil ?_
       refine r_done ?_
       refine s_vecF mb ma mc (mgF (x.vo o) l) Ts ?_
       refine s_rest_put (F := F3) (T := x.vo) (S := []) o (upd F3 o (some (some ⟨mb, 0, none⟩ : Option Addr))) (upd x.vo o (some (mgF (x.vo o) l))) Ts (by simp) upd_same (fun q h _ => upd_ne h) upd_same (fun q h _ => upd_ne h) ?_
       refine s_keep [0, 3, 4] (e' := [(0, _), (3, _), (4, _)]) rfl ?_
       refine k_then_n ?_
       refine c_plain (.q 0 (.q 1 (.q 2 ((.l 3 [] (.done)))))) (by kernel_rfl) ?_
       refine q_move rfl rfl rfl rfl ?_
       refine q_field (k := 1) rfl rfl rfl rfl Try.underlying36 rfl Try.sizeOf3 rfl ?_
       refine q_load_c (j := 1) rfl rfl rfl rfl Try.isAgg3 Tk (by first | rfl | exact (Nat.add_zero _).symm) (by rfl) ?_
       have sp_13 := inc_z tb l ta l.length tc (by first | rfl | assumption | omega | (simp; done) | (simp; omega)) hlc t (by omega) (by omega) (by exact hlt (by unfold relK; omega))
       refine l_call rfl rfl rfl rfl rfl rfl Try.call54 (sp_13) Ts ?_
       rintro ⟨ia, ic⟩ -
       try simp only [List.cons_append, List.nil_append]
       refine ag_nil ?_
       refine r_done ?_
       refine s_vecF tb ia ic (icL l t.toNat) Ts ?_
       refine s_rest_put (F := F1) (T := x.th) (S := []) t F1 (upd x.th t (some (icL l t.toNat))) Ts (by simp) htF (fun _ _ _ => rfl) upd_same (fun q h _ => upd_ne h) ?_
       refine s_keep [0, 3] (e' := [(0, _), (3, _)]) rfl ?_
       refine k_blk_n ?_
       refine k_then_n ?_
       refine c_draw rfl (.q 0 (.q 1 (.q 2 (.q 3 (.q 4 ((.l 5 [] (.done)))))))) (by kernel_rfl) ?_
       refine q_move rfl rfl rfl rfl ?_
       refine q_nil_p rfl rfl rfl rfl ?_
       refine q_field (k := 0) rfl rfl rfl rfl Try.underlying80 rfl Try.sizeOf76 rfl ?_
       refine q_load_c (j := 0) rfl rfl rfl rfl Try.isAgg76 Tk (by first | rfl | exact (Nat.add_zero _).symm) (by rfl) ?_
       refine q_loadN_c rfl rfl rfl rfl Try.isAgg36 Try.sizeOf36 Tk 0 (us := [_, _, _]) (by first | rfl | exact (Nat.add_zero _).symm) rfl rfl ?_
       have sp_14 := Fe.next_spec pa pc cb x.ck hx.ck (by first | exact hn | omega) pl (hpl) k t o
       refine l_call rfl rfl rfl rfl rfl rfl Try.call57 (sp_14) Ts ?_
       rintro ⟨⟩ -
       try simp only [List.cons_append, List.nil_append]
       refine ag_nil ?_
       refine r_done ?_
       refine s_keep [] (e' := []) rfl ?_
       refine ret_end ?_
       refine vs_fold (b := b) (vnF x k t o) (pa := pa) (pc := pc) (po := po) (poc := poc) (cb := cb) (m1 := m1) (m2 := m2) (m3 := m3) (m4 := m4) Ts (by exact vn4 hth k4) (by rw [nx_pa]) ?_
       refine ret0 rfl (()) (by first | rfl | (first | rfl | (congr 1; done) | (congr 1 <;> first | rfl | omega | (simp; done) | (simp; omega)))) (by trivial) ?_
       exact Tf
      ·
       refine c_seq ?_
       refine c_plain (.q 0 (.q 1 (.done))) (by kernel_rfl) ?_
       refine q_int rfl rfl rfl rfl rfl (b_eql _ _ _ _) ?_
       refine q_assign rfl rfl rfl rfl ?_
       refine r_done ?_
       refine k_then_n ?_
       refine c_cond_p rfl (fun k9 => ?_) (fun k9 => ?_)
       ·
        refine c_seq ?_
        obtain ⟨p0, p1, p2, p3⟩ := o9 k9
        have hyes : 0 ≤ o ∧ o < (x.ck.B.length : Int) := ⟨p0, by omega⟩
        refine c_draw rfl (.q 0 (.q 1 (.q 2 (.q 3 (.q 4 (.q 5 ((.alt (.l 6 [] (.q 7 (.q 8 (.q 9 ((.l 10 [] ((.l 11 [] (.q 12 (.done)))))))))) (.l 10 [3, 5] ((.l 6 [] (.q 7 (.q 8 (.q 9 ((.l 11 [] (.q 12 (.done)))))))))))))))))) (by kernel_rfl) ?_
        refine q_move rfl rfl rfl rfl ?_
        refine q_nil_p rfl rfl rfl rfl ?_
        refine q_field (k := 0) rfl rfl rfl rfl Try.underlying80 rfl Try.sizeOf76 rfl ?_
        refine q_load_c (j := 0) rfl rfl rfl rfl Try.isAgg76 Tk (by first | rfl | exact (Nat.add_zero _).symm) (by rfl) ?_
        refine q_field (k := 2) rfl rfl rfl rfl Try.underlying36 rfl Try.sizeOf3 rfl ?_
        refine q_load_c (j := 2) rfl rfl rfl rfl Try.isAgg3 Tk (by first | rfl | exact (Nat.add_zero _).symm) (by rfl) ?_
        refine r_alt ?_ ?_
        ·
         have sp_15 := Fe.round_spec pa pc cb x.ck o
         refine l_call rfl rfl rfl rfl rfl rfl Try.call55 (sp_15) Ts ?_
         rintro ⟨⟩ -
         try simp only [List.cons_append, List.nil_append]
         refine ag_nil ?_
         refine s_eq 118 rfl (v' := .tuple #[.agg #[.int .i64 ((opF x.ck o).1), .int .i64 ((opF x.ck o).2)], .int .i64 0]) (by rw [if_pos hyes, if_pos hyes]) ?_
         refine q_move rfl rfl rfl rfl ?_
         refine q_extract rfl rfl rfl rfl rfl ?_
         refine q_extract rfl rfl rfl rfl rfl ?_
         refine l_alloc rfl rfl rfl Try.zeroValue90 (zs := [.int .i64 0, .int .i64 0]) rfl ?_
         intro b5
         refine ag_nil ?_
         refine l_store (j := 0) rfl rfl rfl rfl Try.sizeOf90 (us := [_, _]) rfl rfl rfl Tk (by first | rfl | exact (Nat.add_zero _).symm) (by first | decide | (simp; done) | omega) ?_
         simp only [setL, List.set]
         refine ag_nil ?_
         refine q_assign rfl rfl rfl rfl ?_
         refine r_done ?_
         refine s_keep [0, 3, 4, 5] (e' := [(0, _), (3, _), (4, _), (5, _)]) rfl ?_
         refine k_then_n ?_
         refine c_seq ?_
         refine c_plain (.q 0 (.q 1 (.q 2 (.q 3 (.q 4 ((.l 5 [] ((.l 6 [] (.done)))))))))) (by kernel_rfl) ?_
         refine q_field (k := 2) rfl rfl rfl rfl Try.underlying36 rfl Try.sizeOf3 rfl ?_
         refine q_load_c (j := 2) rfl rfl rfl rfl Try.isAgg3 Tk (by first | rfl | exact (Nat.add_zero _).symm) (by rfl) ?_
         refine q_field (k := 0) rfl rfl rfl rfl Try.underlying90 rfl Try.sizeOf3 rfl ?_
         refine q_load_c (j := 0) rfl rfl rfl rfl Try.isAgg3 Tk (by first | rfl | exact (Nat.add_zero _).symm) (by rfl) ?_
         refine q_build rfl rfl rfl rfl (vs := [_, _]) (run_buildS Try.underlying119 Try.zeroValue119 (ps := [(0, 1), (1, 1)]) ⟨rfl, Try.sizeOf3, rfl, Try.sizeOf3, trivial⟩ rfl) ?_
         refine l_alloc rfl rfl rfl Try.zeroValue119 (zs := [.int .i64 0, .int .i64 0]) rfl ?_
         intro b7
         refine ag_nil ?_
         refine l_store (j := 0) rfl rfl rfl rfl Try.sizeOf119 (us := [_, _]) rfl rfl rfl Tk (by first | rfl | exact (Nat.add_zero _).symm) (by first | decide | (simp; done) | omega) ?_
         simp only [setL, List.set]
         refine ag_nil ?_
         refine r_done ?_
         refine s_keep [0, 3, 4, 7] (e' := [(0, _), (3, _), (4, _), (7, _)]) rfl ?_
         refine k_then_n ?_
         refine c_seq ?_
         obtain ⟨pp, hpp⟩ := get_lt (l := pl) (i := o.toNat) (by rw [← hpl]; omega)
         refine s_rest_optH (G := F4) (U := x.rd) (S := []) (o, (opF x.ck o).1) Tk (by simp) ?_
         refine c_draw rfl (.q 0 (.q 1 (.q 2 (.q 3 (.q 4 (.q 5 (.q 6 (.q 7 (.q 8 (.q 9 (.q 10 (.q 11 (.q 12 (.q 14 (.q 15 (.q 16 (.q 17 (.q 18 (.q 19 (.q 20 (.q 21 ((.l 13 [3, 4, 17, 19, 21] (.q 22 ((.l 23 [] (.done))))))))))))))))))))))))))) (by kernel_rfl) ?_
         refine q_move rfl rfl rfl rfl ?_
         refine q_nil_p rfl rfl rfl rfl ?_
         refine q_field (k := 5) rfl rfl rfl rfl Try.underlying80 rfl Try.sizeOf78 rfl ?_
         refine q_load_c (j := 5) rfl rfl rfl rfl Try.isAgg78 Tk (by first | rfl | exact (Nat.add_zero _).symm) (by rfl) ?_
         refine q_loadN_c rfl rfl rfl rfl Try.isAgg119 Try.sizeOf119 Tk 0 (us := [_, _]) (by first | rfl | exact (Nat.add_zero _).symm) rfl rfl ?_
         refine q_move rfl rfl rfl rfl ?_
         refine q_nil_p rfl rfl rfl rfl ?_
         refine q_field (k := 5) rfl rfl rfl rfl Try.underlying80 rfl Try.sizeOf78 rfl ?_
         refine q_load_c (j := 5) rfl rfl rfl rfl Try.isAgg78 Tk (by first | rfl | exact (Nat.add_zero _).symm) (by rfl) ?_
         refine q_loadN_c rfl rfl rfl rfl Try.isAgg119 Try.sizeOf119 Tk 0 (us := [_, _]) (by first | rfl | exact (Nat.add_zero _).symm) rfl rfl ?_
         refine q_lookup1 (ek := ek2) (ev1 := evH) (F := F4) (m := m4) (k := (o, (opF x.ck o).1)) (none, 0) rfl rfl rfl rfl rfl Try.underlying78 (keyOK_pair Try.underlying119 rfl rfl rfl rfl Try.underlying3 Try.underlying3 Try.isAgg3 Try.isAgg3 (by kernel_rfl)) Try.zeroValue121 Tk ?_
         refine q_fld rfl rfl rfl rfl Try.underlying121 rfl Try.isAgg106 rfl ?_
         refine q_move rfl rfl rfl rfl ?_
         refine q_move rfl rfl rfl rfl ?_
         refine q_nil_p rfl rfl rfl rfl ?_
         refine q_field (k := 1) rfl rfl rfl rfl Try.underlying80 rfl Try.sizeOf23 rfl ?_
         refine q_load_c (j := 1) rfl rfl rfl rfl Try.isAgg23 Tk (by first | rfl | exact (Nat.add_zero _).symm) (by rfl) ?_
         refine q_field (k := 2) rfl rfl rfl rfl Try.underlying36 rfl Try.sizeOf3 rfl ?_
         refine q_load_c (j := 2) rfl rfl rfl rfl Try.isAgg3 Tk (by first | rfl | exact (Nat.add_zero _).symm) (by rfl) ?_
         refine q_idxO (sz := 0) (k := o.toNat) (enc := encZ) (xs := pl) rfl rfl rfl rfl rfl Try.underlying23 Try.sizeOf3 hpp (by omega) (by omega) Tk ?_
         intro ib146 io146 ha146 hl146 hc146
         refine q_load_O (v := (.int .i64 pp)) (j := 0) (k' := o.toNat) (enc := encZ) (off := io146) rfl rfl rfl rfl Try.isAgg3 ha146 encZ_len hpp Tk (by first | rfl | exact (Nat.add_zero _).symm | omega) (by rfl) ?_
         have sp_16 := merged_spec (((F4 (o, (opF x.ck o).1)).getD (none, 0)).1) ((x.rd (o, (opF x.ck o).1)).map (·.1)) (fun _ => map_fst_cv hx) tb l ta tc hlc
         refine l_call rfl rfl rfl rfl rfl rfl Try.call51 (sp_16) Ts ?_
         rintro ⟨mb, ma, mc⟩ -
         try simp only [List.cons_append, List.nil_append]
         refine ag_load_c (q := 5) rfl rfl rfl Try.isAgg78 Tk (by first | rfl | exact (Nat.add_zero _).symm) (by rfl) ?_
         refine ag_loadN_c rfl rfl (us := [_, _]) rfl Try.isAgg119 Try.sizeOf119 Tk 0 (by first | rfl | exact (Nat.add_zero _).symm) rfl rfl ?_
         refine ag_load_c (q := 1) rfl rfl rfl Try.isAgg23 Tk (by first | rfl | exact (Nat.add_zero _).symm) (by rfl) ?_
         refine ag_load_c (q := 2) rfl rfl rfl Try.isAgg3 Tk (by first | rfl | exact (Nat.add_zero _).symm) (by rfl) ?_
         refine ag_load_O (v := (.int .i64 pp)) (j := 0) (k' := o.toNat) (enc := encZ) (off := io146) rfl rfl rfl Try.isAgg3 ha146 encZ_len hpp Tk (by first | rfl | exact (Nat.add_zero _).symm | omega) (by rfl) ?_
         refine ag_nil ?_
         refine q_build rfl rfl rfl rfl (vs := [_, _]) (run_buildS Try.underlying121 Try.zeroValue121 (ps := [(0, 1), (1, 1)]) ⟨rfl, Try.sizeOf106, rfl, Try.sizeOf3, trivial⟩ rfl) ?_
         refine l_mapUpd (ek := ek2) (ev1 := evH) (F := F4) (m := m4) (k := (o, (opF x.ck o).1)) (v := ((some ⟨mb, 0, none⟩ : Option Addr), pp)) (by first | exact .inl rfl | exact .inr rfl) rfl rfl rfl rfl Try.underlying78 (keyOK_pair Try.underlying119 rfl rfl rfl rfl Try.underlying3 Try.underlying3 Try.isAgg3 Try.isAgg3 (by kernel_rfl)) Tk ?_
         refine ag_nil ?_
         refine r_done ?_
         refine s_vecF mb ma mc (mgF ((x.rd (o, (opF x.ck o).1)).map (·.1)) l) Ts ?_
         refine s_heldF (some ⟨mb, 0, none⟩, pp) (mgF ((x.rd (o, (opF x.ck o).1)).map (·.1)) l, pp) Td rfl ?_
         refine s_rest_put (F := F4) (T := x.rd) (S := []) (o, (opF x.ck o).1) (upd F4 (o, (opF x.ck o).1) (some (some ⟨mb, 0, none⟩, pp))) (upd x.rd (o, (opF x.ck o).1) (some (mgF ((x.rd (o, (opF x.ck o).1)).map (·.1)) l, pp))) Ts (by simp) upd_same (fun q h _ => upd_ne h) upd_same (fun q h _ => upd_ne h) ?_
         refine s_keep [0, 3, 4] (e' := [(0, _), (3, _), (4, _)]) rfl ?_
         refine k_then_n ?_
         refine c_plain (.q 0 (.q 1 (.q 2 ((.l 3 [] (.done)))))) (by kernel_rfl) ?_
         refine q_move rfl rfl rfl rfl ?_
         refine q_field (k := 1) rfl rfl rfl rfl Try.underlying36 rfl Try.sizeOf3 rfl ?_
         refine q_load_c (j := 1) rfl rfl rfl rfl Try.isAgg3 Tk (by first | rfl | exact (Nat.add_zero _).symm) (by rfl) ?_
         have sp_17 := inc_z tb l ta l.length tc (by first | rfl | assumption | omega | (simp; done) | (simp; omega)) hlc t (by omega) (by omega) (by exact hlt (by unfold relK; omega))
         refine l_call rfl rfl rfl rfl rfl rfl Try.call54 (sp_17) Ts ?_
         rintro ⟨ia, ic⟩ -
         try simp only [List.cons_append, List.nil_append]
         refine ag_nil ?_
         refine r_done ?_
         refine s_vecF tb ia ic (icL l t.toNat) Ts ?_
         refine s_rest_put (F := F1) (T := x.th) (S := []) t F1 (upd x.th t (some (icL l t.toNat))) Ts (by simp) htF (fun _ _ _ => rfl) upd_same (fun q h _ => upd_ne h) ?_
         refine s_keep [0, 3] (e' := [(0, _), (3, _)]) rfl ?_
         refine k_blk_n ?_
         refine k_then_n ?_
         refine c_draw rfl (.q 0 (.q 1 (.q 2 (.q 3 (.q 4 ((.l 5 [] (.done)))))))) (by kernel_rfl) ?_
         refine q_move rfl rfl rfl rfl ?_
         refine q_nil_p rfl rfl rfl rfl ?_
         refine q_field (k := 0) rfl rfl rfl rfl Try.underlying80 rfl Try.sizeOf76 rfl ?_
         refine q_load_c (j := 0) rfl rfl rfl rfl Try.isAgg76 Tk (by first | rfl | exact (Nat.add_zero _).symm) (by rfl) ?_
         refine q_loadN_c rfl rfl rfl rfl Try.isAgg36 Try.sizeOf36 Tk 0 (us := [_, _, _]) (by first | rfl | exact (Nat.add_zero _).symm) rfl rfl ?_
         have sp_18 := Fe.next_spec pa pc cb x.ck hx.ck (by first | exact hn | omega) pl (hpl) k t o
         refine l_call rfl rfl rfl rfl rfl rfl Try.call57 (sp_18) Ts ?_
         rintro ⟨⟩ -
         try simp only [List.cons_append, List.nil_append]
         refine ag_nil ?_
         refine r_done ?_
         refine s_keep [] (e' := []) rfl ?_
         refine ret_end ?_
         refine vs_fold (b := b) (vnF x k t o) (pa := pa) (pc := pc) (po := po) (poc := poc) (cb := cb) (m1 := m1) (m2 := m2) (m3 := m3) (m4 := m4) Ts (by rw [vn9 hth k9, show x.ck.pa.getD o.toNat 0 = pp from by rw [hpl]; exact getD_some hpp]) (by rw [nx_pa]) ?_
         refine ret0 rfl (()) (by first | rfl | (first | rfl | (congr 1; done) | (congr 1 <;> first | rfl | omega | (simp; done) | (simp; omega)))) (by trivial) ?_
         exact Tf
        refine l_alloc rfl rfl rfl Try.zeroValue90 (zs := [.int .i64 0, .int .i64 0]) rfl ?_
        intro b5
        refine ag_load_c (q := 0) rfl rfl rfl Try.isAgg76 Tk (by first | rfl | exact (Nat.add_zero _).symm) (by rfl) ?_
        refine ag_load_c (q := 2) rfl rfl rfl Try.isAgg3 Tk (by first | rfl | exact (Nat.add_zero _).symm) (by rfl) ?_
        refine ag_nil ?_
        have sp_19 := Fe.round_spec pa pc cb x.ck o
        refine l_call rfl rfl rfl rfl rfl rfl Try.call55 (sp_19) Ts ?_
        rintro ⟨⟩ -
        try simp only [List.cons_append, List.nil_append]
        refine ag_nil ?_
        refine s_eq 118 rfl (v' := .tuple #[.agg #[.int .i64 ((opF x.ck o).1), .int .i64 ((opF x.ck o).2)], .int .i64 0]) (by rw [if_pos hyes, if_pos hyes]) ?_
        refine q_move rfl rfl rfl rfl ?_
        refine q_extract rfl rfl rfl rfl rfl ?_
        refine q_extract rfl rfl rfl rfl rfl ?_
        refine l_store (j := 0) rfl rfl rfl rfl Try.sizeOf90 (us := [_, _]) rfl rfl rfl Tk (by first | rfl | exact (Nat.add_zero _).symm) (by first | decide | (simp; done) | omega) ?_
        simp only [setL, List.set]
        refine ag_nil ?_
        refine q_assign rfl rfl rfl rfl ?_
        refine r_done ?_
        refine s_keep [0, 3, 4, 5] (e' := [(0, _), (3, _), (4, _), (5, _)]) rfl ?_
        refine k_then_n ?_
        refine c_seq ?_
        refine c_plain (.q 0 (.q 1 (.q 2 (.q 3 (.q 4 ((.l 5 [] ((.l 6 [] (.done)))))))))) (by kernel_rfl) ?_
        refine q_field (k := 2) rfl rfl rfl rfl Try.underlying36 rfl Try.sizeOf3 rfl ?_
        refine q_load_c (j := 2) rfl rfl rfl rfl Try.isAgg3 Tk (by first | rfl | exact (Nat.add_zero _).symm) (by rfl) ?_
        refine q_field (k := 0) rfl rfl rfl rfl Try.underlying90 rfl Try.sizeOf3 rfl ?_
        refine q_load_c (j := 0) rfl rfl rfl rfl Try.isAgg3 Tk (by first | rfl | exact (Nat.add_zero _).symm) (by rfl) ?_
        refine q_build rfl rfl rfl rfl (vs := [_, _]) (run_buildS Try.underlying119 Try.zeroValue119 (ps := [(0, 1), (1, 1)]) ⟨rfl, Try.sizeOf3, rfl, Try.sizeOf3, trivial⟩ rfl) ?_
        refine l_alloc rfl rfl rfl Try.zeroValue119 (zs := [.int .i64 0, .int .i64 0]) rfl ?_
        intro b7
        refine ag_nil ?_
        refine l_store (j := 0) rfl rfl rfl rfl Try.sizeOf119 (us := [_, _]) rfl rfl rfl Tk (by first | rfl | exact (Nat.add_zero _).symm) (by first | decide | (simp; done) | omega) ?_
        simp only [setL, List.set]
        refine ag_nil ?_
        refine r_done ?_
        refine s_keep [0, 3, 4, 7] (e' := [(0, _), (3, _), (4, _), (7, _)]) rfl ?_
        refine k_then_n ?_
        refine c_seq ?_
        obtain ⟨pp, hpp⟩ := get_lt (l := pl) (i := o.toNat) (by rw [← hpl]; omega)
        refine s_rest_optH (G := F4) (U := x.rd) (S := []) (o, (opF x.ck o).1) Tk (by simp) ?_
        refine c_draw rfl (.q 0 (.q 1 (.q 2 (.q 3 (.q 4 (.q 5 (.q 6 (.q 7 (.q 8 (.q 9 (.q 10 (.q 11 (.q 12 (.q 14 (.q 15 (.q 16 (.q 17 (.q 18 (.q 19 (.q 20 (.q 21 ((.l 13 [3, 4, 17, 19, 21] (.q 22 ((.l 23 [] (.done))))))))))))))))))))))))))) (by kernel_rfl) ?_
        refine q_move rfl rfl rfl rfl ?_
        refine q_nil_p rfl rfl rfl rfl ?_
        refine q_field (k := 5) rfl rfl rfl rfl Try.underlying80 rfl Try.sizeOf78 rfl ?_
        refine q_load_c (j := 5) rfl rfl rfl rfl Try.isAgg78 Tk (by first | rfl | exact (Nat.add_zero _).symm) (by rfl) ?_
        refine q_loadN_c rfl rfl rfl rfl Try.isAgg119 Try.sizeOf119 Tk 0 (us := [_, _]) (by first | rfl | exact (Nat.add_zero _).symm) rfl rfl ?_
        refine q_move rfl rfl rfl rfl ?_
        refine q_nil_p rfl rfl rfl rfl ?_
        refine q_field (k := 5) rfl rfl rfl rfl Try.underlying80 rfl Try.sizeOf78 rfl ?_
        refine q_load_c (j := 5) rfl rfl rfl rfl Try.isAgg78 Tk (by first | rfl | exact (Nat.add_zero _).symm) (by rfl) ?_
        refine q_loadN_c rfl rfl rfl rfl Try.isAgg119 Try.sizeOf119 Tk 0 (us := [_, _]) (by first | rfl | exact (Nat.add_zero _).symm) rfl rfl ?_
        refine q_lookup1 (ek := ek2) (ev1 := evH) (F := F4) (m := m4) (k := (o, (opF x.ck o).1)) (none, 0) rfl rfl rfl rfl rfl Try.underlying78 (keyOK_pair Try.underlying119 rfl rfl rfl rfl Try.underlying3 Try.underlying3 Try.isAgg3 Try.isAgg3 (by kernel_rfl)) Try.zeroValue121 Tk ?_
        refine q_fld rfl rfl rfl rfl Try.underlying121 rfl Try.isAgg106 rfl ?_
        refine q_move rfl rfl rfl rfl ?_
        refine q_move rfl rfl rfl rfl ?_
        refine q_nil_p rfl rfl rfl rfl ?_
        refine q_field (k := 1) rfl rfl rfl rfl Try.underlying80 rfl Try.sizeOf23 rfl ?_
        refine q_load_c (j := 1) rfl rfl rfl rfl Try.isAgg23 Tk (by first | rfl | exact (Nat.add_zero _).symm) (by rfl) ?_
        refine q_field (k := 2) rfl rfl rfl rfl Try.underlying36 rfl Try.sizeOf3 rfl ?_
        refine q_load_c (j := 2) rfl rfl rfl rfl Try.isAgg3 Tk (by first | rfl | exact (Nat.add_zero _).symm) (by rfl) ?_
        refine q_idxO (sz := 0) (k := o.toNat) (enc := encZ) (xs := pl) rfl rfl rfl rfl rfl Try.underlying23 Try.sizeOf3 hpp (by omega) (by omega) Tk ?_
        intro ib146 io146 ha146 hl146 hc146
        refine q_load_O (v := (.int .i64 pp)) (j := 0) (k' := o.toNat) (enc := encZ) (off := io146) rfl rfl rfl rfl Try.isAgg3 ha146 encZ_len hpp Tk (by first | rfl | exact (Nat.add_zero _).symm | omega) (by rfl) ?_
        have sp_20 := merged_spec (((F4 (o, (opF x.ck o).1)).getD (none, 0)).1) ((x.rd (o, (opF x.ck o).1)).map (·.1)) (fun _ => map_fst_cv hx) tb l ta tc hlc
        refine l_call rfl rfl rfl rfl rfl rfl Try.call51 (sp_20) Ts ?_
        rintro ⟨mb, ma, mc⟩ -
        try simp only [List.cons_append, List.nil_append]
        refine ag_load_c (q := 5) rfl rfl rfl Try.isAgg78 Tk (by first | rfl | exact (Nat.add_zero _).symm) (by rfl) ?_
        refine ag_loadN_c rfl rfl (us := [_, _]) rfl Try.isAgg119 Try.sizeOf119 Tk 0 (by first | rfl | exact (Nat.add_zero _).symm) rfl rfl ?_
        refine ag_load_c (q := 1) rfl rfl rfl Try.isAgg23 Tk (by first | rfl | exact (Nat.add_zero _).symm) (by rfl) ?_
        refine ag_load_c (q := 2) rfl rfl rfl Try.isAgg3 Tk (by first | rfl | exact (Nat.add_zero _).symm) (by rfl) ?_
        refine ag_load_O (v := (.int .i64 pp)) (j := 0) (k' := o.toNat) (enc := encZ) (off := io146) rfl rfl rfl Try.isAgg3 ha146 encZ_len hpp Tk (by first | rfl | exact (Nat.add_zero _).symm | omega) (by rfl) ?_
        refine ag_nil ?_
        refine q_build rfl rfl rfl rfl (vs := [_, _]) (run_buildS Try.underlying121 Try.zeroValue121 (ps := [(0, 1), (1, 1)]) ⟨rfl, Try.sizeOf106, rfl, Try.sizeOf3, trivial⟩ rfl) ?_
        refine l_mapUpd (ek := ek2) (ev1 := evH) (F := F4) (m := m4) (k := (o, (opF x.ck o).1)) (v := ((some ⟨mb, 0, none⟩ : Option Addr), pp)) (by first | exact .inl rfl | exact .inr rfl) rfl rfl rfl rfl Try.underlying78 (keyOK_pair Try.underlying119 rfl rfl rfl rfl Try.underlying3 Try.underlying3 Try.isAgg3 Try.isAgg3 (by kernel_rfl)) Tk ?_
        refine ag_nil ?_
        refine r_done ?_
        refine s_vecF mb ma mc (mgF ((x.rd (o, (opF x.ck o).1)).map (·.1)) l) Ts ?_
        refine s_heldF (some ⟨mb, 0, none⟩, pp) (mgF ((x.rd (o, (opF x.ck o).1)).map (·.1)) l, pp) Td rfl ?_
        refine s_rest_put (F := F4) (T := x.rd) (S := []) (o, (opF x.ck o).1) (upd F4 (o, (opF x.ck o).1) (some (some ⟨mb, 0, none⟩, pp))) (upd x.rd (o, (opF x.ck o).1) (some (mgF ((x.rd (o, (opF x.ck o).1)).map (·.1)) l, pp))) Ts (by simp) upd_same (fun q h _ => upd_ne h) upd_same (fun q h _ => upd_ne h) ?_
        refine s_keep [0, 3, 4] (e' := [(0, _), (3, _), (4, _)]) rfl ?_
        refine k_then_n ?_
        refine c_plain (.q 0 (.q 1 (.q 2 ((.l 3 [] (.done)))))) (by kernel_rfl) ?_
        refine q_move rfl rfl rfl rfl ?_
        refine q_field (k := 1) rfl rfl rfl rfl Try.underlying36 rfl Try.sizeOf3 rfl ?_
        refine q_load_c (j := 1) rfl rfl rfl rfl Try.isAgg3 Tk (by first | rfl | exact (Nat.add_zero _).symm) (by rfl) ?_
        have sp_21 := inc_z tb l ta l.length tc (by first | rfl | assumption | omega | (simp; done) | (simp; omega)) hlc t (by omega) (by omega) (by exact hlt (by unfold relK; omega))
        refine l_call rfl rfl rfl rfl rfl rfl Try.call54 (sp_21) Ts ?_
        rintro ⟨ia, ic⟩ -
        try simp only [List.cons_append, List.nil_append]
        refine ag_nil ?_
        refine r_done ?_
        refine s_vecF tb ia ic (icL l t.toNat) Ts ?_
        refine s_rest_put (F := F1) (T := x.th) (S := []) t F1 (upd x.th t (some (icL l t.toNat))) Ts (by simp) htF (fun _ _ _ => rfl) upd_same (fun q h _ => upd_ne h) ?_
        refine s_keep [0, 3] (e' := [(0, _), (3, _)]) rfl ?_
        refine k_blk_n ?_
        refine k_then_n ?_
        refine c_draw rfl (.q 0 (.q 1 (.q 2 (.q 3 (.q 4 ((.l 5 [] (.done)))))))) (by kernel_rfl) ?_
        refine q_move rfl rfl rfl rfl ?_
        refine q_nil_p rfl rfl rfl rfl ?_
        refine q_field (k := 0) rfl rfl rfl rfl Try.underlying80 rfl Try.sizeOf76 rfl ?_
        refine q_load_c (j := 0) rfl rfl rfl rfl Try.isAgg76 Tk (by first | rfl | exact (Nat.add_zero _).symm) (by rfl) ?_
        refine q_loadN_c rfl rfl rfl rfl Try.isAgg36 Try.sizeOf36 Tk 0 (us := [_, _, _]) (by first | rfl | exact (Nat.add_zero _).symm) rfl rfl ?_
        have sp_22 := Fe.next_spec pa pc cb x.ck hx.ck (by first | exact hn | omega) pl (hpl) k t o
        refine l_call rfl rfl rfl rfl rfl rfl Try.call57 (sp_22) Ts ?_
        rintro ⟨⟩ -
        try simp only [List.cons_append, List.nil_append]
        refine ag_nil ?_
        refine r_done ?_
        refine s_keep [] (e' := []) rfl ?_
        refine ret_end ?_
        refine vs_fold (b := b) (vnF x k t o) (pa := pa) (pc := pc) (po := po) (poc := poc) (cb := cb) (m1 := m1) (m2 := m2) (m3 := m3) (m4 := m4) Ts (by rw [vn9 hth k9, show x.ck.pa.getD o.toNat 0 = pp from by rw [hpl]; exact getD_some hpp]) (by rw [nx_pa]) ?_
        refine ret0 rfl (()) (by first | rfl | (first | rfl | (congr 1; done) | (congr 1 <;> first | rfl | omega | (simp; done) | (simp; omega)))) (by trivial) ?_
        exact Tf
       ·
        refine c_seq ?_
        refine c_plain (.q 0 (.q 1 (.done))) (by kernel_rfl) ?_
        refine q_int rfl rfl rfl rfl rfl (b_eql _ _ _ _) ?_
        refine q_assign rfl rfl rfl rfl ?_
        refine r_done ?_
        refine s_keep [0, 3, 4, 153] (e' := [(0, _), (3, _), (4, _), (153, _)]) rfl ?_
        refine k_then_n ?_
        refine c_cond_p rfl (fun k7 => ?_) (fun k7 => ?_)
        ·
         refine c_seq ?_
         obtain ⟨q0, q1, q2⟩ := o7 k7
         have htl := hx.ck.tl
         have hsth := hsh.th
         refine c_plain (.q 0 ((.l 1 [] (.q 2 (.done))))) (by kernel_rfl) ?_
         refine q_move rfl rfl rfl rfl ?_
         have sp_23 := Vc.copy_spec tb l ta l.length tc (by rfl) (by omega)
         refine l_call rfl rfl rfl rfl rfl rfl Try.call53 (sp_23) Ts ?_
         rintro ⟨ub, ua, uc⟩ -
         try simp only [List.cons_append, List.nil_append]
         refine ag_nil ?_
         refine q_assign rfl rfl rfl rfl ?_
         refine r_done ?_
         refine k_then_n ?_
         refine c_seq ?_
         refine c_plain (.q 0 (.q 1 (.q 2 ((.l 3 [] (.done)))))) (by kernel_rfl) ?_
         refine q_move rfl rfl rfl rfl ?_
         refine q_field (k := 2) rfl rfl rfl rfl Try.underlying36 rfl Try.sizeOf3 rfl ?_
         refine q_load_c (j := 2) rfl rfl rfl rfl Try.isAgg3 Tk (by first | rfl | exact (Nat.add_zero _).symm) (by rfl) ?_
         have sp_24 := set_z ub l ua l.length uc (by first | rfl | assumption | omega | (simp; done) | (simp; omega)) hlc o (by omega) (by omega) 1 (by decide) (by decide)
         refine l_call rfl rfl rfl rfl rfl rfl Try.call56 (sp_24) Ts ?_
         rintro ⟨sa, sc⟩ -
         try simp only [List.cons_append, List.nil_append]
         refine ag_nil ?_
         refine r_done ?_
         refine s_keep [0, 3, 4, 8] (e' := [(0, _), (3, _), (4, _), (8, _)]) rfl ?_
         refine k_then_n ?_
         refine c_seq ?_
         have hne : o ≠ t := by intro e; rw [e] at q2; exact can_th hc q2
         refine s_rest_opt (F := F1) (T := x.th) (S := [t]) o Tk (by simpa using hne) fun hso => ?_
         refine c_draw rfl (.q 0 (.q 1 (.q 2 (.q 3 (.q 4 (.q 5 (.q 6 ((.l 7 [] (.done)))))))))) (by kernel_rfl) ?_
         refine q_move rfl rfl rfl rfl ?_
         refine q_nil_p rfl rfl rfl rfl ?_
         refine q_field (k := 2) rfl rfl rfl rfl Try.underlying80 rfl Try.sizeOf77 rfl ?_
         refine q_load_c (j := 2) rfl rfl rfl rfl Try.isAgg77 Tk (by first | rfl | exact (Nat.add_zero _).symm) (by rfl) ?_
         refine q_field (k := 2) rfl rfl rfl rfl Try.underlying36 rfl Try.sizeOf3 rfl ?_
         refine q_load_c (j := 2) rfl rfl rfl rfl Try.isAgg3 Tk (by first | rfl | exact (Nat.add_zero _).symm) (by rfl) ?_
         refine q_move rfl rfl rfl rfl ?_
         refine l_mapUpd (ek := ekZ) (ev1 := evA) (F := F1) (m := m1) (k := o) (v := (some ⟨ub, 0, none⟩ : Option Addr)) (by first | exact .inl rfl | exact .inr rfl) rfl rfl rfl rfl Try.underlying77 (keyOK_int Try.underlying3) Tk ?_
         refine ag_nil ?_
         refine r_done ?_
         refine s_vecF ub sa sc (stL l o.toNat 1) Ts ?_
         refine s_rest_put (F := F1) (T := x.th) (S := [t]) o (upd F1 o (some (some ⟨ub, 0, none⟩ : Option Addr))) (upd x.th o (some (stL l o.toNat 1))) Ts (by simpa using hne) upd_same (fun q h _ => upd_ne h) upd_same (fun q h _ => upd_ne h) ?_
         refine s_keep [0, 3, 4] (e' := [(0, _), (3, _), (4, _)]) rfl ?_
         refine k_then_n ?_
         refine c_plain (.q 0 (.q 1 (.q 2 ((.l 3 [] (.done)))))) (by kernel_rfl) ?_
         refine q_move rfl rfl rfl rfl ?_
         refine q_field (k := 1) rfl rfl rfl rfl Try.underlying36 rfl Try.sizeOf3 rfl ?_
         refine q_load_c (j := 1) rfl rfl rfl rfl Try.isAgg3 Tk (by first | rfl | exact (Nat.add_zero _).symm) (by rfl) ?_
         have sp_25 := inc_z tb l ta l.length tc (by first | rfl | assumption | omega | (simp; done) | (simp; omega)) hlc t (by omega) (by omega) (by exact hlt (by unfold relK; omega))
         refine l_call rfl rfl rfl rfl rfl rfl Try.call54 (sp_25) Ts ?_
         rintro ⟨ia, ic⟩ -
         try simp only [List.cons_append, List.nil_append]
         refine ag_nil ?_
         refine r_done ?_
         refine s_vecF tb ia ic (icL l t.toNat) Ts ?_
         refine s_rest_put (F := (upd F1 o (some (some ⟨ub, 0, none⟩ : Option Addr)))) (T := (upd x.th o (some (stL l o.toNat 1)))) (S := []) t (upd F1 o (some (some ⟨ub, 0, none⟩ : Option Addr))) (upd (upd x.th o (some (stL l o.toNat 1))) t (some (icL l t.toNat))) Ts (by simp) ((upd_ne (Ne.symm hne)).trans htF) (fun _ _ _ => rfl) upd_same (fun q h _ => upd_ne h) ?_
         refine s_keep [0, 3] (e' := [(0, _), (3, _)]) rfl ?_
         refine k_blk_n ?_
         refine k_then_n ?_
         refine c_draw rfl (.q 0 (.q 1 (.q 2 (.q 3 (.q 4 ((.l 5 [] (.done)))))))) (by kernel_rfl) ?_
         refine q_move rfl rfl rfl rfl ?_
         refine q_nil_p rfl rfl rfl rfl ?_
         refine q_field (k := 0) rfl rfl rfl rfl Try.underlying80 rfl Try.sizeOf76 rfl ?_
         refine q_load_c (j := 0) rfl rfl rfl rfl Try.isAgg76 Tk (by first | rfl | exact (Nat.add_zero _).symm) (by rfl) ?_
         refine q_loadN_c rfl rfl rfl rfl Try.isAgg36 Try.sizeOf36 Tk 0 (us := [_, _, _]) (by first | rfl | exact (Nat.add_zero _).symm) rfl rfl ?_
         have sp_26 := Fe.next_spec pa pc cb x.ck hx.ck (by first | exact hn | omega) pl (hpl) k t o
         refine l_call rfl rfl rfl rfl rfl rfl Try.call57 (sp_26) Ts ?_
         rintro ⟨⟩ -
         try simp only [List.cons_append, List.nil_append]
         refine ag_nil ?_
         refine r_done ?_
         refine s_keep [] (e' := []) rfl ?_
         refine ret_end ?_
         refine vs_fold (b := b) (vnF x k t o) (pa := pa) (pc := pc) (po := po) (poc := poc) (cb := cb) (m1 := m1) (m2 := m2) (m3 := m3) (m4 := m4) Ts (by exact vn7 hth k7) (by rw [nx_pa]) ?_
         refine ret0 rfl (()) (by first | rfl | (first | rfl | (congr 1; done) | (congr 1 <;> first | rfl | omega | (simp; done) | (simp; omega)))) (by trivial) ?_
         exact Tf
        ·
         refine c_skip ?_
         refine k_blk_n ?_
         refine k_then_n ?_
         refine s_vecF tb ta tc l Ts ?_
         refine s_rest_put (F := F1) (T := x.th) (S := []) t F1 x.th Ts (by simp) htF (fun _ _ _ => rfl) hth (fun _ _ _ => rfl) ?_
         refine c_draw rfl (.q 0 (.q 1 (.q 2 (.q 3 (.q 4 ((.l 5 [] (.done)))))))) (by kernel_rfl) ?_
         refine q_move rfl rfl rfl rfl ?_
         refine q_nil_p rfl rfl rfl rfl ?_
         refine q_field (k := 0) rfl rfl rfl rfl Try.underlying80 rfl Try.sizeOf76 rfl ?_
         refine q_load_c (j := 0) rfl rfl rfl rfl Try.isAgg76 Tk (by first | rfl | exact (Nat.add_zero _).symm) (by rfl) ?_
         refine q_loadN_c rfl rfl rfl rfl Try.isAgg36 Try.sizeOf36 Tk 0 (us := [_, _, _]) (by first | rfl | exact (Nat.add_zero _).symm) rfl rfl ?_
         have sp_27 := Fe.next_spec pa pc cb x.ck hx.ck (by first | exact hn | omega) pl (hpl) k t o
         refine l_call rfl rfl rfl rfl rfl rfl Try.call57 (sp_27) Ts ?_
         rintro ⟨⟩ -
         try simp only [List.cons_append, List.nil_append]
         refine ag_nil ?_
         refine r_done ?_
         refine s_keep [] (e' := []) rfl ?_
         refine ret_end ?_
         refine vs_fold (b := b) (vnF x k t o) (pa := pa) (pc := pc) (po := po) (poc := poc) (cb := cb) (m1 := m1) (m2 := m2) (m3 := m3) (m4 := m4) Ts (by exact vn0 k5 k3 k8 k10 k6 k4 k9 k7) (by rw [nx_pa]) ?_
         refine ret0 rfl (()) (by first | rfl | (first | rfl | (congr 1; done) | (congr 1 <;> first | rfl | omega | (simp; done) | (simp; omega)))) (by trivial) ?_
         exact Tf
end Go.Ab.Dj
set_option linter.unusedVariables false
set_option linter.unusedSimpArgs false
set_option maxRecDepth 100000
namespace Go.Ab.Dj
open Go Go.Proofs Go.Ab Go.Ab.Fe Go.Ab.Vc
theorem count_set {α : Type} {p : α → Bool} {b : α} : ∀ {l : List α} {i : Nat} {a : α}, l[i]? = some a → (l.set i b).countP p + (if p a then 1 else 0) = l.countP p + (if p b then 1 else 0)
  | [], i, a, h => by simp at h
  | c :: l, 0, a, h => by
    simp at h; subst h
    simp only [List.set_cons_zero, List.countP_cons]
    omega
  | c :: l, i + 1, a, h => by
    simp at h
    have := count_set (p := p) (b := b) h
    simp only [List.set_cons_succ, List.countP_cons]
    omega
theorem upd_some {κ ν : Type} [DecidableEq κ] {T : κ → Option ν} {k q : κ} {v : Option ν} {l : ν} (h : upd T k v q = some l) : (q = k ∧ v = some l) ∨ (q ≠ k ∧ T q = some l) := by
  unfold upd at h
  split at h
  · rename_i e; exact .inl ⟨e, h⟩
  · rename_i e; exact .inr ⟨e, h⟩
theorem mg_cv {m : Option (List Int)} {l : List Int} (hl : CV l) (h : ∀ q, m = some q → CV q) : CV (mgF m l) := by
  cases m with
  | none => exact hl
  | some q => exact jn_cv hl (h q rfl)
theorem wtN_set {c : CS} {th va vo lk : Int} {pa O : List Int} {B : List T2} {n : Int} {i : Nat} {s s' : T3} (hs : c.T[i]? = some s) (b r : Int) :
    wtN ⟨th, va, vo, lk, pa, c.T.set i s', O, B, n⟩ b r + (if s = (2, b, r) then 1 else 0) = wtN c b r + (if s' = (2, b, r) then 1 else 0) := by
  have := count_set (p := fun s => decide (s = (2, b, r))) (b := s') hs
  simpa [wtN] using this
theorem wtN_zero {c : CS} (hc : CInv c) {b r : Int} (h : (opF c b).1 < r) : wtN c b r = 0 := by
  unfold wtN
  rw [List.countP_eq_zero]
  intro s hs h2
  have h3 := of_decide_eq_true h2
  have h4 := (hc.st s hs).2.2.1 (by rw [h3])
  rw [h3] at h4
  simp at h4; omega
theorem opF_set {c : CS} {th va vo lk : Int} {pa O : List Int} {T : List T3} {n : Int} {o : Int} {v : T2} (h0 : 0 ≤ o) (h : o.toNat < c.B.length) {b : Int} (hb : 0 ≤ b) : opF ⟨th, va, vo, lk, pa, T, O, c.B.set o.toNat v, n⟩ b = if b = o then v else opF c b := by
  unfold opF
  show (c.B.set o.toNat v).getD b.toNat _ = _
  rw [getD_set h]
  by_cases e : b = o
  · subst e; rw [if_pos rfl, if_pos rfl]
  · rw [if_neg e, if_neg (by omega)]
theorem icD_cv {x : VS} (hx : VInv x) {k t o : Int} (hvc : vcanF x k t o) (hk : relK k) {l : List Int} (hth : x.th t = some l) : CV (icL l t.toNat) := by
  obtain ⟨h0, h1⟩ := th_rng hx (can_th hvc.1)
  have := hvc.2 hk
  rw [thF_eq hth] at this
  exact icL_cv (hx.thc _ _ hth) (by omega) this
theorem pres {x : CS} (hx : CInv x) {k t o : Int} (hc : canF x k t o) (u : Int) : (stF (nxF x k t o) u).1 ≠ 0 ↔ (stF x u).1 ≠ 0 ∨ (k = 7 ∧ u = o) := by
  obtain ⟨n5, n6, n7, n9, n10, n11, nn⟩ := nxF_k hc
  obtain ⟨o5, o7, o9, o10, o11⟩ := can_obj hx hc
  obtain ⟨t0, t1, t2⟩ := stF_nz (can_th hc)
  have hth := can_th hc
  by_cases k5 : k = 5
  · rw [n5 k5]; show (stF x u).1 ≠ 0 ↔ _; omega
  by_cases k6 : k = 6
  · rw [n6 k6]; show (stF x u).1 ≠ 0 ↔ _; omega
  by_cases k7 : k = 7
  · obtain ⟨p0, p1, p2⟩ := o7 k7
    rw [n7 k7, stF_set p0 p1 rfl]
    split
    · rename_i e; simp [k7, e]
    · rename_i e; simp [e]
  by_cases k9 : k = 9
  · rw [n9 k9, stF_set t0 t1 rfl]
    split
    · rename_i e; subst e; simp [hth]
    · rename_i e; simp [k7]
  by_cases k10 : k = 10
  · rw [n10 k10, stF_set t0 t1 rfl]
    split
    · rename_i e; subst e; simp [hth]
    · rename_i e; simp [k7]
  by_cases k11 : k = 11
  · rw [n11 k11, stF_set t0 t1 rfl]
    split
    · rename_i e; subst e; simp [hth]
    · rename_i e; simp [k7]
  rw [nn k5 k6 k7 k9 k10 k11]; show (stF x u).1 ≠ 0 ↔ _; omega
theorem isS_upd {T : Int → Option (List Int)} {t u : Int} {l : List Int} : (upd T t (some l) u).isSome = true ↔ u = t ∨ (T u).isSome = true := by
  unfold upd
  split
  · rename_i e; simp [e]
  · rename_i e; simp [e]
/-- The threads' counts behind an event. -/
theorem wt_next {x : CS} (hx : CInv x) {k t o : Int} (hc : canF x k t o) (b r : Int) :
    (k = 9 → wtN (nxF x k t o) b r = wtN x b r + (if b = o ∧ r = (opF x o).1 then 1 else 0)) ∧
    (k = 10 → wtN (nxF x k t o) b r + (if b = o ∧ r = (stF x t).2.2 then 1 else 0) = wtN x b r) ∧
    (k ≠ 9 → k ≠ 10 → wtN (nxF x k t o) b r = wtN x b r) := by
  obtain ⟨n5, n6, n7, n9, n10, n11, nn⟩ := nxF_k hc
  obtain ⟨o5, o7, o9, o10, o11⟩ := can_obj hx hc
  obtain ⟨t0, t1, t2⟩ := stF_nz (can_th hc)
  have hth := can_th hc
  refine ⟨fun k9 => ?_, fun k10 => ?_, fun k9 k10 => ?_⟩
  · rw [n9 k9]
    have h := wtN_set (th := x.th) (va := x.va) (vo := x.vo) (lk := x.lk) (pa := x.pa) (O := x.O) (B := x.B.set o.toNat (arrF (opF x o) (x.pa.getD o.toNat 0))) (n := x.n + 1) (s' := (2, o, (opF x o).1)) t2 b r
    rw [if_neg (fun e => by have := (o9 k9).2.2.2; rw [e] at this; simp at this)] at h
    rw [Nat.add_zero] at h
    rw [h]
    by_cases e : b = o ∧ r = (opF x o).1
    · rw [if_pos e, if_pos (by rw [e.1, e.2])]
    · rw [if_neg e, if_neg (fun h => e (by simp at h; exact ⟨h.1.symm, h.2.symm⟩))]
  · rw [n10 k10]
    have h := wtN_set (th := x.th) (va := x.va) (vo := x.vo) (lk := x.lk) (pa := x.pa) (O := x.O) (B := x.B) (n := x.n + 1) (s' := (1, 0, 0)) t2 b r
    rw [if_neg (c := ((1 : Int), (0 : Int), (0 : Int)) = (2, b, r)) (by simp), Nat.add_zero] at h
    rw [← h]
    obtain ⟨q1, q2, q3⟩ := o10 k10
    by_cases e : b = o ∧ r = (stF x t).2.2
    · rw [if_pos e, if_pos (by rw [e.1, e.2, q3, ← q1])]
    · rw [if_neg e, if_neg (fun h => e (by rw [q3, h]; exact ⟨rfl, rfl⟩))]
  · by_cases k5 : k = 5
    · rw [n5 k5]; rfl
    by_cases k6 : k = 6
    · rw [n6 k6]; rfl
    by_cases k7 : k = 7
    · obtain ⟨p0, p1, p2⟩ := o7 k7
      rw [n7 k7]
      have h := wtN_set (th := x.th) (va := x.va) (vo := x.vo) (lk := x.lk) (pa := x.pa) (O := x.O) (B := x.B) (n := x.n + 1) (s' := (1, 0, 0)) (stF_at (x := x) p0 (by omega)) b r
      rw [if_neg (c := ((1 : Int), (0 : Int), (0 : Int)) = (2, b, r)) (by simp), if_neg (fun e => by rw [e] at p2; simp at p2)] at h
      omega
    by_cases k11 : k = 11
    · rw [n11 k11]
      have h := wtN_set (th := x.th) (va := x.va) (vo := x.vo) (lk := x.lk) (pa := x.pa) (O := x.O) (B := x.B) (n := x.n + 1) (s' := (3, 0, 0)) t2 b r
      rw [if_neg (c := ((3 : Int), (0 : Int), (0 : Int)) = (2, b, r)) (by simp), if_neg (fun e => by have := o11 k11; rw [e] at this; simp at this)] at h
      omega
    rw [nn k5 k6 k7 k9 k10 k11]; rfl
theorem opF_next {x : CS} (hx : CInv x) {k t o : Int} (hc : canF x k t o) {b : Int} (hb : 0 ≤ b) : opF (nxF x k t o) b = if k = 9 ∧ b = o then arrF (opF x o) (x.pa.getD o.toNat 0) else opF x b := by
  obtain ⟨n5, n6, n7, n9, n10, n11, nn⟩ := nxF_k hc
  obtain ⟨o5, o7, o9, o10, o11⟩ := can_obj hx hc
  by_cases k9 : k = 9
  · obtain ⟨p0, p1, p2, p3⟩ := o9 k9
    rw [n9 k9, opF_set p0 p1 hb]
    by_cases e : b = o
    · rw [if_pos e, if_pos ⟨k9, e⟩]
    · rw [if_neg e, if_neg (fun h => e h.2)]
  rw [if_neg (fun h => k9 h.1)]
  by_cases k5 : k = 5
  · rw [n5 k5]; rfl
  by_cases k6 : k = 6
  · rw [n6 k6]; rfl
  by_cases k7 : k = 7
  · rw [n7 k7]; rfl
  by_cases k10 : k = 10
  · rw [n10 k10]; rfl
  by_cases k11 : k = 11
  · rw [n11 k11]; rfl
  rw [nn k5 k6 k7 k9 k10 k11]; rfl
theorem nx_B {x : CS} (hx : CInv x) {k t o : Int} (hc : canF x k t o) : (nxF x k t o).B.length = x.B.length := by
  rw [(next_inv hx k t o).bl, hx.bl, nx_pa]
theorem vn_ck {x : VS} {k t o : Int} : (vnF x k t o).ck = nxF x.ck k t o := by
  unfold vnF
  repeat (split; · rfl)
  rfl
/-- The rounds behind an event. -/
theorem vn_rd {x : VS} {k t o : Int} : (vnF x k t o).rd = if k = 10 then upd x.rd (rdK x t o) (if (rdF x (rdK x t o)).2 - 1 ≤ 0 then none else some ((rdF x (rdK x t o)).1, (rdF x (rdK x t o)).2 - 1))
    else if k = 9 then upd x.rd (o, (opF x.ck o).1) (some (mgF ((x.rd (o, (opF x.ck o).1)).map (·.1)) (thF x t), x.ck.pa.getD o.toNat 0)) else x.rd := by
  unfold vnF
  by_cases k5 : k = 5
  · simp [k5]
  by_cases k3 : k = 3
  · simp [k3]
  by_cases k8 : k = 8
  · simp [k8]
  by_cases k10 : k = 10
  · simp [k10]
  by_cases k6 : k = 6
  · simp [k6]
  by_cases k4 : k = 4
  · simp [k4]
  by_cases k9 : k = 9
  · simp [k9]
  by_cases k7 : k = 7
  · simp [k7]
  simp [*]
theorem next_vinv {x : VS} (hx : VInv x) {k t o : Int} (hvc : vcanF x k t o) : VInv (vnF x k t o) := by
  have hc := hvc.1
  obtain ⟨l, hth⟩ := th_some hx (can_th hc)
  have hlc := hx.thc _ _ hth
  obtain ⟨o5, o7, o9, o10, o11⟩ := can_obj hx.ck hc
  have hts : (x.th t).isSome = true := by rw [hth]; rfl
  have hic : relK k → CV (icL l t.toNat) := fun h => icD_cv hx hvc h hth
  have hpp : k = 9 → 1 ≤ x.ck.pa.getD o.toNat 0 ∧ x.ck.pa.getD o.toNat 0 ≤ 65535 := fun k9 => by
    obtain ⟨pp, hp⟩ := get_lt (o9 k9).2.2.1
    rw [getD_some hp]; exact hx.ck.sh.pa pp (List.mem_of_getElem? hp)
  refine ⟨by rw [vn_ck]; exact next_inv hx.ck k t o, fun u => ?_, ?_, ?_, ?_, fun r p h => ?_, fun r p h => ?_, fun b r => ?_, fun b hb0 hb1 => ?_⟩
  · rw [vn_ck, pres hx.ck hc u, ← hx.th u]
    by_cases k5 : k = 5
    · rw [vn5 hth k5, isS_upd]; constructor
      · rintro (rfl | h) <;> simp_all
      · rintro (h | h)
        · exact .inr h
        · omega
    by_cases k3 : k = 3
    · rw [vn3 hth k3, isS_upd]; constructor
      · rintro (rfl | h) <;> simp_all
      · rintro (h | h)
        · exact .inr h
        · omega
    by_cases k8 : k = 8
    · rw [vn8 hth k8, isS_upd]; constructor
      · rintro (rfl | h) <;> simp_all
      · rintro (h | h)
        · exact .inr h
        · omega
    by_cases k10 : k = 10
    · rw [vn10 hth k10, dpF, isS_upd]; constructor
      · rintro (rfl | h) <;> simp_all
      · rintro (h | h)
        · exact .inr h
        · omega
    by_cases k6 : k = 6
    · rw [vn6 hth k6, isS_upd]; constructor
      · rintro (rfl | h) <;> simp_all
      · rintro (h | h)
        · exact .inr h
        · omega
    by_cases k4 : k = 4
    · rw [vn4 hth k4, isS_upd]; constructor
      · rintro (rfl | h) <;> simp_all
      · rintro (h | h)
        · exact .inr h
        · omega
    by_cases k9 : k = 9
    · rw [vn9 hth k9, isS_upd]; constructor
      · rintro (rfl | h) <;> simp_all
      · rintro (h | h)
        · exact .inr h
        · omega
    by_cases k7 : k = 7
    · rw [vn7 hth k7, isS_upd, isS_upd]; constructor
      · rintro (rfl | rfl | h) <;> simp_all
      · rintro (h | h)
        · exact .inr (.inr h)
        · exact .inr (.inl h.2)
    rw [vn0 k5 k3 k8 k10 k6 k4 k9 k7]; simp [k7]
  · intro u q h
    have key : ∀ {v : List Int}, CV v → upd x.th t (some v) u = some q → CV q := fun hv h => by
      rcases upd_some h with ⟨-, h⟩ | ⟨-, h⟩
      · cases h; exact hv
      · exact hx.thc _ _ h
    by_cases k5 : k = 5
    · rw [vn5 hth k5] at h; exact key (mg_cv hlc (hx.lkc _)) h
    by_cases k3 : k = 3
    · rw [vn3 hth k3] at h; exact key (mg_cv hlc (hx.voc _)) h
    by_cases k8 : k = 8
    · rw [vn8 hth k8] at h; exact key (mg_cv hlc (hx.thc _)) h
    by_cases k10 : k = 10
    · rw [vn10 hth k10, dpF, thF_eq hth] at h
      obtain ⟨p, hp, -⟩ := rd_some hx (o10 k10).1 (o10 k10).2.2
      refine key (jn_cv hlc ?_) h
      rw [rdF, hp]; exact hx.rdc _ _ hp
    by_cases k6 : k = 6
    · rw [vn6 hth k6] at h; exact key (hic (by unfold relK; omega)) h
    by_cases k4 : k = 4
    · rw [vn4 hth k4] at h; exact key (hic (by unfold relK; omega)) h
    by_cases k9 : k = 9
    · rw [vn9 hth k9] at h; exact key (hic (by unfold relK; omega)) h
    by_cases k7 : k = 7
    · rw [vn7 hth k7] at h
      obtain ⟨p0, p1, p2⟩ := o7 k7
      have h3 := hx.ck.tl
      have h4 := hx.ck.sh.th
      rcases upd_some h with ⟨-, h⟩ | ⟨-, h⟩
      · cases h; exact hic (by unfold relK; omega)
      · rcases upd_some h with ⟨-, h⟩ | ⟨-, h⟩
        · cases h; exact stL_cv hlc (by omega) (by decide) (by decide)
        · exact hx.thc _ _ h
    rw [vn0 k5 k3 k8 k10 k6 k4 k9 k7] at h; exact hx.thc _ _ h
  · intro u q h
    by_cases k6 : k = 6
    · rw [vn6 hth k6] at h
      rcases upd_some h with ⟨-, h⟩ | ⟨-, h⟩
      · cases h; exact hlc
      · exact hx.lkc _ _ h
    have e : (vnF x k t o).lk = x.lk := by
      unfold vnF
      rw [if_neg k6]
      repeat (split; · rfl)
      rfl
    rw [e] at h; exact hx.lkc _ _ h
  · intro u q h
    by_cases k4 : k = 4
    · rw [vn4 hth k4] at h
      rcases upd_some h with ⟨-, h⟩ | ⟨-, h⟩
      · cases h; exact mg_cv hlc (hx.voc _)
      · exact hx.voc _ _ h
    have e : (vnF x k t o).vo = x.vo := by
      unfold vnF
      rw [if_neg k4]
      repeat (split; · rfl)
      rfl
    rw [e] at h; exact hx.voc _ _ h
  · rw [vn_rd] at h
    split at h
    · rename_i k10
      rcases upd_some h with ⟨-, h⟩ | ⟨-, h⟩
      · obtain ⟨p2, hp, -⟩ := rd_some hx (o10 k10).1 (o10 k10).2.2
        split at h
        · cases h
        · cases h
          show CV (rdF x (rdK x t o)).1
          rw [rdK, rdF, hp]; exact hx.rdc _ _ hp
      · exact hx.rdc _ _ h
    · split at h
      · rcases upd_some h with ⟨-, h⟩ | ⟨-, h⟩
        · cases h
          show CV (mgF _ _)
          rw [thF_eq hth]
          exact mg_cv hlc fun q hq => map_fst_cv hx hq
        · exact hx.rdc _ _ h
      · exact hx.rdc _ _ h
  · rw [vn_rd] at h
    split at h
    · rename_i k10
      rcases upd_some h with ⟨-, h⟩ | ⟨-, h⟩
      · obtain ⟨p2, hp, -⟩ := rd_some hx (o10 k10).1 (o10 k10).2.2
        have h5 := hx.rds _ _ hp
        split at h
        · cases h
        · rename_i h6
          cases h
          have h7 : rdF x (rdK x t o) = p2 := by rw [rdK, rdF, hp]; rfl
          rw [h7] at h6 ⊢
          exact ⟨by show 0 ≤ p2.2 - 1; omega, by show p2.2 - 1 ≤ 65535; omega⟩
      · exact hx.rds _ _ h
    · split at h
      · rename_i k9
        rcases upd_some h with ⟨-, h⟩ | ⟨-, h⟩
        · cases h
          have := hpp k9
          exact ⟨by show 0 ≤ x.ck.pa.getD _ _; omega, this.2⟩
        · exact hx.rds _ _ h
      · exact hx.rds _ _ h
  · rw [vn_ck]
    obtain ⟨w9, w10, w0⟩ := wt_next hx.ck hc b r
    have h1 := hx.wt b r
    rw [rdF, vn_rd]
    by_cases k10 : k = 10
    · rw [if_pos k10]
      have hw := w10 k10
      by_cases e : b = o ∧ r = (stF x.ck t).2.2
      · rw [if_pos e] at hw
        have e2 : ((b, r) : Int × Int) = rdK x t o := by rw [rdK, e.1, e.2]
        rw [e2] at h1 ⊢
        rw [upd_same]
        split
        · simp; omega
        · simp; omega
      · rw [if_neg e] at hw
        have e2 : ((b, r) : Int × Int) ≠ rdK x t o := fun h => e (by rw [rdK] at h; simp at h; exact h)
        rw [upd_ne e2]
        show _ ≤ (rdF x (b, r)).2
        omega
    · rw [if_neg k10]
      by_cases k9 : k = 9
      · rw [if_pos k9]
        have hw := w9 k9
        by_cases e : b = o ∧ r = (opF x.ck o).1
        · rw [if_pos e] at hw
          have e2 : ((b, r) : Int × Int) = (o, (opF x.ck o).1) := by rw [e.1, e.2]
          rw [e2, upd_same]
          obtain ⟨p0, p1, p2, p3⟩ := o9 k9
          obtain ⟨pp, hp⟩ := get_lt p2
          have h2 := hx.wo o p0 (by omega)
          have h3 := hx.ck.op _ _ _ (opF_at (x := x.ck) p0 (by omega)) hp
          rw [getD_some hp]
          rw [e.1, e.2] at hw
          rw [e.1, e.2]
          show _ ≤ pp
          omega
        · rw [if_neg e] at hw
          have e2 : ((b, r) : Int × Int) ≠ (o, (opF x.ck o).1) := fun h => e (by simp at h; exact h)
          rw [upd_ne e2]
          show _ ≤ (rdF x (b, r)).2
          omega
      · rw [if_neg k9, w0 k9 k10]; exact h1
  · rw [vn_ck] at hb1 ⊢
    rw [nx_B hx.ck hc] at hb1
    have h1 := hx.wo b hb0 hb1
    rw [opF_next hx.ck hc hb0]
    by_cases e : k = 9 ∧ b = o
    · rw [if_pos e]
      obtain ⟨k9, rfl⟩ := e
      obtain ⟨p0, p1, p2, p3⟩ := o9 k9
      obtain ⟨pp, hp⟩ := get_lt p2
      rw [getD_some hp]
      unfold arrF
      split
      · have hz := wtN_zero hx.ck (b := b) (r := (opF x.ck b).1 + 1) (by omega)
        have hw := (wt_next hx.ck hc b ((opF x.ck b).1 + 1)).1 k9
        rw [if_neg (by omega)] at hw
        simp; omega
      · have hw := (wt_next hx.ck hc b (opF x.ck b).1).1 k9
        rw [if_pos ⟨rfl, rfl⟩] at hw
        simp; omega
    · rw [if_neg e]
      obtain ⟨w9, w10, w0⟩ := wt_next hx.ck hc b (opF x.ck b).1
      by_cases k9 : k = 9
      · have hw := w9 k9
        rw [if_neg (fun h => e ⟨k9, h.1⟩)] at hw
        omega
      · by_cases k10 : k = 10
        · have hw := w10 k10
          omega
        · rw [w0 k9 k10]; exact h1
end Go.Ab.Dj
set_option linter.unusedVariables false
set_option linter.unusedSimpArgs false
set_option maxRecDepth 100000
namespace Go.Ab.Dj
open Go Go.Proofs Go.Ab Go.Ab.Fe Go.Ab.Vc
def vNew (th va vo lk : Int) (pl : List Int) : VS := ⟨newF th va vo lk pl, upd noF 0 (some [1]), noF, noF, noF⟩
theorem one_cv : CV [1] := ⟨by simp [Tr], by decide, by decide⟩
theorem new_vinv {th va vo lk : Int} {pl : List Int} (hok : OkS th va vo lk pl) (hc : CInv (newF th va vo lk pl)) : VInv (vNew th va vo lk pl) := by
  have h1 := hok.th
  have hst : ∀ t, stF (newF th va vo lk pl) t = if t = 0 then (1, 0, 0) else (0, 0, 0) := fun t => by
    have h := (rel_new hok).st t
    rw [← h]
    unfold upd noF
    split <;> rfl
  have hT : ∀ b r : Int, wtN (newF th va vo lk pl) b r = 0 := fun b r => by
    unfold wtN
    rw [List.countP_eq_zero]
    intro s hs h2
    have h3 := of_decide_eq_true h2
    obtain ⟨i, hi⟩ := List.getElem?_of_mem hs
    have h4 := hst (i : Int)
    rw [stF, if_neg (by omega), Int.toNat_natCast, getD_some hi, h3] at h4
    split at h4 <;> simp at h4
  have hB : ∀ b : Int, 0 ≤ (opF (newF th va vo lk pl) b).2 := fun b => by
    unfold opF newF
    rcases getD_mem' (List.replicate pl.length ((0 : Int), (0 : Int))) b.toNat (0, 0) with h | h
    · rw [h]; decide
    · rw [(List.mem_replicate.1 h).2]; decide
  refine ⟨hc, fun t => ?_, fun t l h => ?_, fun t l h => (by cases h), fun t l h => (by cases h), fun r p h => (by cases h), fun r p h => (by cases h), fun b r => ?_, fun b _ _ => ?_⟩
  · show (upd noF 0 (some [1]) t).isSome = true ↔ (stF (newF th va vo lk pl) t).1 ≠ 0
    rw [isS_upd, hst]
    split <;> simp_all [noF]
  · rcases upd_some (show upd noF 0 (some [1]) t = some l from h) with ⟨-, h⟩ | ⟨-, h⟩
    · cases h; exact one_cv
    · cases h
  · show ((wtN (newF th va vo lk pl) b r : Nat) : Int) ≤ _
    rw [hT]; exact Int.le_refl _
  · show ((wtN (newF th va vo lk pl) b _ : Nat) : Int) ≤ (opF (newF th va vo lk pl) b).2
    rw [hT]; exact hB b
/-- What is kept of a variable: its reads, its writes, its flag. -/
abbrev P4 := Option Addr × Option Addr × Int × Bool
abbrev V4 := List Int × List Int × Int × Bool
def encV (x : P4) : List Value := [.pointer x.1, .pointer x.2.1, .int .i64 x.2.2.1, .bool x.2.2.2]
def varA (v : P4) (t : V4) : HProp := fun h => v.2.2 = t.2.2 ∧ Sat [vecA v.1 t.1, vecA v.2.1 t.2.1] h
structure DS where
  v : VS
  vs : List V4
  cost : Int
structure V4Inv (T : Int) (w : V4) : Prop where
  r : CV w.1
  w : CV w.2.1
structure DInv (x : DS) : Prop where
  v : VInv x.v
  len : (x.vs.length : Int) = x.v.ck.va
  vs : ∀ w ∈ x.vs, CV w.1 ∧ CV w.2.1
  c0 : 0 ≤ x.cost ∧ x.cost ≤ 2 * x.v.ck.n
def dR (pa : Option Addr) (pc : Nat) (po : Option Addr) (poc b : Nat) (x : DS) : HProp := fun h => ∃ vb va vc V, V.length = x.vs.length ∧ Sat [cells b 0 [.pointer (some ⟨vb, 0, none⟩), .slice va x.vs.length vc, .int .i64 x.cost], vsR pa pc po poc vb x.v, own 4 encV va vc V, restL varA V x.vs []] h
section
variable {w0 : World} {ds : List Deferred} {n : Nat} {e : Env} {Γ Γ' : List HProp} {X : Act → World → Prop}
end
def v0 : V4 := ([], [], 0, false)
def dNew (th va vo lk : Int) (pl : List Int) : DS := ⟨vNew th va vo lk pl, List.replicate va.toNat v0, 0⟩
theorem begin_spec (th va vo lk : Int) (pl : List Int) (ao : Option Addr) (n c : Nat) (A : HProp) (hr : RdS A ao (pl.flatMap encZ)) (hn : pl.length = n) (hb : n ≤ 4000000) (hok : OkS th va vo lk pl) : Spec Try.prog 27 [.agg #[.int .i64 th, .int .i64 va, .int .i64 vo, .int .i64 lk, .slice ao n c]] [A] (fun (r : (Nat × Nat × Option Addr × Nat) × Option Addr × Nat) => .tuple #[.pointer (some ⟨r.1.1, 0, none⟩), .int .i64 0]) (fun r => True) (fun r => [A, own 1 encZ r.1.2.2.1 r.1.2.2.2 pl, own 1 encZ r.2.1 r.2.2 pl, vsR r.1.2.2.1 r.1.2.2.2 r.2.1 r.2.2 r.1.1 (vNew th va vo lk pl)]) := by
 refine spec_mk (n := 33) Try.func27 rfl rfl rfl ?_
 intro Γ w0
 simp only [argE, List.cons_append, List.nil_append, Nat.zero_add, Nat.reduceAdd]
 refine c_seq ?_
 refine c_plain ((.l 0 [] (.q 1 (.q 2 (.done))))) (by kernel_rfl) ?_
 refine l_box rfl rfl rfl rfl (us := [_, _, _, _, _]) rfl ?_
 intro b1
 refine ag_nil ?_
 refine q_assign rfl rfl rfl rfl ?_
 refine q_assign rfl rfl rfl rfl ?_
 refine r_done ?_
 refine k_then_n ?_
 refine c_seq ?_
 refine c_plain (.q 0 ((.l 1 [] (.q 2 (.q 3 (.q 4 (.q 5 (.q 6 (.done))))))))) (by kernel_rfl) ?_
 refine q_loadN_c rfl rfl rfl rfl Try.isAgg25 Try.sizeOf25 Tk 0 (us := [_, _, _, _, _]) (by first | rfl | exact (Nat.add_zero _).symm) rfl rfl ?_
 have sp_1 := Fe.new_spec th va vo lk pl ao n c A (hr) (by first | rfl | assumption | omega | (simp; done) | (simp; omega)) (by omega) hok
 refine l_call rfl rfl rfl rfl rfl rfl Try.call48 (sp_1) Ts ?_
 rintro ⟨nb, nbp, nbc⟩ -
 try simp only [List.cons_append, List.nil_append]
 refine ag_nil ?_
 refine q_move rfl rfl rfl rfl ?_
 refine q_extract rfl rfl rfl rfl rfl ?_
 refine q_extract rfl rfl rfl rfl rfl ?_
 refine q_assign rfl rfl rfl rfl ?_
 refine q_assign rfl rfl rfl rfl ?_
 refine r_done ?_
 refine s_keep [1, 4, 5] (e' := [(1, _), (4, _), (5, _)]) rfl ?_
 refine k_then_n ?_
 refine c_seq ?_
 refine c_seq ?_
 refine c_plain (.q 0 (.q 1 (.done))) (by kernel_rfl) ?_
 refine q_move rfl rfl rfl rfl ?_
 refine q_int rfl rfl rfl rfl rfl (b_neq _ _ _ _) ?_
 refine s_eq 14 rfl (v' := .bool false) (by first | rfl | simp) ?_
 refine r_done ?_
 refine k_then_n ?_
 refine c_cond_f rfl ?_
 refine c_skip ?_
 refine k_then_n ?_
 refine c_seq ?_
 refine c_plain ((.l 0 [] ((.l 1 [] (.q 2 (.q 3 (.q 4 (.q 5 (.q 6 (.done)))))))))) (by kernel_rfl) ?_
 refine l_buildSlice rfl rfl rfl rfl (run_build1 (us := [_]) Try.underlying138 Try.sizeOf37 rfl Try.zeroValue37 rfl rfl rfl) ?_
 intro b17
 refine ag_nil ?_
 have sp_2 := Vc.of_spec ([1]) (some ⟨b17, 0, none⟩) 1 1 (cells b17 0 [.int .u64 1]) (by first | rfl | assumption | omega | (simp; done) | (simp; omega)) (rds_some rdn_cells) (by omega) (by decide)
 refine l_call rfl rfl rfl rfl rfl rfl Try.call49 (sp_2) Ts ?_
 rintro ⟨qb, qa, qc⟩ -
 try simp only [List.cons_append, List.nil_append]
 refine ag_nil ?_
 refine q_move rfl rfl rfl rfl ?_
 refine q_extract rfl rfl rfl rfl rfl ?_
 refine q_extract rfl rfl rfl rfl rfl ?_
 refine q_assign rfl rfl rfl rfl ?_
 refine q_assign rfl rfl rfl rfl ?_
 refine r_done ?_
 rw [show tr [1] = [1] from by decide]
 refine s_keep [1, 4, 6] (e' := [(1, _), (4, _), (6, _)]) rfl ?_
 refine k_then_n ?_
 refine c_seq ?_
 refine c_plain (.q 0 (.q 1 (.q 2 ((.l 3 [] ((.l 4 [] (.q 5 ((.l 6 [] (.q 7 ((.l 8 [] ((.l 9 [] ((.l 10 [] (.q 11 ((.l 12 [] (.q 13 (.q 14 (.done))))))))))))))))))))))) (by kernel_rfl) ?_
 refine q_move rfl rfl rfl rfl ?_
 refine q_field (k := 4) rfl rfl rfl rfl Try.underlying25 rfl Try.sizeOf23 rfl ?_
 refine q_load_c (j := 4) rfl rfl rfl rfl Try.isAgg23 Tk (by first | rfl | exact (Nat.add_zero _).symm) (by rfl) ?_
 refine s_heap (fun _ h => own_nil (sz := 1) (enc := encZ) h) ?_
 refine l_append (sz := 1) (enc := encZ) (xs := []) rfl rfl rfl rfl rfl Try.underlying23 Try.typeInfo3 rfl rfl rfl (by decide) Tk Tk (by first | rfl | omega | (simp; done) | (simp; omega)) (ys := pl) (hr) (by rfl) (by first | rfl | omega) (encZ_len) (encZ_one) (by omega) (by show _ * 8 ≤ _; omega) ?_
 intro ao24 cp24
 try simp only [List.nil_append]
 refine ag_nil ?_
 refine l_makeMap Int (Option Addr) ekZ evA rfl rfl rfl ?_
 intro m1
 refine ag_nil ?_
 refine q_move rfl rfl rfl rfl ?_
 refine l_mapUpd (ek := ekZ) (ev1 := evA) (F := (noF : Int → Option (Option Addr))) (m := m1) (k := 0) (v := (some ⟨qb, 0, none⟩ : Option Addr)) (by first | exact .inl rfl | exact .inr rfl) rfl rfl rfl rfl Try.underlying77 (keyOK_int Try.underlying3) Tk ?_
 refine ag_nil ?_
 refine q_move rfl rfl rfl rfl ?_
 refine l_makeMap Int (Option Addr) ekZ evA rfl rfl rfl ?_
 intro m2
 refine ag_nil ?_
 refine l_makeMap Int (Option Addr) ekZ evA rfl rfl rfl ?_
 intro m3
 refine ag_nil ?_
 refine l_makeMap (Int × Int) (Option Addr × Int) ek2 evH rfl rfl rfl ?_
 intro m4
 refine ag_nil ?_
 refine q_build rfl rfl rfl rfl (vs := [_, _, _, _, _, _]) (run_buildS Try.underlying80 Try.zeroValue80 (ps := [(0, 1), (1, 1), (2, 1), (3, 1), (4, 1), (5, 1)]) ⟨rfl, Try.sizeOf76, rfl, Try.sizeOf23, rfl, Try.sizeOf77, rfl, Try.sizeOf77, rfl, Try.sizeOf77, rfl, Try.sizeOf78, trivial⟩ rfl) ?_
 refine l_box rfl rfl rfl rfl (us := [_, _, _, _, _, _]) rfl ?_
 intro b32
 refine ag_nil ?_
 refine q_assign rfl rfl rfl rfl ?_
 refine q_assign rfl rfl rfl rfl ?_
 refine r_done ?_
 refine s_keep [2, 3] (e' := [(2, _), (3, _)]) rfl ?_
 refine k_then_n ?_
 refine c_ret ?_
 refine s_vecF qb qa qc [1] Ts ?_
 refine s_rest_new (res := vecA) (noF : Int → Option (Option Addr)) (noF : Int → Option (List Int)) (fun _ => rfl) (fun _ => rfl) ?_
 refine s_rest_opt (F := (noF : Int → Option (Option Addr))) (T := (noF : Int → Option (List Int))) (S := []) (0 : Int) Tk (by simp) fun _ => ?_
 refine s_rest_put (F := (noF : Int → Option (Option Addr))) (T := (noF : Int → Option (List Int))) (S := []) (0 : Int) (upd noF 0 (some (some ⟨qb, 0, none⟩))) (upd noF 0 (some [1])) Ts (by simp) upd_same (fun q h _ => upd_ne h) upd_same (fun q h _ => upd_ne h) ?_
 refine s_rest_new (res := vecA) (noF : Int → Option (Option Addr)) (noF : Int → Option (List Int)) (fun _ => rfl) (fun _ => rfl) ?_
 refine s_rest_new (res := vecA) (noF : Int → Option (Option Addr)) (noF : Int → Option (List Int)) (fun _ => rfl) (fun _ => rfl) ?_
 refine s_rest_new (res := heldA) (noF : Int × Int → Option (Option Addr × Int)) (noF : Int × Int → Option (List Int × Int)) (fun _ => rfl) (fun _ => rfl) ?_
 refine vs_fold (b := b32) (vNew th va vo lk pl) (pa := nbp) (pc := nbc) (po := ao24) (poc := cp24) (cb := nb) (m1 := m1) (m2 := m2) (m3 := m3) (m4 := m4) Ts (by rfl) (by show 0 + n = pl.length; omega) ?_
 refine ret2 rfl rfl rfl (((b32, nb, nbp, nbc), ao24, cp24)) (by first | rfl | (first | rfl | (congr 1; done) | (congr 1 <;> first | rfl | omega | (simp; done) | (simp; omega)))) (by trivial) ?_
 exact Tf
end Go.Ab.Dj
namespace Go.Proofs
open Go.Shelf
def Try.laysSort_ren : Go.Shelf.Ren := ⟨fun | 189 => 61 | 125 => 77 | 257 => 76 | 128 => 90 | 129 => 91 | 294 => 81 | 295 => 82 | 296 => 83 | 297 => 84 | 298 => 85 | 299 => 86 | 216 => 87 | 300 => 88 | 301 => 89 | 328 => 94 | 329 => 95 | 330 => 96 | 331 => 97 | 332 => 98 | 215 => 99 | 343 => 100 | n => n, fun | 28 => 23 | 3 => 3 | 46 => 151 | 0 => 0 | 51 => 163 | 53 => 37 | 4 => 4 | 183 => 157 | 182 => 156 | 131 => 129 | 5 => 5 | 9 => 9 | 218 => 167 | 222 => 171 | 228 => 173 | 229 => 174 | n => n, fun | n => n⟩
theorem Try.laysSort : Go.Proofs.Lays.n189 Try.prog Try.laysSort_ren := {
  mixed := by kernel_rfl
  f125 := Try.func77.trans (congrArg some (by kernel_rfl))
  f128 := Try.func90.trans (congrArg some (by kernel_rfl))
  f129 := Try.func91.trans (congrArg some (by kernel_rfl))
  f189 := Try.func61.trans (congrArg some (by kernel_rfl))
  f215 := Try.func99.trans (congrArg some (by kernel_rfl))
  f216 := Try.func87.trans (congrArg some (by kernel_rfl))
  f257 := Try.func76.trans (congrArg some (by kernel_rfl))
  f294 := Try.func81.trans (congrArg some (by kernel_rfl))
  f295 := Try.func82.trans (congrArg some (by kernel_rfl))
  f296 := Try.func83.trans (congrArg some (by kernel_rfl))
  f297 := Try.func84.trans (congrArg some (by kernel_rfl))
  f298 := Try.func85.trans (congrArg some (by kernel_rfl))
  f299 := Try.func86.trans (congrArg some (by kernel_rfl))
  f300 := Try.func88.trans (congrArg some (by kernel_rfl))
  f301 := Try.func89.trans (congrArg some (by kernel_rfl))
  f328 := Try.func94.trans (congrArg some (by kernel_rfl))
  f329 := Try.func95.trans (congrArg some (by kernel_rfl))
  f330 := Try.func96.trans (congrArg some (by kernel_rfl))
  f331 := Try.func97.trans (congrArg some (by kernel_rfl))
  f332 := Try.func98.trans (congrArg some (by kernel_rfl))
  f343 := Try.func100.trans (congrArg some (by kernel_rfl))
  t0 := Try.underlying0
  a0 := Try.isAgg0
  z0 := Try.sizeOf0
  v0 := Try.zeroValue0
  t3 := Try.underlying3
  a3 := Try.isAgg3
  z3 := Try.sizeOf3
  v3 := Try.zeroValue3
  t4 := Try.underlying4
  a4 := Try.isAgg4
  z4 := Try.sizeOf4
  v4 := Try.zeroValue4
  t5 := Try.underlying5
  a5 := Try.isAgg5
  z5 := Try.sizeOf5
  v5 := Try.zeroValue5
  t9 := Try.underlying9
  a9 := Try.isAgg9
  z9 := Try.sizeOf9
  v9 := Try.zeroValue9
  t28 := Try.underlying23
  a28 := Try.isAgg23
  z28 := Try.sizeOf23
  v28 := Try.zeroValue23
  t46 := Try.underlying151
  a46 := Try.isAgg151
  z46 := Try.sizeOf151
  v46 := Try.zeroValue151
  t51 := Try.underlying163
  a51 := Try.isAgg163
  z51 := Try.sizeOf163
  v51 := Try.zeroValue163
  t53 := Try.underlying37
  a53 := Try.isAgg37
  z53 := Try.sizeOf37
  v53 := Try.zeroValue37
  t131 := Try.underlying129
  a131 := Try.isAgg129
  z131 := Try.sizeOf129
  v131 := Try.zeroValue129
  t182 := Try.underlying156
  a182 := Try.isAgg156
  z182 := Try.sizeOf156
  v182 := Try.zeroValue156
  t183 := Try.underlying157
  a183 := Try.isAgg157
  z183 := Try.sizeOf157
  v183 := Try.zeroValue157
  t218 := Try.underlying167
  a218 := Try.isAgg167
  z218 := Try.sizeOf167
  v218 := Try.zeroValue167
  t222 := Try.underlying171
  a222 := Try.isAgg171
  z222 := Try.sizeOf171
  v222 := Try.zeroValue171
  t228 := Try.underlying173
  a228 := Try.isAgg173
  z228 := Try.sizeOf173
  v228 := Try.zeroValue173
  t229 := Try.underlying174
  a229 := Try.isAgg174
  z229 := Try.sizeOf174
  v229 := Try.zeroValue174 }
end Go.Proofs
set_option linter.unusedVariables false
namespace Go.Ab.So
open Go Go.Proofs Go.Ab Go.Ab.Fe
theorem sat_setCells {b off : Nat} : ∀ (us vs : List Value) (i : Nat) (Γ : List HProp) (w : World), Sat (cells b off vs :: Γ) (lh w) → i + us.length ≤ vs.length → Sat (cells b off (setL vs i us) :: Γ) (lh (w.setCells b (off + i) us)) ∧ Amb w (w.setCells b (off + i) us)
  | [], vs, i, Γ, w, s, h => ⟨s, Amb.refl w⟩
  | u :: us, vs, i, Γ, w, s, h => by
    have hlt : i < vs.length := by simp at h; omega
    have hv : vs[i]? = some vs[i] := List.getElem?_eq_getElem hlt
    have s' := s.setCell hv u
    obtain ⟨e1, e2⟩ := sat_setCells us (vs.set i u) (i + 1) Γ _ s' (by simp at h ⊢; omega)
    exact ⟨e1, e2.os, e2.tape, e2.output, by have h9 := e2.size; rw [show (w.setCell ⟨b, off + i, none⟩ u).heap.size = w.heap.size from by simp] at h9; exact h9⟩
theorem lh_grow (w : World) (os : Array Obj) : Hle (lh w) (lh (Sort.grow w os)) := by
  intro l v h
  have key : ∀ b o, w.heap[b]? = some o → (Sort.grow w os).heap[b]? = some o := fun b o hb => by
    have hlt := (Array.getElem?_eq_some_iff.1 hb).1
    show (w.heap ++ os)[b]? = some o
    rw [Array.getElem?_append_left hlt]; exact hb
  obtain ⟨b, x⟩ := l
  cases hb : w.heap[b]? with
  | none =>
    cases x with
    | none => simp only [lh, hb, lhO] at h; cases h
    | some o => simp only [lh, hb, lhC] at h; cases h
  | some o =>
    cases x with
    | none => simp only [lh, hb] at h; simp only [lh, key b o hb]; exact h
    | some j => simp only [lh, hb] at h; simp only [lh, key b o hb]; exact h
theorem amb_grow (w : World) (os : Array Obj) : Amb w (Sort.grow w os) := ⟨rfl, rfl, rfl, by show w.heap.size ≤ (w.heap ++ os).size; rw [Array.size_append]; omega⟩
abbrev srtZ (xs : List Int) : List Int := xs.mergeSort fun x y => decide (x ≤ y)
theorem srtZ_len (xs : List Int) : (srtZ xs).length = xs.length := List.length_mergeSort xs
theorem srtZ_nil : srtZ [] = [] := List.eq_nil_of_length_eq_zero (by rw [srtZ_len]; rfl)
theorem flat_map (xs : List Int) : xs.flatMap encZ = xs.map (Value.int .i64) := by
  induction xs with
  | nil => rfl
  | cons x xs ih => rw [List.flatMap_cons, ih]; rfl
theorem sort_spec (ao : Option Addr) (n c : Nat) (xs : List Int) (hn : xs.length = n) (hb : n < 4611686018427387904) : Spec Try.prog 61 [.slice ao n c] [own 1 encZ ao c xs] (fun _ : Unit => .tuple #[]) (fun _ => True) (fun _ => [own 1 encZ ao c (srtZ xs)]) := by
  intro Γ w s
  subst hn
  obtain ⟨hc, h0, h1⟩ := own_le s
  cases ao with
  | none =>
    obtain ⟨rfl, rfl⟩ := h0 rfl
    have hq := calls_of_every_depth fun D => AnyS.slices_Sort_int_none_alone Try.laysSort D none 0 w
    refine hq.mono fun e w' ⟨h2, h3⟩ => ?_
    subst h3
    exact ⟨(), h2, trivial, by show Sat ([own 1 encZ _ _ (srtZ [])] ++ Γ) _; rw [srtZ_nil]; exact s, Amb.refl _⟩
  | some a =>
    obtain ⟨b, off, ha⟩ := h1 (by simp)
    cases ha
    obtain ⟨sp, hsp, s2⟩ := own_cells s
    have hH : Sort.Holds (Value.int .i64) w b off xs.toArray := fun j hj => by
      have hj' : j < xs.length := by simpa using hj
      have hv : (xs.flatMap encZ ++ sp)[j]? = some (.int .i64 xs[j]) := by
        rw [flat_map, List.getElem?_append_left (by simpa using hj'), List.getElem?_map, List.getElem?_eq_getElem hj']; rfl
      have h5 := s2.cell_frozen hv
      refine ⟨?_, h5.2⟩
      rw [h5.1]
      congr 2
      simp [hj']
    rcases Nat.eq_zero_or_pos xs.length with h0 | hpos
    · have hx : xs = [] := List.eq_nil_of_length_eq_zero h0
      subst hx
      have hq := calls_of_every_depth fun D => AnyS.slices_Sort_int_none_alone Try.laysSort D (some ⟨b, off, none⟩) c w
      refine hq.mono fun e w' ⟨h2, h3⟩ => ?_
      subst h3
      exact ⟨(), h2, trivial, by show Sat ([own 1 encZ _ _ (srtZ [])] ++ Γ) _; rw [srtZ_nil]; exact s, Amb.refl _⟩
    · have hblk : b < w.heap.size := by
        rcases Nat.lt_or_ge b w.heap.size with h | h
        · exact h
        · exfalso
          have h6 := (hH 0 (by simpa using hpos)).1
          obtain ⟨h7, l7, a7⟩ := s2.head
          have h8 := l7 _ _ (a7 0 (.int .i64 xs[0]) (by rw [flat_map, List.getElem?_append_left (by simpa using hpos), List.getElem?_map, List.getElem?_eq_getElem hpos]; rfl))
          rw [lh_none_of_ge h] at h8; cases h8
      have hq := calls_of_every_depth fun D => AnyS.slices_Sort_int_alone Try.laysSort D b off c xs w hH hblk hb
      refine hq.mono fun e w' ⟨h2, q, os, h3⟩ => ?_
      rw [Lib.sorted_world _ w b off q _ _ os hH (by simp)] at h3
      subst h3
      have s3 : Sat (cells b off (xs.flatMap encZ ++ sp) :: Γ) (lh (w.drewN q)) := s2
      obtain ⟨s4, a4⟩ := sat_setCells ((srtZ xs).map (Value.int .i64)) _ 0 Γ _ s3 (by simp [flat_map])
      have e5 : setL (xs.flatMap encZ ++ sp) 0 ((srtZ xs).map (Value.int .i64)) = (srtZ xs).flatMap encZ ++ sp := by
        have := setL_eq ((srtZ xs).map (Value.int .i64)) [] (xs.flatMap encZ) sp (by simp [flat_map])
        rw [List.nil_append, List.nil_append] at this
        rw [flat_map (srtZ xs)]; exact this
      rw [e5] at s4
      have a5 : Amb w ((w.drewN q).setCells b off ((srtZ xs).map (Value.int .i64))) := ⟨a4.os, a4.tape, a4.output, a4.size⟩
      refine ⟨(), h2, trivial, ?_, a5.trans (amb_grow _ os)⟩
      have s6 := own_mk (cap := c) (enc := encZ) (sz := 1) (xs := srtZ xs) (by rw [srtZ_len]; exact hc) (by rw [srtZ_len]; exact hsp) s4
      exact Sat.mono s6 (lh_grow _ os)
end Go.Ab.So
set_option linter.unusedVariables false
set_option linter.unusedSimpArgs false
set_option maxRecDepth 100000
namespace Go.Ab.Hi
open Go Go.Proofs Go.Ab Go.Ab.Fe Go.Ab.Vc Go.Ab.Dj Go.Ab.So
/-- What is kept of a thread and a variable: its last Read, its last Write, their clocks. -/
abbrev Tch := Int × Int × Int × Int
/-- What is told of a variable: its first pair, its latest, whether there are any, its last access, that one's number. -/
abbrev Tld := T3 × T3 × Bool × T3 × Int
def encT (x : Tch) : List Value := [.int .i64 x.1, .int .i64 x.2.1, .int .u64 x.2.2.1, .int .u64 x.2.2.2]
abbrev evT (x : Tch) : Value := .agg #[.int .i64 x.1, .int .i64 x.2.1, .int .u64 x.2.2.1, .int .u64 x.2.2.2]
def encD (x : Tld) : List Value := [.int .i64 x.1.1, .int .i64 x.1.2.1, .int .i64 x.1.2.2, .int .i64 x.2.1.1, .int .i64 x.2.1.2.1, .int .i64 x.2.1.2.2, .bool x.2.2.1, .int .i64 x.2.2.2.1.1, .int .i64 x.2.2.2.1.2.1, .int .i64 x.2.2.2.1.2.2, .int .i64 x.2.2.2.2]
theorem encD_len : ∀ x, (encD x).length = 11 := fun _ => rfl
structure HS where
  v : VS
  vars : List Tld
  keys : List (Int × Int)
  kept : Int × Int → Option Tch
def t0 : Tld := ((0, 0, 0), (0, 0, 0), false, (0, 0, 0), 0)
/-- Lists in order. -/
def ins (z : Int) : List Int → List Int
  | [] => [z]
  | x :: xs => if z ≤ x then z :: x :: xs else x :: ins z xs
def isort : List Int → List Int
  | [] => []
  | x :: xs => ins x (isort xs)
theorem ins_perm (z : Int) : ∀ l, (ins z l).Perm (z :: l)
  | [] => .refl _
  | x :: xs => by
    unfold ins
    split
    · exact .refl _
    · exact ((ins_perm z xs).cons x).trans (.swap z x xs)
theorem isort_perm : ∀ l, (isort l).Perm l
  | [] => .refl _
  | x :: xs => (ins_perm x _).trans ((isort_perm xs).cons x)
theorem ins_sorted (z : Int) : ∀ l : List Int, l.Pairwise (· ≤ ·) → (ins z l).Pairwise (· ≤ ·)
  | [], _ => by simp [ins]
  | x :: xs, h => by
    unfold ins
    rw [List.pairwise_cons] at h
    split
    · rename_i hz
      rw [List.pairwise_cons, List.pairwise_cons]
      exact ⟨fun a ha => (List.mem_cons.1 ha).elim (fun e => e ▸ hz) (fun ha => Int.le_trans hz (h.1 a ha)), h⟩
    · rename_i hz
      rw [List.pairwise_cons]
      refine ⟨fun a ha => ?_, ins_sorted z xs h.2⟩
      rcases List.mem_cons.1 ((ins_perm z xs).mem_iff.1 ha) with rfl | ha
      · omega
      · exact h.1 a ha
theorem isort_sorted : ∀ l : List Int, (isort l).Pairwise (· ≤ ·)
  | [] => .nil
  | x :: xs => ins_sorted x _ (isort_sorted xs)
theorem sorted_eq {a b : List Int} (ha : a.Pairwise (· ≤ ·)) (hb : b.Pairwise (· ≤ ·)) (h : a.Perm b) : a = b :=
  List.Perm.eq_of_pairwise (le := fun x y => decide (x ≤ y)) (fun x y _ _ h1 h2 => Int.le_antisymm (by simpa using h1) (by simpa using h2)) (ha.imp (by simp)) (hb.imp (by simp)) h
theorem srt_eq {a b : List Int} (h : a.Perm b) : srtZ a = isort b := by
  refine sorted_eq ?_ (isort_sorted b) ((List.mergeSort_perm a _).trans (h.trans (isort_perm b).symm))
  have := List.pairwise_mergeSort (le := fun x y : Int => decide (x ≤ y)) (fun a b c h1 h2 => by simp at *; omega) (fun a b => by simp; omega) a
  exact this.imp (by simp)
theorem isort_len (l : List Int) : (isort l).length = l.length := (isort_perm l).length_eq
theorem nodup_snoc {κ : Type} {S : List κ} {k : κ} (h : S.Nodup) (hk : k ∉ S) : (S ++ [k]).Nodup := List.nodup_append.2 ⟨h, by simp, fun a ha b hb => by simp at hb; subst hb; intro e; exact hk (e ▸ ha)⟩
/-- The numbers that stand against an access, of what is kept at a key. -/
def agK (F : Int × Int → Option Tch) (k t o : Int) (l : List Int) (q : Int × Int) : List Int :=
  if q.1 ≠ o ∨ q.2 = t then [] else match F q with
  | none => []
  | some w => (if k = 2 ∧ 0 ≤ w.1 ∧ l.getD q.2.toNat 0 < w.2.2.1 then [w.1] else []) ++ (if 0 ≤ w.2.1 ∧ l.getD q.2.toNat 0 < w.2.2.2 then [w.2.1] else [])
theorem agK_s {F : Int × Int → Option Tch} {k t o : Int} {l : List Int} {q : Int × Int} (h : q.1 ≠ o ∨ q.2 = t) : agK F k t o l q = [] := if_pos h
theorem agK_go {F : Int × Int → Option Tch} {k t o : Int} {l : List Int} {q : Int × Int} {w : Tch} (h : ¬ q.1 ≠ o) (h2 : ¬ q.2 = t) (hF : F q = some w) : agK F k t o l q = (if k = 2 ∧ 0 ≤ w.1 ∧ l.getD q.2.toNat 0 < w.2.2.1 then [w.1] else []) ++ (if 0 ≤ w.2.1 ∧ l.getD q.2.toNat 0 < w.2.2.2 then [w.2.1] else []) := by
  unfold agK
  rw [if_neg (by rintro (h3 | h3) <;> contradiction), hF]
theorem agK_len (F : Int × Int → Option Tch) (k t o : Int) (l : List Int) (q : Int × Int) : (agK F k t o l q).length ≤ 2 := by
  unfold agK
  split
  · simp
  split
  · simp
  · rw [List.length_append]; split <;> split <;> simp
theorem flat_snoc {α : Type} (f : α → List Int) (l : List α) (q : α) : (l ++ [q]).flatMap f = l.flatMap f ++ f q := by simp
theorem flat_len {α : Type} {f : α → List Int} (h : ∀ q, (f q).length ≤ 2) : ∀ l : List α, (l.flatMap f).length ≤ 2 * l.length
  | [] => by simp
  | q :: l => by
    rw [List.flatMap_cons, List.length_append, List.length_cons]
    have h1 := h q
    have h2 := flat_len h l
    omega
def agF (x : HS) (k t o : Int) : List Int := if k = 1 ∨ k = 2 then isort (x.keys.flatMap (agK x.kept k t o (thF x.v t))) else []
theorem flat_perm {α : Type} (f : α → List Int) {a b : List α} (h : a.Perm b) : (a.flatMap f).Perm (b.flatMap f) := h.flatMap_right f
def tchF (x : HS) (o t : Int) : Tch := (x.kept (o, t)).getD (-1, -1, 0, 0)
/-- What is told of a variable behind an access, against which the events of l stand. -/
def ntV (n k t o : Int) (l : List Int) (w : Tld) : Tld := match l.getLast? with
  | none => (w.1, w.2.1, w.2.2.1, (k, t, o), n)
  | some z => (if w.2.2.1 = true then w.1 else (o, z, n), (o, z, n), true, (k, t, o), n)
def ntK (n k c : Int) (w : Tch) : Tch := if k = 1 then (n, w.2.1, c, w.2.2.2) else (w.1, n, w.2.2.1, c)
/-- Behind an access. -/
def ntF (x : HS) (k t o : Int) : HS := ⟨x.v, x.vars.set o.toNat (ntV x.v.ck.n k t o (agF x k t o) (x.vars.getD o.toNat t0)), if (x.kept (o, t)).isSome then x.keys else x.keys ++ [(o, t)], upd x.kept (o, t) (some (ntK x.v.ck.n k ((thF x.v t).getD t.toNat 0) (tchF x o t)))⟩
def accF (x : HS) (k t o : Int) : HS := if k = 1 ∨ k = 2 then ntF x k t o else x
def heF (x : HS) (k t o : Int) : HS := if vcanF x.v k t o then ⟨vnF x.v k t o, (accF x k t o).vars, (accF x k t o).keys, (accF x k t o).kept⟩ else x
def heE (x : HS) (k t o : Int) : Int := if vcanF x.v k t o then 0 else 6
structure SInv (x : HS) : Prop where
  v : VInv x.v
  len : (x.vars.length : Int) = x.v.ck.va
  nd : x.keys.Nodup
  ks : ∀ q, q ∈ x.keys ↔ (x.kept q).isSome = true
  kt : ∀ q ∈ x.keys, 0 ≤ q.2
  kn : (x.keys.length : Int) ≤ x.v.ck.n
theorem acc_o {x : CS} {k t o : Int} (hc : canF x k t o) (hk : k = 1 ∨ k = 2) : 0 ≤ o ∧ o < x.va := by
  rcases hc with ⟨h1, h2, -⟩ | ⟨h1, h0, h2⟩
  · omega
  · unfold okK at h2
    rcases h2 with h | h | h | h | h | h | h | h <;> omega
theorem vnn {x : VS} {k t o : Int} (h : canF x.ck k t o) : (vnF x k t o).ck.n = x.ck.n + 1 ∧ (vnF x k t o).ck.va = x.ck.va ∧ (vnF x k t o).ck.pa = x.ck.pa ∧ (vnF x k t o).ck.th = x.ck.th := by
  rw [vn_ck]
  obtain ⟨n5, n6, n7, n9, n10, n11, nn⟩ := nxF_k h
  by_cases k5 : k = 5
  · rw [n5 k5]; exact ⟨rfl, rfl, rfl, rfl⟩
  by_cases k6 : k = 6
  · rw [n6 k6]; exact ⟨rfl, rfl, rfl, rfl⟩
  by_cases k7 : k = 7
  · rw [n7 k7]; exact ⟨rfl, rfl, rfl, rfl⟩
  by_cases k9 : k = 9
  · rw [n9 k9]; exact ⟨rfl, rfl, rfl, rfl⟩
  by_cases k10 : k = 10
  · rw [n10 k10]; exact ⟨rfl, rfl, rfl, rfl⟩
  by_cases k11 : k = 11
  · rw [n11 k11]; exact ⟨rfl, rfl, rfl, rfl⟩
  rw [nn k5 k6 k7 k9 k10 k11]; exact ⟨rfl, rfl, rfl, rfl⟩
theorem he_inv {x : HS} (hx : SInv x) (k t o : Int) : SInv (heF x k t o) := by
  unfold heF
  split
  · rename_i hv
    obtain ⟨e1, e2, -⟩ := vnn hv.1
    have hvn := next_vinv hx.v hv
    unfold accF
    split
    · rename_i hk
      obtain ⟨h0, -⟩ := th_rng hx.v (can_th hv.1)
      have hkn := hx.kn
      refine ⟨hvn, by simp only [ntF, List.length_set]; rw [e2]; exact hx.len, ?_, fun q => ?_, fun q hq => ?_, ?_⟩
      · simp only [ntF]
        split
        · exact hx.nd
        · rename_i hn
          refine List.nodup_append.2 ⟨hx.nd, by simp, fun a ha b hb => ?_⟩
          simp at hb; subst hb
          intro e; subst e
          exact hn ((hx.ks _).1 ha)
      · simp only [ntF]
        by_cases hq : q = (o, t)
        · subst hq
          rw [show upd x.kept (o, t) (some (ntK x.v.ck.n k ((thF x.v t).getD t.toNat 0) (tchF x o t))) (o, t) = _ from upd_same]
          refine ⟨fun _ => rfl, fun _ => ?_⟩
          split
          · rename_i h; exact (hx.ks _).2 h
          · simp
        · rw [show upd x.kept (o, t) (some (ntK x.v.ck.n k ((thF x.v t).getD t.toNat 0) (tchF x o t))) q = _ from upd_ne hq]
          refine Iff.trans ?_ (hx.ks q)
          split
          · exact .rfl
          · simp [hq]
      · simp only [ntF] at hq
        split at hq
        · exact hx.kt q hq
        · rcases List.mem_append.1 hq with hq | hq
          · exact hx.kt q hq
          · simp at hq; subst hq; exact h0
      · simp only [ntF]
        rw [e1]
        split
        · omega
        · simp; omega
    · have hkn := hx.kn
      exact ⟨hvn, by rw [e2]; exact hx.len, hx.nd, hx.ks, hx.kt, by show (x.keys.length : Int) ≤ (vnF x.v k t o).ck.n; rw [e1]; omega⟩
  · exact hx
theorem he_n {x : HS} (k t o : Int) : (heF x k t o).v.ck.n ≤ x.v.ck.n + 1 ∧ (heF x k t o).v.ck.pa = x.v.ck.pa ∧ (heF x k t o).v.ck.th = x.v.ck.th ∧ (heF x k t o).v.ck.va = x.v.ck.va := by
  unfold heF
  split
  · rename_i hv
    obtain ⟨e1, e2, e3, e4⟩ := vnn hv.1
    exact ⟨by show (vnF x.v k t o).ck.n ≤ _; rw [e1]; exact Int.le_refl _, e3, e4, e2⟩
  · exact ⟨by omega, rfl, rfl, rfl⟩
theorem he_v {x : HS} {k t o : Int} (hv : vcanF x.v k t o) : (heF x k t o).v = vnF x.v k t o := by rw [heF, if_pos hv]
def hEv (x : HS) (e : T3) : HS := heF x e.1 e.2.1 e.2.2
def hAll (x : HS) (es : List T3) : HS := es.foldl hEv x
def canH (x : HS) (e : T3) : Prop := vcanF x.v e.1 e.2.1 e.2.2
instance (x : HS) (e : T3) : Decidable (canH x e) := by unfold canH; infer_instance
def okH (x : HS) (es : List T3) : Prop := ∀ (i : Nat) e, es[i]? = some e → canH (hAll x (es.take i)) e
theorem hAll_next {x : HS} {es : List T3} {i : Nat} {e : T3} (h : es[i]? = some e) : hAll x (es.take (i + 1)) = hEv (hAll x (es.take i)) e := by
  rw [List.take_add_one, h, hAll, hAll, List.foldl_append]; rfl
theorem hAll_inv {x : HS} (hx : SInv x) : ∀ es, SInv (hAll x es)
  | [] => hx
  | e :: es => hAll_inv (he_inv hx _ _ _) es
theorem hAll_n : ∀ (es : List T3) (x : HS), (hAll x es).v.ck.n ≤ x.v.ck.n + es.length ∧ (hAll x es).v.ck.pa = x.v.ck.pa ∧ (hAll x es).v.ck.th = x.v.ck.th ∧ (hAll x es).v.ck.va = x.v.ck.va
  | [], x => ⟨by simp [hAll], rfl, rfl, rfl⟩
  | e :: es, x => by
    have h := hAll_n es (hEv x e)
    have h2 := he_n (x := x) e.1 e.2.1 e.2.2
    refine ⟨?_, h.2.1.trans h2.2.1, h.2.2.1.trans h2.2.2.1, h.2.2.2.trans h2.2.2.2⟩
    have h3 := h.1
    have h4 := h2.1
    simp only [List.length_cons]
    show (hAll (hEv x e) es).v.ck.n ≤ _
    have : (hEv x e).v.ck.n ≤ x.v.ck.n + 1 := h4
    omega
theorem okH_next {x : HS} {es : List T3} {i : Nat} {e : T3} (h : es[i]? = some e) (ho : okH x (es.take i)) (hc : canH (hAll x (es.take i)) e) : okH x (es.take (i + 1)) := by
  intro j q hj
  have hi := (List.getElem?_eq_some_iff.1 h).1
  have hj2 := (List.getElem?_eq_some_iff.1 hj).1
  rw [List.length_take] at hj2
  rw [List.getElem?_take_of_lt (by omega)] at hj
  rw [List.take_take, Nat.min_eq_left (by omega)]
  rcases Nat.lt_or_ge j i with h1 | h1
  · have := ho j q (by rw [List.getElem?_take_of_lt h1]; exact hj)
    rwa [List.take_take, Nat.min_eq_left (by omega)] at this
  · obtain rfl : j = i := by omega
    rw [h] at hj; cases hj; exact hc
def hNew (th va vo lk : Int) (pl : List Int) : HS := ⟨vNew th va vo lk pl, List.replicate va.toNat t0, [], fun _ => none⟩
theorem new_sinv {th va vo lk : Int} {pl : List Int} (hok : OkS th va vo lk pl) : SInv (hNew th va vo lk pl) :=
  ⟨new_vinv hok (new_inv hok), by have := hok.va; simp [hNew, vNew, newF]; omega, .nil, fun q => by simp [hNew], fun q hq => by simp [hNew] at hq, by simp [hNew, vNew, newF]⟩
/-- A history at b. -/
def hsR (pa : Option Addr) (pc : Nat) (po : Option Addr) (poc b : Nat) (x : HS) : HProp := fun h => ∃ vb mk va vc, Sat [cells b 0 [.pointer (some ⟨vb, 0, none⟩), .int .i64 x.v.ck.th, .slice va x.vars.length vc, .map (some mk)], vsR pa pc po poc vb x.v, own 11 encD va vc x.vars, mapO ek2 evT mk x.kept] h
section
variable {w0 : World} {ds : List Deferred} {n : Nat} {e : Env} {Γ Γ' : List HProp} {X : Act → World → Prop}
theorem hs_open {pa : Option Addr} {pc : Nat} {po : Option Addr} {poc b : Nat} {x : HS} (k : ∀ vb mk va vc, Le (St w0 ds n e (cells b 0 [.pointer (some ⟨vb, 0, none⟩), .int .i64 x.v.ck.th, .slice va x.vars.length vc, .map (some mk)] :: vsR pa pc po poc vb x.v :: own 11 encD va vc x.vars :: mapO ek2 evT mk x.kept :: Γ)) X) : Le (St w0 ds n e (hsR pa pc po poc b x :: Γ)) X := fun a w s => by
  obtain ⟨h1, l1, ⟨vb, mk, va, vc, a1⟩, s1⟩ := s.heap
  exact k vb mk va vc a w ⟨s.defers, s.size, s.env, Bun.unfold ⟨h1, l1, a1, s1⟩, s.amb⟩
theorem hs_fold {b : Nat} (x : HS) {pa : Option Addr} {pc : Nat} {po : Option Addr} {poc vb m vc mk : Nat} {va : Option Addr} {y : VS} {Y : List Tld} {c : Int} {K : List (Int × Int)} {F : Int × Int → Option Tch}
    (tk : Takes Γ [cells b 0 [.pointer (some ⟨vb, 0, none⟩), .int .i64 c, .slice va m vc, .map (some mk)], vsR pa pc po poc vb y, own 11 encD va vc Y, mapO ek2 evT mk F] Γ') (hx : x = ⟨y, Y, K, F⟩) (h1 : m = Y.length) (h2 : c = y.ck.th)
    (k : Le (St w0 ds n e (hsR pa pc po poc b x :: Γ')) X) : Le (St w0 ds n e Γ) X := s_heap (fun h s => by
  subst h1 h2 hx
  obtain ⟨h1, l1, a1, s1⟩ := Bun.fold (tk h s)
  exact ⟨h1, l1, ⟨vb, mk, va, vc, a1⟩, s1⟩) k
end
end Go.Ab.Hi
set_option linter.unusedVariables false
set_option linter.unusedSimpArgs false
namespace Go.Ab
open Go
theorem run_next_gen {P : Program} (w : World) (ty : TypeId) (r bm since c0 : Nat) (seen : Array Nat) (es : Array MapEntry) (clock : Nat) (hr : w.heap[r]? = some (.mapIter (some bm) since seen c0)) (hb : w.heap[bm]? = some (.map es clock)) (hold : ∀ x ∈ es.toList, x.born < since) (hsc : since ≤ c0) :
    ((leftOf es seen).size = 0 ∧ (Instr.next (.pointer (some ⟨r, 0, none⟩)) false ty).run P w = .ok (.tuple #[.bool false]) w) ∨
    ∃ e ∈ (leftOf es seen).toList, ∃ w1 : World, (w1.heap = w.heap ∧ w1.os = w.os ∧ w1.tape = w.tape ∧ w1.output = w.output) ∧ (Instr.next (.pointer (some ⟨r, 0, none⟩)) false ty).run P w = .ok (.tuple #[.bool true, e.key, e.val]) { w1 with heap := w1.heap.setIfInBounds r (.mapIter (some bm) since (seen.push e.born) clock) } := by
  simp only [Instr.next, getObj, Sem.run_bind, Sem.run, hr, hb, Result.andThen, next_test_false seen es since c0 hold hsc, Bool.false_eq_true, if_false]
  unfold leftOf
  have hmem : ∀ x ∈ (Array.filter (fun e => !seen.contains e.born) es).toList, x.born < since := fun x hx => hold x (by simp at hx ⊢; exact hx.1)
  generalize Array.filter (fun e => !seen.contains e.born) es = L at hmem ⊢
  have e1 : L.filter (fun x => decide (x.born < since)) = L := Array.filter_eq_self.2 (fun x hx => by simpa using hmem x (by simpa using hx))
  have e2 : L.filter (fun x => decide (x.born ≥ since)) = #[] := by
    rw [Array.filter_eq_empty_iff]
    intro x hx
    have := hmem x (by simpa using hx)
    simp
    omega
  simp only [e1, e2, Array.append_empty]
  by_cases h0 : L.size = 0
  · left
    have : L = #[] := Array.eq_empty_of_size_eq_zero h0
    subst this
    refine ⟨rfl, ?_⟩
    simp [choose, Sem.run, Question.forced]
  · right
    have hne : L.isEmpty = false := by simp [Array.isEmpty, h0]
    simp only [hne, Bool.false_eq_true, if_false, Array.empty_append, Array.size_map]
    have hch : ∃ (j : Nat) (w1 : World), j < L.size ∧ (w1.heap = w.heap ∧ w1.os = w.os ∧ w1.tape = w.tape ∧ w1.output = w.output) ∧ (choose (Question.mapNext L.size)).run P w = .ok j w1 := by
      by_cases hf : L.size ≤ 1
      · exact ⟨0, w, by omega, ⟨rfl, rfl, rfl, rfl⟩, by simp [choose, Sem.run, Question.forced, hf]⟩
      · exact ⟨_, w.drew, Nat.mod_lt _ (by omega), ⟨rfl, rfl, rfl, rfl⟩, by
          simp only [choose, Sem.run, Question.forced, decide_eq_true_eq, hf, if_false, Question.cut]
          rfl⟩
    obtain ⟨j, w1, hj, hal, hrun⟩ := hch
    refine ⟨L[j], by simp, w1, hal, ?_⟩
    have hr1 : w1.heap[r]? = some (.mapIter (some bm) since seen c0) := by rw [hal.1]; exact hr
    have hset : ∀ o', (setObj r o').run P w1 = .ok () { w1 with heap := w1.heap.setIfInBounds r o' } := fun o' => by
      simp [setObj, Sem.run, hr1]
    simp only [hrun, Array.getElem?_map, Array.getElem?_eq_getElem hj, Option.map_some, Sem.run_bind, hset, Result.andThen]
    rfl
theorem run_entry_gen {P : Program} (w : World) (r bm since : Nat) (seen : Array Nat) (es : Array MapEntry) (clock : Nat) (e : MapEntry) (hr : w.heap[r]? = some (.mapIter (some bm) since (seen.push e.born) clock)) (hb : w.heap[bm]? = some (.map es clock)) (he : e ∈ es.toList) (hn : (es.toList.map (·.born)).Nodup) :
    (Instr.entry (.pointer (some ⟨r, 0, none⟩))).run P w = .ok (.tuple #[e.key, e.val]) w := by
  have hf : es.find? (·.born == e.born) = some e := by rw [← Array.find?_toList]; exact find_born e es.toList hn he
  simp only [Instr.entry, getObj, Sem.run_bind, Sem.run, hr, hb, Result.andThen, Array.back?_push, bne_self_eq_false, Bool.false_eq_true, if_false, hf]
  rfl
theorem iter_no {a b c d} : ∀ x y z, Obj.mapIter a b c d ≠ .cells x y z := fun _ _ _ h => by cases h
/-- A loop over the map m: F what it holds (N entries), vis the keys gone over. -/
structure RngL {κ ν : Type} (F : κ → Option ν) (M : List (κ × ν × Nat)) (clock : Nat) (seen : List Nat) (vis : List κ) (N : Nat) : Prop where
  map : MapL F M clock
  len : M.length = N
  vs : ∃ V : List (κ × ν × Nat), (∀ p ∈ V, p ∈ M) ∧ V.map (·.1) = vis ∧ V.map (·.2.2) = seen
def rng {κ ν : Type} (ek : κ → Value) (ev : ν → Value) (r m : Nat) (F : κ → Option ν) (vis : List κ) (N : Nat) : HProp := fun h =>
  ∃ (M : List (κ × ν × Nat)) (clock since : Nat) (seen : List Nat), RngL F M clock seen vis N ∧ (∀ p ∈ M, p.2.2 < since) ∧ since ≤ clock ∧ Sat [objP r (.mapIter (some m) since seen.toArray clock), objP m (.map (M.map (mke ek ev)).toArray clock)] h
section
variable {κ ν : Type} {F : κ → Option ν} {M : List (κ × ν × Nat)} {clock N : Nat} {seen : List Nat} {vis : List κ}
theorem RngL.facts (h : RngL F M clock seen vis N) : (∀ k ∈ vis, ∃ v, F k = some v) := fun k hk => by
  obtain ⟨V, h1, h2, -⟩ := h.vs
  rw [← h2] at hk
  obtain ⟨p, hp, rfl⟩ := List.mem_map.1 hk
  exact ⟨p.2.1, (h.map.tells _ _).2 ⟨p.2.2, h1 p hp⟩⟩
theorem born_inj' (h : MapL F M clock) {p q : κ × ν × Nat} (hp : p ∈ M) (hq : q ∈ M) (e : p.2.2 = q.2.2) : p = q := by
  obtain ⟨i, hi⟩ := List.getElem?_of_mem hp
  obtain ⟨j, hj⟩ := List.getElem?_of_mem hq
  have : i = j := nodup_idx h.born (x := p.2.2) (by rw [List.getElem?_map, hi]; rfl) (by rw [List.getElem?_map, hj, e]; rfl)
  subst this
  rw [hi] at hj; cases hj; rfl
theorem key_inj' (h : MapL F M clock) {p q : κ × ν × Nat} (hp : p ∈ M) (hq : q ∈ M) (e : p.1 = q.1) : p = q := by
  obtain ⟨i, hi⟩ := List.getElem?_of_mem hp
  obtain ⟨j, hj⟩ := List.getElem?_of_mem hq
  have : i = j := nodup_idx h.keys (x := p.1) (by rw [List.getElem?_map, hi]; rfl) (by rw [List.getElem?_map, hj, e]; rfl)
  subst this
  rw [hi] at hj; cases hj; rfl
theorem nodup_sub_len {α : Type} [DecidableEq α] : ∀ {a b : List α}, a.Nodup → (∀ x ∈ a, x ∈ b) → a.length ≤ b.length
  | [], _, _, _ => Nat.zero_le _
  | x :: a, b, hn, hs => by
    rw [List.nodup_cons] at hn
    have h1 : x ∈ b := hs x List.mem_cons_self
    have h2 := nodup_sub_len (a := a) (b := b.erase x) hn.2 fun y hy => (List.mem_erase_of_ne (fun e : y = x => hn.1 (by rw [← e]; exact hy))).2 (hs y (List.mem_cons_of_mem _ hy))
    have h3 := List.length_erase_of_mem h1
    have h4 := List.length_pos_of_mem h1
    simp only [List.length_cons]; omega
end
section
variable {P : Program} {r : Option Nat} {w0 : World} {ds : List Deferred} {n : Nat} {e : Env} {Γ : List HProp} {K : Act → World → Prop} {l : List Oper} {i : Nat} {t : RT} {fl : List Nat}
variable {d : Nat} {ty : TypeId} {pos : String} {af : Array Edge} {g : Option (Nat × Bool)}
variable {κ ν : Type} {ek : κ → Value} {ev1 : ν → Value} {F : κ → Option ν}
theorem l_range {T kt et : TypeId} {x : Operand} {m : Nat} {Γ' : List HProp} (ho : nthO l i = some ⟨some d, .range T x, ty, pos, af, g⟩) (hg : gd l e g = some true) (hn : Nat.blt d n = true) (hx : ev e x = some (.map (some m))) (hT : P.underlying T = some (.map kt et)) (tk : Take Γ (mapO ek ev1 m F) Γ')
    (k1 : ∀ r1 N, Le (St w0 ds n ((d, .pointer (some ⟨r1, 0, none⟩)) :: e) (rng ek ev1 r1 m F [] N :: Γ')) (AG P r l.toArray fl (wpRT P r l.toArray K t))) : Le (St w0 ds n e Γ) (wpRT P r l.toArray K (.l i fl t)) :=
  l_gen ho hg (fun _ h => by cases h) (fun a w s => by
    obtain ⟨M, hM⟩ := (tk _ s.heap).ex
    obtain ⟨clock, hM⟩ := hM.ex
    obtain ⟨h1, h2⟩ := hM.pure_and
    have hb := h2.obj.1
    have hr' : (execOp a.eval ⟨some d, .range T x, ty, pos, af, g⟩).run P w = .ok (.value (.pointer (some ⟨w.heap.size, 0, none⟩))) (w.alloc (.mapIter (some m) clock #[] clock)) := by
      simp [execOp, s.ev hx, run_range_map w T kt et m _ clock hT hb]
    rw [hr']
    have s1 := h2.newObj (.mapIter (some m) clock #[] clock) iter_no
    obtain ⟨h3, l3, a3, s3⟩ := s1
    have s4 : Sat (rng ek ev1 w.heap.size m F [] M.length :: Γ') (lh (w.alloc (.mapIter (some m) clock #[] clock))) := by
      obtain ⟨h5, l5, a5, s5⟩ := Bun.fold (Γ := [objP w.heap.size (.mapIter (some m) clock #[] clock), objP m (.map (M.map (mke ek ev1)).toArray clock)]) ⟨h3, l3, a3, s3⟩
      exact ⟨h5, l5, ⟨M, clock, clock, [], ⟨h1, rfl, [], by simp, rfl, rfl⟩, h1.lt, Nat.le_refl _, a5⟩, s5⟩
    exact k1 _ _ _ _ ((s.world s4 ⟨rfl, rfl, rfl, by simp⟩).put hn))
theorem l_next [DecidableEq κ] {x : Operand} {r1 m N : Nat} {vis : List κ} {Γ' : List HProp} (ho : nthO l i = some ⟨some d, .next x false, ty, pos, af, g⟩) (hg : gd l e g = some true) (hn : Nat.blt d n = true) (hx : ev e x = some (.pointer (some ⟨r1, 0, none⟩))) (hnd : vis.Nodup) (tk : Take Γ (rng ek ev1 r1 m F vis N) Γ')
    (k0 : (∀ k v, F k = some v → k ∈ vis) → (∀ k ∈ vis, ∃ v, F k = some v) → Le (St w0 ds n ((d, .tuple #[.bool false]) :: e) (mapO ek ev1 m F :: Γ')) (AG P r l.toArray fl (wpRT P r l.toArray K t)))
    (k1 : ∀ k v, F k = some v → k ∉ vis → vis.length < N → Le (St w0 ds n ((d, .tuple #[.bool true, ek k, ev1 v]) :: e) (rng ek ev1 r1 m F (vis ++ [k]) N :: Γ')) (AG P r l.toArray fl (wpRT P r l.toArray K t))) : Le (St w0 ds n e Γ) (wpRT P r l.toArray K (.l i fl t)) :=
  l_gen ho hg (fun _ h => by cases h) (fun a w s => by
    have s0 := tk _ s.heap
    obtain ⟨h1, l1, ⟨M, clock, since, seen, hR, hold, hsc, a1⟩, s1⟩ := s0
    have s2 : Sat (objP r1 (.mapIter (some m) since seen.toArray clock) :: objP m (.map (M.map (mke ek ev1)).toArray clock) :: Γ') (lh w) := Bun.unfold ⟨h1, l1, a1, s1⟩
    have hbr := s2.obj.1
    have hbm := (Sat.swap s2).obj.1
    obtain ⟨V, v1, v2, v3⟩ := hR.vs
    rcases run_next_gen (P := P) w ty r1 m since clock seen.toArray _ clock hbr hbm (fun y hy => by
        simp only [List.mem_map] at hy
        obtain ⟨p, hp, rfl⟩ := hy
        exact hold p hp) hsc with ⟨h3, h4⟩ | ⟨en, h3, w1, ⟨q1, q2, q3, q4⟩, h4⟩
    · have hr' : (execOp a.eval ⟨some d, .next x false, ty, pos, af, g⟩).run P w = .ok (.value (.tuple #[.bool false])) w := by simp [execOp, s.ev hx, h4]
      rw [hr']
      have hall : ∀ k v, F k = some v → k ∈ vis := fun k v hkv => by
        obtain ⟨b, hb⟩ := (hR.map.tells k v).1 hkv
        have hin : b ∈ seen := by
          by_cases hs : b ∈ seen
          · exact hs
          · exfalso
            have hm : mke ek ev1 (k, v, b) ∈ (leftOf (M.map (mke ek ev1)).toArray seen.toArray).toList := by
              unfold leftOf
              simp only [Array.toList_filter, List.mem_filter, List.mem_map]
              exact ⟨⟨_, hb, rfl⟩, by simp [mke, hs]⟩
            have : 0 < (leftOf (M.map (mke ek ev1)).toArray seen.toArray).toList.length := List.length_pos_of_mem hm
            simp at this; omega
        rw [← v3] at hin
        obtain ⟨p, hp, hpb⟩ := List.mem_map.1 hin
        have := born_inj' hR.map (v1 p hp) hb hpb
        rw [← v2]; exact List.mem_map.2 ⟨p, hp, by rw [this]⟩
      have sm : Sat (mapO ek ev1 m F :: Γ') (lh w) := by
        obtain ⟨h6, l6, a6, s6⟩ := Sat.swap s2
        obtain ⟨h7, l7, a7, s7⟩ := s6
        exact ⟨h6, l6, ⟨M, clock, hR.map, a6⟩, s7.mono (Hmin_le _ _)⟩
      exact k0 hall hR.facts _ _ ((s.world sm (Amb.refl w)).put hn)
    · obtain ⟨p, hp, rfl⟩ : ∃ p ∈ M, mke ek ev1 p = en := by
        have := (mem_left h3).1
        simpa using this
      have hns : p.2.2 ∉ seen := by
        have := (mem_left h3).2
        simpa [mke] using this
      have hr' : (execOp a.eval ⟨some d, .next x false, ty, pos, af, g⟩).run P w = .ok (.value (.tuple #[.bool true, ek p.1, ev1 p.2.1])) { w1 with heap := w1.heap.setIfInBounds r1 (.mapIter (some m) since (seen.toArray.push p.2.2) clock) } := by
        simp [execOp, s.ev hx, h4, mke]
      rw [hr']
      have hkn : p.1 ∉ vis := fun hk => by
        rw [← v2] at hk
        obtain ⟨q, hq, hqk⟩ := List.mem_map.1 hk
        have := key_inj' hR.map (v1 q hq) hp hqk
        subst this
        exact hns (v3 ▸ List.mem_map.2 ⟨q, hq, rfl⟩)
      have hlt : vis.length < N := by
        have h8 := nodup_sub_len (a := vis ++ [p.1]) (b := M.map (·.1)) (List.nodup_append.2 ⟨hnd, by simp, fun a ha b hb => by simp at hb; subst hb; intro e; exact hkn (e ▸ ha)⟩) (fun k hk => by
          rcases List.mem_append.1 hk with hk | hk
          · rw [← v2] at hk
            obtain ⟨q, hq, rfl⟩ := List.mem_map.1 hk
            exact List.mem_map.2 ⟨q, v1 q hq, rfl⟩
          · simp at hk; subst hk; exact List.mem_map.2 ⟨p, hp, rfl⟩)
        rw [List.length_append, List.length_map, hR.len] at h8
        simp at h8; omega
      have s3 := s2.setObj (.mapIter (some m) since (seen.toArray.push p.2.2) clock) iter_no
      have hw : lh { w1 with heap := w1.heap.setIfInBounds r1 (.mapIter (some m) since (seen.toArray.push p.2.2) clock) } = lh { w with heap := w.heap.setIfInBounds r1 (.mapIter (some m) since (seen.toArray.push p.2.2) clock) } := by
        unfold lh; simp only [q1]
      have s4 : Sat (rng ek ev1 r1 m F (vis ++ [p.1]) N :: Γ') (lh { w1 with heap := w1.heap.setIfInBounds r1 (.mapIter (some m) since (seen.toArray.push p.2.2) clock) }) := by
        rw [hw]
        obtain ⟨h5, l5, a5, s5⟩ := Bun.fold (Γ := [objP r1 (.mapIter (some m) since (seen.toArray.push p.2.2) clock), objP m (.map (M.map (mke ek ev1)).toArray clock)]) s3
        refine ⟨h5, l5, ⟨M, clock, since, seen ++ [p.2.2], ⟨hR.map, hR.len, V ++ [p], ?_, ?_, ?_⟩, hold, hsc, ?_⟩, s5⟩
        · intro q hq
          rcases List.mem_append.1 hq with hq | hq
          · exact v1 q hq
          · simp at hq; subst hq; exact hp
        · simp [v2]
        · simp [v3]
        · have e9 : (seen ++ [p.2.2]).toArray = seen.toArray.push p.2.2 := by simp
          rw [e9]; exact a5
      exact k1 p.1 p.2.1 ((hR.map.tells _ _).2 ⟨p.2.2, hp⟩) hkn hlt _ _ ((s.world s4 ⟨q2, q3, q4, by simp [q1]⟩).put hn))
theorem q_entry {x : Operand} {r1 m N : Nat} {vis : List κ} {k : κ} {v : ν} {Γ' : List HProp} (ho : nthO l i = some ⟨some d, .entry x, ty, pos, af, g⟩) (hg : gd l e g = some true) (hn : Nat.blt d n = true) (hx : ev e x = some (.pointer (some ⟨r1, 0, none⟩))) (hF : F k = some v) (tk : Take Γ (rng ek ev1 r1 m F (vis ++ [k]) N) Γ')
    (k1 : Le (St w0 ds n ((d, .tuple #[ek k, ev1 v]) :: e) Γ) (wpRT P r l.toArray K t)) : Le (St w0 ds n e Γ) (wpRT P r l.toArray K (.q i t)) :=
  q_read ho hg rfl hn rfl (fun _ h => by cases h) (fun a w s => by
    obtain ⟨h1, l1, ⟨M, clock, since, seen, hR, hold, hsc, a1⟩, s1⟩ := tk _ s.heap
    have s2 : Sat (objP r1 (.mapIter (some m) since seen.toArray clock) :: objP m (.map (M.map (mke ek ev1)).toArray clock) :: Γ') (lh w) := Bun.unfold ⟨h1, l1, a1, s1⟩
    have hbr := s2.obj.1
    have hbm := (Sat.swap s2).obj.1
    obtain ⟨V, v1, v2, v3⟩ := hR.vs
    obtain ⟨b, hb⟩ := (hR.map.tells k v).1 hF
    have hV : ∃ V0, V = V0 ++ [(k, v, b)] := by
      have hne : V ≠ [] := fun e => by rw [e] at v2; simp at v2
      refine ⟨V.dropLast, ?_⟩
      have h3 := List.dropLast_concat_getLast hne
      have h4 : (V.getLast hne).1 = k := by
        have h5 : (V.map (·.1)).getLast? = (vis ++ [k]).getLast? := by rw [v2]
        rw [List.getLast?_map, List.getLast?_eq_some_getLast hne] at h5
        simpa using h5
      have h5 := key_inj' hR.map (v1 _ (List.getLast_mem hne)) hb h4
      rw [← h5]; exact h3.symm
    obtain ⟨V0, rfl⟩ := hV
    have hseen : seen.toArray = (V0.map (·.2.2)).toArray.push b := by rw [← v3]; simp
    rw [hseen] at hbr
    have hrun := run_entry_gen (P := P) w r1 m since (V0.map (·.2.2)).toArray _ clock (mke ek ev1 (k, v, b)) hbr hbm (by simpa using ⟨k, v, b, hb, rfl⟩) (by simpa [mke, Function.comp_def] using hR.map.born)
    simp [execOp, s.ev hx, hrun, mke]) k1
end
end Go.Ab
set_option linter.unusedVariables false
set_option linter.unusedSimpArgs false
set_option maxRecDepth 100000
namespace Go.Ab.Hi
open Go Go.Proofs Go.Ab Go.Ab.Fe Go.Ab.Vc Go.Ab.Dj Go.Ab.So
theorem there_spec (b vb : Nat) (v1 v2 v3 : Value) : Spec Try.prog 28 [.pointer (some ⟨b, 0, none⟩)] [cells b 0 [.pointer (some ⟨vb, 0, none⟩), v1, v2, v3]] (fun (_ : Unit) => .bool true) (fun _ => True) (fun _ => [cells b 0 [.pointer (some ⟨vb, 0, none⟩), v1, v2, v3]]) := by
 refine spec_mk (n := 12) Try.func28 rfl rfl rfl ?_
 intro Γ w0
 simp only [argE, List.cons_append, List.nil_append, Nat.zero_add, Nat.reduceAdd]
 refine c_seq ?_
 refine c_plain (.q 0 (.done)) (by kernel_rfl) ?_
 refine q_assign rfl rfl rfl rfl ?_
 refine r_done ?_
 refine k_then_n ?_
 refine c_seq ?_
 refine c_plain (.q 0 (.q 1 (.q 2 (.q 3 (.q 4 (.q 5 (.q 6 (.q 7 (.q 8 (.q 9 (.done))))))))))) (by kernel_rfl) ?_
 refine q_move rfl rfl rfl rfl ?_
 refine q_ne_nil rfl rfl rfl rfl Try.underlying28 ?_
 refine s_eq 4 rfl (v' := .bool true) rfl ?_
 refine q_move rfl rfl rfl rfl ?_
 refine q_move rfl rfl rfl rfl ?_
 refine q_nil_p rfl rfl rfl rfl ?_
 refine q_field (k := 0) rfl rfl rfl rfl Try.underlying70 rfl Try.sizeOf64 rfl ?_
 refine q_load_c (j := 0) rfl rfl rfl rfl Try.isAgg64 Tk (by first | rfl | exact (Nat.add_zero _).symm) (by rfl) ?_
 refine q_ne_nil rfl rfl rfl rfl Try.underlying64 ?_
 refine s_eq 10 rfl (v' := .bool true) rfl ?_
 refine q_pick_t rfl rfl rfl rfl rfl ?_
 refine q_assign rfl rfl rfl rfl ?_
 refine r_done ?_
 refine s_keep [2] (e' := [(2, _)]) rfl ?_
 refine k_then_n ?_
 refine c_ret ?_
 refine ret1 rfl rfl (()) (by first | rfl | (first | rfl | (congr 1; done) | (congr 1 <;> first | rfl | omega | (simp; done) | (simp; omega)))) (by trivial) ?_
 exact Tf
theorem new_spec (th va vo lk : Int) (pl : List Int) (ao : Option Addr) (n c : Nat) (A : HProp) (hr : RdS A ao (pl.flatMap encZ)) (hn : pl.length = n) (hb : n ≤ 4000000) (hok : OkS th va vo lk pl) : Spec Try.prog 9 [.agg #[.int .i64 th, .int .i64 va, .int .i64 vo, .int .i64 lk, .slice ao n c]] [A] (fun (r : Nat × (Option Addr × Nat) × Option Addr × Nat) => .tuple #[.pointer (some ⟨r.1, 0, none⟩), .int .i64 0]) (fun r => True) (fun r => [A, own 1 encZ r.2.1.1 r.2.1.2 pl, own 1 encZ r.2.2.1 r.2.2.2 pl, hsR r.2.1.1 r.2.1.2 r.2.2.1 r.2.2.2 r.1 (hNew th va vo lk pl)]) := by
 refine spec_mk (n := 23) Try.func9 rfl rfl rfl ?_
 intro Γ w0
 simp only [argE, List.cons_append, List.nil_append, Nat.zero_add, Nat.reduceAdd]
 refine c_seq ?_
 refine c_plain ((.l 0 [] (.q 1 (.q 2 (.done))))) (by kernel_rfl) ?_
 refine l_box rfl rfl rfl rfl (us := [_, _, _, _, _]) rfl ?_
 intro b1
 refine ag_nil ?_
 refine q_assign rfl rfl rfl rfl ?_
 refine q_assign rfl rfl rfl rfl ?_
 refine r_done ?_
 refine k_then_n ?_
 refine c_seq ?_
 refine c_plain (.q 0 ((.l 1 [] (.q 2 (.q 3 (.q 4 (.q 5 (.q 6 (.done))))))))) (by kernel_rfl) ?_
 refine q_loadN_c rfl rfl rfl rfl Try.isAgg25 Try.sizeOf25 Tk 0 (us := [_, _, _, _, _]) (by first | rfl | exact (Nat.add_zero _).symm) rfl rfl ?_
 have sp_1 := Dj.begin_spec th va vo lk pl ao n c A hr hn hb hok
 refine l_call rfl rfl rfl rfl rfl rfl Try.call27 (sp_1) Ts ?_
 rintro ⟨⟨vb, cbx, pa, pc⟩, po, poc⟩ -
 try simp only [List.cons_append, List.nil_append]
 refine ag_nil ?_
 refine q_move rfl rfl rfl rfl ?_
 refine q_extract rfl rfl rfl rfl rfl ?_
 refine q_extract rfl rfl rfl rfl rfl ?_
 refine q_assign rfl rfl rfl rfl ?_
 refine q_assign rfl rfl rfl rfl ?_
 refine r_done ?_
 refine s_keep [1, 4, 5] (e' := [(1, _), (4, _), (5, _)]) rfl ?_
 refine k_then_n ?_
 refine c_seq ?_
 refine c_seq ?_
 refine c_plain (.q 0 (.q 1 (.done))) (by kernel_rfl) ?_
 refine q_move rfl rfl rfl rfl ?_
 refine q_int rfl rfl rfl rfl rfl (b_neq _ _ _ _) ?_
 refine s_eq 12 rfl (v' := .bool false) (by first | rfl | simp) ?_
 refine r_done ?_
 refine k_then_n ?_
 refine c_cond_f rfl ?_
 refine c_skip ?_
 refine k_then_n ?_
 refine c_seq ?_
 obtain ⟨nv, hnv⟩ : ∃ q : Nat, va = (q : Int) := ⟨va.toNat, by have := hok.va; omega⟩
 have hvb := hok.va
 refine s_take (A := cells b1 0 [.int .i64 th, .int .i64 va, .int .i64 vo, .int .i64 lk, .slice ao n c]) Tk ?_
 refine s_heap (Γ' := cells b1 0 [.int .i64 th, .int .i64 ((nv : Nat) : Int), .int .i64 vo, .int .i64 lk, .slice ao n c] :: _) (fun _ h => (by rw [← hnv]; exact h)) ?_
 refine c_draw rfl (.q 0 (.q 1 (.q 2 (.q 3 (.q 4 ((.alt (.l 5 [2] ((.l 6 [2] (.q 7 ((.l 8 [] (.q 9 (.q 10 (.done))))))))) (.l 6 [2, 4] ((.l 5 [2] (.q 7 ((.l 8 [] (.q 9 (.q 10 (.done)))))))))))))))) (by kernel_rfl) ?_
 refine q_move rfl rfl rfl rfl ?_
 refine q_field (k := 0) rfl rfl rfl rfl Try.underlying25 rfl Try.sizeOf3 rfl ?_
 refine q_load_c (j := 0) rfl rfl rfl rfl Try.isAgg3 Tk (by first | rfl | exact (Nat.add_zero _).symm) (by rfl) ?_
 refine q_field (k := 1) rfl rfl rfl rfl Try.underlying25 rfl Try.sizeOf3 rfl ?_
 refine q_load_c (j := 1) rfl rfl rfl rfl Try.isAgg3 Tk (by first | rfl | exact (Nat.add_zero _).symm) (by rfl) ?_
 refine r_alt ?_ ?_
 ·
  refine l_make (sz := 11) (enc := encD) (len := nv) (cap := nv) (t0) rfl rfl rfl rfl rfl (by first | rfl | omega) (by first | rfl | omega) Try.underlying67 Try.typeInfo102 rfl rfl rfl (by decide) (by omega) (by omega) (by show 88 * _ ≤ _; omega) (by rfl) (encD_len) ?_
  intro b19
  refine ag_load_c (q := 0) rfl rfl rfl Try.isAgg3 Tk (by first | rfl | exact (Nat.add_zero _).symm) (by rfl) ?_
  refine ag_nil ?_
  refine l_makeMap (Int × Int) Tch ek2 evT rfl rfl rfl ?_
  intro mk
  refine ag_load_c (q := 0) rfl rfl rfl Try.isAgg3 Tk (by first | rfl | exact (Nat.add_zero _).symm) (by rfl) ?_
  refine ag_nil ?_
  refine q_build rfl rfl rfl rfl (vs := [_, _, _, _]) (run_buildS Try.underlying70 Try.zeroValue70 (ps := [(0, 1), (1, 1), (2, 1), (3, 1)]) ⟨rfl, Try.sizeOf64, rfl, Try.sizeOf3, rfl, Try.sizeOf67, rfl, Try.sizeOf68, trivial⟩ rfl) ?_
  refine l_box rfl rfl rfl rfl (us := [_, _, _, _]) rfl ?_
  intro b22
  refine ag_nil ?_
  refine q_assign rfl rfl rfl rfl ?_
  refine q_assign rfl rfl rfl rfl ?_
  refine r_done ?_
  refine s_keep [2, 3] (e' := [(2, _), (3, _)]) rfl ?_
  refine k_then_n ?_
  refine c_ret ?_
  refine hs_fold (b := b22) (hNew th va vo lk pl) (pa := pa) (pc := pc) (po := po) (poc := poc) (vb := vb) (va := some ⟨b19, 0, none⟩) (vc := nv) (mk := mk) (K := []) Ts (by rw [hNew, hnv, Int.toNat_natCast]; rfl) (by simp) (by rfl) ?_
  refine ret2 rfl rfl rfl ((b22, (pa, pc), po, poc)) (by first | rfl | (first | rfl | (congr 1; done) | (congr 1 <;> first | rfl | omega | (simp; done) | (simp; omega)))) (by trivial) ?_
  exact Tf
 refine l_makeMap (Int × Int) Tch ek2 evT rfl rfl rfl ?_
 intro mk
 refine ag_load_c (q := 0) rfl rfl rfl Try.isAgg3 Tk (by first | rfl | exact (Nat.add_zero _).symm) (by rfl) ?_
 refine ag_load_c (q := 1) rfl rfl rfl Try.isAgg3 Tk (by first | rfl | exact (Nat.add_zero _).symm) (by rfl) ?_
 refine ag_nil ?_
 refine l_make (sz := 11) (enc := encD) (len := nv) (cap := nv) (t0) rfl rfl rfl rfl rfl (by first | rfl | omega) (by first | rfl | omega) Try.underlying67 Try.typeInfo102 rfl rfl rfl (by decide) (by omega) (by omega) (by show 88 * _ ≤ _; omega) (by rfl) (encD_len) ?_
 intro b19
 refine ag_load_c (q := 0) rfl rfl rfl Try.isAgg3 Tk (by first | rfl | exact (Nat.add_zero _).symm) (by rfl) ?_
 refine ag_nil ?_
 refine q_build rfl rfl rfl rfl (vs := [_, _, _, _]) (run_buildS Try.underlying70 Try.zeroValue70 (ps := [(0, 1), (1, 1), (2, 1), (3, 1)]) ⟨rfl, Try.sizeOf64, rfl, Try.sizeOf3, rfl, Try.sizeOf67, rfl, Try.sizeOf68, trivial⟩ rfl) ?_
 refine l_box rfl rfl rfl rfl (us := [_, _, _, _]) rfl ?_
 intro b22
 refine ag_nil ?_
 refine q_assign rfl rfl rfl rfl ?_
 refine q_assign rfl rfl rfl rfl ?_
 refine r_done ?_
 refine s_keep [2, 3] (e' := [(2, _), (3, _)]) rfl ?_
 refine k_then_n ?_
 refine c_ret ?_
 refine hs_fold (b := b22) (hNew th va vo lk pl) (pa := pa) (pc := pc) (po := po) (poc := poc) (vb := vb) (va := some ⟨b19, 0, none⟩) (vc := nv) (mk := mk) (K := []) Ts (by rw [hNew, hnv, Int.toNat_natCast]; rfl) (by simp) (by rfl) ?_
 refine ret2 rfl rfl rfl ((b22, (pa, pc), po, poc)) (by first | rfl | (first | rfl | (congr 1; done) | (congr 1 <;> first | rfl | omega | (simp; done) | (simp; omega)))) (by trivial) ?_
 exact Tf
theorem touched_spec (b mk : Nat) (v0 v1 v2 : Value) (F : Int × Int → Option Tch) (o t : Int) : Spec Try.prog 33 [.pointer (some ⟨b, 0, none⟩), .int .i64 o, .int .i64 t] [cells b 0 [v0, v1, v2, .map (some mk)], mapO ek2 evT mk F] (fun (_ : Unit) => evT ((F (o, t)).getD (-1, -1, 0, 0))) (fun _ => True) (fun _ => [cells b 0 [v0, v1, v2, .map (some mk)], mapO ek2 evT mk F]) := by
 refine spec_mk (n := 23) Try.func33 rfl rfl rfl ?_
 intro Γ w0
 simp only [argE, List.cons_append, List.nil_append, Nat.zero_add, Nat.reduceAdd]
 refine c_seq ?_
 refine c_plain ((.l 0 [] (.done))) (by kernel_rfl) ?_
 refine l_alloc rfl rfl rfl Try.zeroValue39 (zs := [.int .i64 0, .int .i64 0, .int .u64 0, .int .u64 0]) rfl ?_
 intro b6
 refine ag_nil ?_
 refine r_done ?_
 refine k_then_n ?_
 refine c_seq ?_
 refine c_seq ?_
 refine c_plain (.q 0 (.q 1 (.q 2 (.q 3 (.q 4 (.q 5 (.q 6 (.q 7 (.q 8 (.q 9 (.q 10 ((.l 11 [] ((.l 12 [] (.q 13 (.done))))))))))))))))) (by kernel_rfl) ?_
 refine q_move rfl rfl rfl rfl ?_
 refine q_nil_p rfl rfl rfl rfl ?_
 refine q_field (k := 3) rfl rfl rfl rfl Try.underlying70 rfl Try.sizeOf68 rfl ?_
 refine q_load_c (j := 3) rfl rfl rfl rfl Try.isAgg68 Tk (by first | rfl | exact (Nat.add_zero _).symm) (by rfl) ?_
 refine q_move rfl rfl rfl rfl ?_
 refine q_move rfl rfl rfl rfl ?_
 refine q_build rfl rfl rfl rfl (vs := [_, _]) (run_buildS Try.underlying111 Try.zeroValue111 (ps := [(0, 1), (1, 1)]) ⟨rfl, Try.sizeOf3, rfl, Try.sizeOf3, trivial⟩ rfl) ?_
 refine q_lookup2 (ek := ek2) (ev1 := evT) (F := F) (m := mk) (k := (o, t)) ((0, 0, 0, 0) : Tch) rfl rfl rfl rfl rfl Try.underlying68 (keyOK_pair Try.underlying111 rfl rfl rfl rfl Try.underlying3 Try.underlying3 Try.isAgg3 Try.isAgg3 (by kernel_rfl)) Try.zeroValue39 Tk ?_
 refine q_move rfl rfl rfl rfl ?_
 refine q_extract rfl rfl rfl rfl rfl ?_
 refine q_extract rfl rfl rfl rfl rfl ?_
 refine l_alloc rfl rfl rfl Try.zeroValue39 (zs := [.int .i64 0, .int .i64 0, .int .u64 0, .int .u64 0]) rfl ?_
 intro b7
 refine ag_nil ?_
 refine l_store (j := 0) rfl rfl rfl rfl Try.sizeOf39 (us := [_, _, _, _]) rfl rfl rfl Tk (by first | rfl | exact (Nat.add_zero _).symm) (by first | decide | (simp; done) | omega) ?_
 simp only [setL, List.set]
 refine ag_nil ?_
 refine q_assign rfl rfl rfl rfl ?_
 refine r_done ?_
 refine s_keep [6, 7, 8] (e' := [(6, _), (7, _), (8, _)]) rfl ?_
 refine k_then_n ?_
 refine c_seq ?_
 refine c_plain (.q 0 (.done)) (by kernel_rfl) ?_
 refine q_move rfl rfl rfl rfl ?_
 refine r_done ?_
 refine k_then_n ?_
 refine c_cond rfl (fun hk => ?_) (fun hk => ?_)
 ·
  try simp only [Bool.and_eq_true, Bool.or_eq_true, Bool.not_eq_true', Bool.not_eq_false', Bool.and_eq_false_iff, Bool.or_eq_false_iff, decide_eq_true_eq, decide_eq_false_iff_not] at hk
  obtain ⟨w, hw⟩ := Option.isSome_iff_exists.1 hk
  refine c_seq ?_
  refine c_plain (.q 0 ((.l 1 [] (.done)))) (by kernel_rfl) ?_
  refine q_loadN_c rfl rfl rfl rfl Try.isAgg39 Try.sizeOf39 Tk 0 (us := [_, _, _, _]) (by first | rfl | exact (Nat.add_zero _).symm) rfl rfl ?_
  refine l_store (j := 0) rfl rfl rfl rfl Try.sizeOf39 (us := [_, _, _, _]) rfl rfl rfl Tk (by first | rfl | exact (Nat.add_zero _).symm) (by first | decide | (simp; done) | omega) ?_
  simp only [setL, List.set]
  refine ag_nil ?_
  refine r_done ?_
  refine s_keep [6] (e' := [(6, _)]) rfl ?_
  refine k_then_n ?_
  refine c_ret ?_
  refine k_then_ret ?_
  refine retL (us := [_]) rfl ⟨rv_cellN rfl Try.isAgg39 Try.sizeOf39 Tk 0 rfl (us := [_, _, _, _]) rfl rfl, trivial⟩ (()) (by rw [hw]; rfl) (by trivial) ?_
  exact Tf
 ·
  try simp only [Bool.and_eq_true, Bool.or_eq_true, Bool.not_eq_true', Bool.not_eq_false', Bool.and_eq_false_iff, Bool.or_eq_false_iff, decide_eq_true_eq, decide_eq_false_iff_not] at hk
  have hw : F (o, t) = none := by simpa using hk
  refine c_skip ?_
  refine k_then_n ?_
  refine c_seq ?_
  refine c_plain (.q 0 ((.l 1 [] (.done)))) (by kernel_rfl) ?_
  refine q_build rfl rfl rfl rfl (vs := [_, _, _, _]) (run_buildS Try.underlying39 Try.zeroValue39 (ps := [(0, 1), (1, 1), (2, 1), (3, 1)]) ⟨rfl, Try.sizeOf3, rfl, Try.sizeOf3, rfl, Try.sizeOf37, rfl, Try.sizeOf37, trivial⟩ rfl) ?_
  refine l_store (j := 0) rfl rfl rfl rfl Try.sizeOf39 (us := [_, _, _, _]) rfl rfl rfl Tk (by first | rfl | exact (Nat.add_zero _).symm) (by first | decide | (simp; done) | omega) ?_
  simp only [setL, List.set]
  refine ag_nil ?_
  refine r_done ?_
  refine s_keep [6] (e' := [(6, _)]) rfl ?_
  refine k_then_n ?_
  refine c_ret ?_
  refine retL (us := [_]) rfl ⟨rv_cellN rfl Try.isAgg39 Try.sizeOf39 Tk 0 rfl (us := [_, _, _, _]) rfl rfl, trivial⟩ (()) (by rw [hw]; rfl) (by trivial) ?_
  exact Tf
theorem against_spec (b vb mk m1 tb : Nat) (v1 v2 u0 u1 u3 u4 u5 : Value) (F : Int × Int → Option Tch) (F1 : Int → Option (Option Addr)) (ta : Option Addr) (tc : Nat) (l : List Int) (K : List (Int × Int)) (k t o : Int) (hF1 : F1 t = some (some ⟨tb, 0, none⟩)) (hKn : K.Nodup) (hks : ∀ q, q ∈ K ↔ (F q).isSome = true) (hkt : ∀ q ∈ K, 0 ≤ q.2) (hKl : K.length ≤ 1000000000000) : Spec Try.prog 35 [.pointer (some ⟨b, 0, none⟩), .agg #[.int .i64 k, .int .i64 t, .int .i64 o]] [cells b 0 [.pointer (some ⟨vb, 0, none⟩), v1, v2, .map (some mk)], cells vb 0 [u0, u1, .map (some m1), u3, u4, u5], mapO ek2 evT mk F, mapO ekZ evA m1 F1, cells tb 0 [.slice ta l.length tc], own 1 encU ta tc l] (fun (r : Option Addr × Nat) => .slice r.1 (if k = 1 ∨ k = 2 then isort (K.flatMap (agK F k t o l)) else []).length r.2) (fun r => True) (fun r => [cells b 0 [.pointer (some ⟨vb, 0, none⟩), v1, v2, .map (some mk)], cells vb 0 [u0, u1, .map (some m1), u3, u4, u5], mapO ek2 evT mk F, mapO ekZ evA m1 F1, cells tb 0 [.slice ta l.length tc], own 1 encU ta tc l, own 1 encZ r.1 r.2 (if k = 1 ∨ k = 2 then isort (K.flatMap (agK F k t o l)) else [])]) := by
 refine spec_mk (n := 89) Try.func35 rfl rfl rfl ?_
 intro Γ w0
 simp only [argE, List.cons_append, List.nil_append, Nat.zero_add, Nat.reduceAdd]
 refine c_seq ?_
 refine c_plain ((.l 0 [] (.q 1 (.done)))) (by kernel_rfl) ?_
 refine l_box rfl rfl rfl rfl (us := [_, _, _]) rfl ?_
 intro b3
 refine ag_nil ?_
 refine q_assign rfl rfl rfl rfl ?_
 refine r_done ?_
 refine k_then_n ?_
 refine c_seq ?_
 refine c_seq ?_
 refine c_plain (.q 0 (.q 1 (.q 2 (.q 3 (.q 4 (.q 5 (.q 6 (.q 7 (.done))))))))) (by kernel_rfl) ?_
 refine q_field (k := 0) rfl rfl rfl rfl Try.underlying36 rfl Try.sizeOf34 rfl ?_
 refine q_load_c (j := 0) rfl rfl rfl rfl Try.isAgg34 Tk (by first | rfl | exact (Nat.add_zero _).symm) (by rfl) ?_
 refine q_int rfl rfl rfl rfl rfl (b_neq _ _ _ _) ?_
 refine q_move rfl rfl rfl rfl ?_
 refine s_bool_p 13 rfl (fun k1 => ?_) (fun k1 => ?_)
 ·
  refine q_field (k := 0) rfl rfl rfl rfl Try.underlying36 rfl Try.sizeOf34 rfl ?_
  refine q_load_c (j := 0) rfl rfl rfl rfl Try.isAgg34 Tk (by first | rfl | exact (Nat.add_zero _).symm) (by rfl) ?_
  refine q_int rfl rfl rfl rfl rfl (b_neq _ _ _ _) ?_
  refine q_pick_t rfl rfl rfl rfl rfl ?_
  refine r_done ?_
  refine s_keep [0, 3, 17] (e' := [(0, _), (3, _), (17, _)]) rfl ?_
  refine k_then_n ?_
  refine c_cond_p rfl (fun k2 => ?_) (fun k2 => ?_)
  ·
   have hk : ¬ (k = 1 ∨ k = 2) := by omega
   refine c_seq ?_
   refine c_plain (.q 0 (.done)) (by kernel_rfl) ?_
   refine q_assign rfl rfl rfl rfl ?_
   refine r_done ?_
   refine k_then_n ?_
   refine c_ret ?_
   refine k_then_ret ?_
   refine s_heap (fun _ h => own_nil (sz := 1) (enc := encZ) h) ?_
   rw [if_neg hk]
   refine ret1 rfl rfl ((none, 0)) (by rfl) (by trivial) ?_
   exact Tf
  ·
   have hk : k = 1 ∨ k = 2 := by omega
   refine c_skip ?_
   refine k_then_n ?_
   refine c_seq ?_
   refine c_plain (.q 0 (.done)) (by kernel_rfl) ?_
   refine q_assign rfl rfl rfl rfl ?_
   refine r_done ?_
   refine k_then_n ?_
   refine c_seq ?_
   refine c_draw rfl (.q 0 (.q 1 (.q 2 (.q 3 (.q 4 (.q 5 (.q 6 (.q 7 (.q 8 (.q 9 (.q 10 (.done)))))))))))) (by kernel_rfl) ?_
   refine q_move rfl rfl rfl rfl ?_
   refine q_nil_p rfl rfl rfl rfl ?_
   refine q_field (k := 0) rfl rfl rfl rfl Try.underlying70 rfl Try.sizeOf64 rfl ?_
   refine q_load_c (j := 0) rfl rfl rfl rfl Try.isAgg64 Tk (by first | rfl | exact (Nat.add_zero _).symm) (by rfl) ?_
   refine q_nil_p rfl rfl rfl rfl ?_
   refine q_field (k := 2) rfl rfl rfl rfl Try.underlying80 rfl Try.sizeOf77 rfl ?_
   refine q_load_c (j := 2) rfl rfl rfl rfl Try.isAgg77 Tk (by first | rfl | exact (Nat.add_zero _).symm) (by rfl) ?_
   refine q_field (k := 1) rfl rfl rfl rfl Try.underlying36 rfl Try.sizeOf3 rfl ?_
   refine q_load_c (j := 1) rfl rfl rfl rfl Try.isAgg3 Tk (by first | rfl | exact (Nat.add_zero _).symm) (by rfl) ?_
   refine q_lookup1 (ek := ekZ) (ev1 := evA) (F := F1) (m := m1) (k := t) none rfl rfl rfl rfl rfl Try.underlying77 (keyOK_int Try.underlying3) Try.zeroValue106 Tk ?_
   refine s_eq 27 rfl (v' := .pointer (some ⟨tb, 0, none⟩)) (by rw [hF1]; rfl) ?_
   refine q_assign rfl rfl rfl rfl ?_
   refine r_done ?_
   refine s_keep [0, 3, 5, 6] (e' := [(0, _), (3, _), (5, _), (6, _)]) rfl ?_
   refine k_then_n ?_
   refine c_seq ?_
   refine c_seq ?_
   refine c_plain (.q 0 (.q 1 (.q 2 (.q 3 ((.l 4 [] (.done))))))) (by kernel_rfl) ?_
   refine q_move rfl rfl rfl rfl ?_
   refine q_nil_p rfl rfl rfl rfl ?_
   refine q_field (k := 3) rfl rfl rfl rfl Try.underlying70 rfl Try.sizeOf68 rfl ?_
   refine q_load_c (j := 3) rfl rfl rfl rfl Try.isAgg68 Tk (by first | rfl | exact (Nat.add_zero _).symm) (by rfl) ?_
   refine l_range (ek := ek2) (ev1 := evT) (F := F) (m := mk) rfl rfl rfl rfl Try.underlying68 Tk ?_
   intro rr N_rr
   refine ag_nil ?_
   refine r_done ?_
   refine s_keep [3, 5, 6, 32] (e' := [(3, _), (5, _), (6, _), (32, _)]) rfl ?_
   refine k_then_n ?_
   refine c_block ?_
   refine s_heap (fun _ h => own_nil (sz := 1) (enc := encZ) h) ?_
   refine c_loop2 (α := List (Int × Int) × List Int × Option Addr × Nat) (fun (x_ : List (Int × Int) × List Int × Option Addr × Nat) => match x_ with | (vis, L, la, lc) => vis.Nodup ∧ (∀ q ∈ vis, q ∈ K) ∧ L = vis.flatMap (agK F k t o l)) (fun (x_ : List (Int × Int) × List Int × Option Addr × Nat) => match x_ with | (vis, L, la, lc) => [(5, .slice la L.length lc)]) (fun (x_ : List (Int × Int) × List Int × Option Addr × Nat) => match x_ with | (vis, L, la, lc) => [rng ek2 evT rr mk F vis N_rr, own 1 encZ la lc L]) (fun (x_ : List (Int × Int) × List Int × Option Addr × Nat) => match x_ with | (vis, L, la, lc) => N_rr - vis.length) [3, 6, 32] (er := [(3, _), (6, _), (32, _)]) rfl (([] : List (Int × Int)), ([] : List Int), none, 0) ?_ (by exact ⟨rfl, trivial⟩) (by (try dsimp only); (try simp only [Nat.add_zero, Nat.zero_add]); (repeat ((with_reducible apply Z2); focus (first | (with_reducible (repeat (first | exact Z0 | apply Z1)); done) | (repeat (first | exact Z0 | apply Z1))))); exact Z3) ?_
   · exact ⟨List.nodup_nil, fun q h => (by simp at h), rfl⟩
   rintro ⟨vis, L, la, lc⟩ ⟨hnd, hvk, hL⟩
   try simp only [List.cons_append, List.nil_append]
   have hvl := nodup_sub_len hnd hvk
   have hLl : L.length ≤ 2 * vis.length := by rw [hL]; exact flat_len (agK_len _ _ _ _ _) _
   refine c_seq ?_
   refine c_plain ((.l 0 [] (.q 1 (.done)))) (by kernel_rfl) ?_
   refine l_next (ek := ek2) (ev1 := evT) (F := F) (m := mk) (vis := vis) (N := N_rr) rfl rfl rfl rfl (by assumption) Tk ?_ ?_
   ·
    intro hall hex
    refine ag_nil ?_
    refine q_extract rfl rfl rfl rfl rfl ?_
    refine r_done ?_
    refine k_then_n ?_
    refine c_seq ?_
    refine c_cond_f rfl ?_
    refine c_exit ?_
    refine k_then_exit ?_
    refine k_then_exit ?_
    refine k_blk_here ?_
    refine k_then_n ?_
    refine c_seq ?_
    refine c_plain (.q 0 ((.l 1 [] (.done)))) (by kernel_rfl) ?_
    refine q_move rfl rfl rfl rfl ?_
    have sp_1 := So.sort_spec la L.length lc L (by first | rfl | assumption | omega | (simp; done) | (simp; omega)) (by omega)
    refine l_call rfl rfl rfl rfl rfl rfl Try.call61 (sp_1) Ts ?_
    rintro ⟨⟩ -
    try simp only [List.cons_append, List.nil_append]
    refine ag_nil ?_
    refine r_done ?_
    refine s_keep [5] (e' := [(5, _)]) rfl ?_
    refine k_then_n ?_
    refine c_seq ?_
    refine c_plain (.q 0 (.q 1 (.done))) (by kernel_rfl) ?_
    refine q_move rfl rfl rfl rfl ?_
    refine q_assign rfl rfl rfl rfl ?_
    refine r_done ?_
    refine k_then_n ?_
    refine c_ret ?_
    have hp : vis.Perm K := (List.perm_ext_iff_of_nodup hnd hKn).2 fun z => ⟨hvk z, fun h => (by obtain ⟨u, hu⟩ := Option.isSome_iff_exists.1 ((hks z).1 h); exact hall z u hu)⟩
    rw [if_pos hk, srt_eq (show L.Perm (K.flatMap (agK F k t o l)) by rw [hL]; exact flat_perm _ hp)]
    refine ret1 rfl rfl ((la, lc)) (by rw [isort_len, ← (flat_perm (agK F k t o l) hp).length_eq, ← hL]) (by trivial) ?_
    exact Tf
   ·
    intro q w hkv hnk hltN
    refine ag_nil ?_
    have hqk := (hks q).2 (by rw [hkv]; rfl)
    have hq0 := hkt q hqk
    refine q_extract rfl rfl rfl rfl rfl ?_
    refine r_done ?_
    refine k_then_n ?_
    refine c_seq ?_
    refine c_cond_t rfl ?_
    refine c_skip ?_
    refine k_then_n ?_
    refine c_block ?_
    refine c_seq ?_
    refine c_plain (.q 0 (.q 1 (.q 2 ((.l 3 [] ((.l 4 [] ((.l 5 [] ((.l 6 [] (.done)))))))))))) (by kernel_rfl) ?_
    refine q_entry (ek := ek2) (ev1 := evT) (F := F) (m := mk) (vis := vis) (N := N_rr) (k := q) (v := w) rfl rfl rfl rfl hkv Tk ?_
    refine q_extract rfl rfl rfl rfl rfl ?_
    refine q_extract rfl rfl rfl rfl rfl ?_
    refine l_alloc rfl rfl rfl Try.zeroValue111 (zs := [.int .i64 0, .int .i64 0]) rfl ?_
    intro b7
    refine ag_nil ?_
    refine l_alloc rfl rfl rfl Try.zeroValue39 (zs := [.int .i64 0, .int .i64 0, .int .u64 0, .int .u64 0]) rfl ?_
    intro b8
    refine ag_nil ?_
    refine l_store (j := 0) rfl rfl rfl rfl Try.sizeOf111 (us := [_, _]) rfl rfl rfl Tk (by first | rfl | exact (Nat.add_zero _).symm) (by first | decide | (simp; done) | omega) ?_
    simp only [setL, List.set]
    refine ag_nil ?_
    refine l_store (j := 0) rfl rfl rfl rfl Try.sizeOf39 (us := [_, _, _, _]) rfl rfl rfl Tk (by first | rfl | exact (Nat.add_zero _).symm) (by first | decide | (simp; done) | omega) ?_
    simp only [setL, List.set]
    refine ag_nil ?_
    refine r_done ?_
    refine s_keep [3, 5, 6, 7, 8, 32] (e' := [(3, _), (5, _), (6, _), (7, _), (8, _), (32, _)]) rfl ?_
    refine k_then_n ?_
    refine c_seq ?_
    refine c_seq ?_
    refine c_plain (.q 0 (.q 1 (.q 2 (.q 3 (.q 4 (.q 5 (.q 6 (.q 7 (.q 8 (.q 9 (.q 10 (.q 11 (.done))))))))))))) (by kernel_rfl) ?_
    refine q_field (k := 0) rfl rfl rfl rfl Try.underlying111 rfl Try.sizeOf3 rfl ?_
    refine q_load_c (j := 0) rfl rfl rfl rfl Try.isAgg3 Tk (by first | rfl | exact (Nat.add_zero _).symm) (by rfl) ?_
    refine q_field (k := 2) rfl rfl rfl rfl Try.underlying36 rfl Try.sizeOf3 rfl ?_
    refine q_load_c (j := 2) rfl rfl rfl rfl Try.isAgg3 Tk (by first | rfl | exact (Nat.add_zero _).symm) (by rfl) ?_
    refine q_int rfl rfl rfl rfl rfl (b_neq _ _ _ _) ?_
    refine q_move rfl rfl rfl rfl ?_
    refine s_bool_p 43 rfl (fun s0 => ?_) (fun s0 => ?_)
    ·
     refine q_skip rfl rfl rfl rfl ?_
     refine q_skip rfl rfl rfl rfl ?_
     refine q_skip rfl rfl rfl rfl ?_
     refine q_skip rfl rfl rfl rfl ?_
     refine q_skip rfl rfl rfl rfl ?_
     refine q_pick_t rfl rfl rfl rfl rfl ?_
     refine r_done ?_
     refine s_keep [3, 5, 6, 7, 8, 32, 44, 45, 46, 47, 48, 49] (e' := [(3, _), (5, _), (6, _), (7, _), (8, _), (32, _), (44, _), (45, _), (46, _), (47, _), (48, _), (49, _)]) rfl ?_
     refine k_then_n ?_
     refine c_cond_t rfl ?_
     refine c_exit ?_
     refine k_then_exit ?_
     refine k_blk_here ?_
     refine k_then_n ?_
     refine loop_next (x := (vis, L, la, lc)) ((vis ++ [q], L, la, lc)) ?_ ?_ ?_ ?_
     · try dsimp only
       exact ⟨nodup_snoc hnd hnk, fun z hz => (List.mem_append.1 hz).elim (hvk z) (fun h => (List.mem_singleton.1 h) ▸ hqk), by rw [flat_snoc, ← hL]; (rw [agK_s (by first | exact .inl s0 | exact .inr s1), List.append_nil]; done)⟩
     · show N_rr - (vis ++ [q]).length < N_rr - vis.length; rw [List.length_append]; simp; omega
     · exact ⟨rfl, rfl, rfl, rfl, trivial⟩
     · (try simp only [List.cons_append, List.nil_append]); exact Tf
    ·
     refine q_field (k := 1) rfl rfl rfl rfl Try.underlying111 rfl Try.sizeOf3 rfl ?_
     refine q_load_c (j := 1) rfl rfl rfl rfl Try.isAgg3 Tk (by first | rfl | exact (Nat.add_zero _).symm) (by rfl) ?_
     refine q_field (k := 1) rfl rfl rfl rfl Try.underlying36 rfl Try.sizeOf3 rfl ?_
     refine q_load_c (j := 1) rfl rfl rfl rfl Try.isAgg3 Tk (by first | rfl | exact (Nat.add_zero _).symm) (by rfl) ?_
     refine q_int rfl rfl rfl rfl rfl (b_eql _ _ _ _) ?_
     refine q_pick_f rfl rfl rfl rfl rfl ?_
     refine r_done ?_
     refine s_keep [3, 5, 6, 7, 8, 32, 44, 45, 46, 47, 48, 49] (e' := [(3, _), (5, _), (6, _), (7, _), (8, _), (32, _), (44, _), (45, _), (46, _), (47, _), (48, _), (49, _)]) rfl ?_
     refine k_then_n ?_
     refine c_cond_p rfl (fun s1 => ?_) (fun s1 => ?_)
     ·
      refine c_exit ?_
      refine k_then_exit ?_
      refine k_blk_here ?_
      refine k_then_n ?_
      refine loop_next (x := (vis, L, la, lc)) ((vis ++ [q], L, la, lc)) ?_ ?_ ?_ ?_
      · try dsimp only
        exact ⟨nodup_snoc hnd hnk, fun z hz => (List.mem_append.1 hz).elim (hvk z) (fun h => (List.mem_singleton.1 h) ▸ hqk), by rw [flat_snoc, ← hL]; (rw [agK_s (by first | exact .inl s0 | exact .inr s1), List.append_nil]; done)⟩
      · show N_rr - (vis ++ [q]).length < N_rr - vis.length; rw [List.length_append]; simp; omega
      · exact ⟨rfl, rfl, rfl, rfl, trivial⟩
      · (try simp only [List.cons_append, List.nil_append]); exact Tf
     ·
      refine c_skip ?_
      refine k_then_n ?_
      refine c_seq ?_
      refine c_plain (.q 0 (.q 1 (.q 2 ((.l 3 [] (.q 4 (.done))))))) (by kernel_rfl) ?_
      refine q_move rfl rfl rfl rfl ?_
      refine q_field (k := 1) rfl rfl rfl rfl Try.underlying111 rfl Try.sizeOf3 rfl ?_
      refine q_load_c (j := 1) rfl rfl rfl rfl Try.isAgg3 Tk (by first | rfl | exact (Nat.add_zero _).symm) (by rfl) ?_
      have sp_2 := get_z tb l ta l.length tc (by first | rfl | assumption | omega | (simp; done) | (simp; omega)) q.2 (by omega)
      refine l_call rfl rfl rfl rfl rfl rfl Try.call60 (sp_2) Ts ?_
      rintro ⟨⟩ -
      try simp only [List.cons_append, List.nil_append]
      refine ag_nil ?_
      refine q_assign rfl rfl rfl rfl ?_
      refine r_done ?_
      refine s_keep [3, 5, 6, 8, 9, 32, 44, 45, 46, 47, 48] (e' := [(3, _), (5, _), (6, _), (8, _), (9, _), (32, _), (44, _), (45, _), (46, _), (47, _), (48, _)]) rfl ?_
      refine k_then_n ?_
      refine c_block ?_
      refine c_seq ?_
      refine c_block ?_
      refine c_seq ?_
      refine c_block ?_
      refine c_seq ?_
      refine c_seq ?_
      refine c_plain (.q 0 (.q 1 (.q 2 (.q 3 (.done))))) (by kernel_rfl) ?_
      refine q_field (k := 0) rfl rfl rfl rfl Try.underlying36 rfl Try.sizeOf34 rfl ?_
      refine q_load_c (j := 0) rfl rfl rfl rfl Try.isAgg34 Tk (by first | rfl | exact (Nat.add_zero _).symm) (by rfl) ?_
      refine q_int rfl rfl rfl rfl rfl (b_eql _ _ _ _) ?_
      refine q_assign rfl rfl rfl rfl ?_
      refine r_done ?_
      refine k_then_n ?_
      refine c_cond_p rfl (fun k3 => ?_) (fun k3 => ?_)
      ·
       refine c_exit ?_
       refine k_then_exit ?_
       refine k_blk_here ?_
       refine k_then_n ?_
       refine c_seq ?_
       refine c_plain (.q 0 (.q 1 (.q 2 (.q 3 (.q 4 (.q 5 (.q 6 (.q 7 (.q 8 (.done)))))))))) (by kernel_rfl) ?_
       refine q_field (k := 0) rfl rfl rfl rfl Try.underlying39 rfl Try.sizeOf3 rfl ?_
       refine q_load_c (j := 0) rfl rfl rfl rfl Try.isAgg3 Tk (by first | rfl | exact (Nat.add_zero _).symm) (by rfl) ?_
       refine q_int rfl rfl rfl rfl rfl (b_geq _ _ _ _) ?_
       refine q_move rfl rfl rfl rfl ?_
       refine s_bool_p 61 rfl (fun r0 => ?_) (fun r0 => ?_)
       ·
        refine q_field (k := 2) rfl rfl rfl rfl Try.underlying39 rfl Try.sizeOf37 rfl ?_
        refine q_load_c (j := 2) rfl rfl rfl rfl Try.isAgg37 Tk (by first | rfl | exact (Nat.add_zero _).symm) (by rfl) ?_
        refine q_move rfl rfl rfl rfl ?_
        refine q_int rfl rfl rfl rfl rfl (b_gtr _ _ _ _) ?_
        refine q_pick_t rfl rfl rfl rfl rfl ?_
        refine r_done ?_
        refine s_keep [3, 5, 6, 8, 9, 32, 44, 45, 46, 47, 48, 62, 63, 64, 65, 66] (e' := [(3, _), (5, _), (6, _), (8, _), (9, _), (32, _), (44, _), (45, _), (46, _), (47, _), (48, _), (62, _), (63, _), (64, _), (65, _), (66, _)]) rfl ?_
        refine k_then_n ?_
        refine c_cond_p rfl (fun r1 => ?_) (fun r1 => ?_)
        ·
         refine c_plain (.q 0 (.q 1 (.q 2 ((.l 3 [] ((.l 4 [] (.q 5 (.done))))))))) (by kernel_rfl) ?_
         refine q_move rfl rfl rfl rfl ?_
         refine q_field (k := 0) rfl rfl rfl rfl Try.underlying39 rfl Try.sizeOf3 rfl ?_
         refine q_load_c (j := 0) rfl rfl rfl rfl Try.isAgg3 Tk (by first | rfl | exact (Nat.add_zero _).symm) (by rfl) ?_
         refine l_buildSlice rfl rfl rfl rfl (run_build1 (us := [_]) Try.underlying23 Try.sizeOf3 rfl Try.zeroValue3 rfl rfl rfl) ?_
         intro b70
         refine ag_nil ?_
         refine l_append (sz := 1) (enc := encZ) (xs := L) rfl rfl rfl rfl rfl Try.underlying23 Try.typeInfo3 rfl rfl rfl (by decide) Tk Tk (by first | rfl | omega | (simp; done) | (simp; omega)) (ys := [w.1]) (rds_some rdn_cells) (by rfl) (by first | rfl | omega) (encZ_len) (encZ_one) (by omega) (by show _ * 8 ≤ _; omega) ?_
         intro ao71 cp71
         refine ag_nil ?_
         refine q_assign rfl rfl rfl rfl ?_
         refine r_done ?_
         refine s_keep [3, 5, 6, 8, 9, 32, 44, 45, 46, 47, 48, 62, 63, 64, 65] (e' := [(3, _), (5, _), (6, _), (8, _), (9, _), (32, _), (44, _), (45, _), (46, _), (47, _), (48, _), (62, _), (63, _), (64, _), (65, _)]) rfl ?_
         refine k_blk_n ?_
         refine k_then_n ?_
         refine c_seq ?_
         refine c_seq ?_
         refine c_plain (.q 0 (.q 1 (.q 2 (.q 3 (.q 4 (.q 5 (.q 6 (.q 7 (.q 8 (.done)))))))))) (by kernel_rfl) ?_
         refine q_field (k := 1) rfl rfl rfl rfl Try.underlying39 rfl Try.sizeOf3 rfl ?_
         refine q_load_c (j := 1) rfl rfl rfl rfl Try.isAgg3 Tk (by first | rfl | exact (Nat.add_zero _).symm) (by rfl) ?_
         refine q_int rfl rfl rfl rfl rfl (b_geq _ _ _ _) ?_
         refine q_move rfl rfl rfl rfl ?_
         refine s_bool_p 75 rfl (fun w0 => ?_) (fun w0 => ?_)
         ·
          refine q_field (k := 3) rfl rfl rfl rfl Try.underlying39 rfl Try.sizeOf37 rfl ?_
          refine q_load_c (j := 3) rfl rfl rfl rfl Try.isAgg37 Tk (by first | rfl | exact (Nat.add_zero _).symm) (by rfl) ?_
          refine q_move rfl rfl rfl rfl ?_
          refine q_int rfl rfl rfl rfl rfl (b_gtr _ _ _ _) ?_
          refine q_pick_t rfl rfl rfl rfl rfl ?_
          refine r_done ?_
          refine s_keep [3, 5, 6, 8, 32, 44, 45, 46, 47, 48, 62, 63, 64, 65, 76, 77, 78, 79, 80] (e' := [(3, _), (5, _), (6, _), (8, _), (32, _), (44, _), (45, _), (46, _), (47, _), (48, _), (62, _), (63, _), (64, _), (65, _), (76, _), (77, _), (78, _), (79, _), (80, _)]) rfl ?_
          refine k_then_n ?_
          refine c_cond_p rfl (fun w1 => ?_) (fun w1 => ?_)
          ·
           refine c_plain (.q 0 (.q 1 (.q 2 ((.l 3 [] ((.l 4 [] (.q 5 (.done))))))))) (by kernel_rfl) ?_
           refine q_move rfl rfl rfl rfl ?_
           refine q_field (k := 1) rfl rfl rfl rfl Try.underlying39 rfl Try.sizeOf3 rfl ?_
           refine q_load_c (j := 1) rfl rfl rfl rfl Try.isAgg3 Tk (by first | rfl | exact (Nat.add_zero _).symm) (by rfl) ?_
           refine l_buildSlice rfl rfl rfl rfl (run_build1 (us := [_]) Try.underlying23 Try.sizeOf3 rfl Try.zeroValue3 rfl rfl rfl) ?_
           intro b84
           refine ag_nil ?_
           refine l_append (sz := 1) (enc := encZ) (xs := (L ++ ([w.1]))) rfl rfl rfl rfl rfl Try.underlying23 Try.typeInfo3 rfl rfl rfl (by decide) Tk Tk (by first | rfl | omega | (simp; done) | (simp; omega)) (ys := [w.2.1]) (rds_some rdn_cells) (by rfl) (by first | rfl | omega) (encZ_len) (encZ_one) (by omega) (by show _ * 8 ≤ _; omega) ?_
           intro ao85 cp85
           refine ag_nil ?_
           refine q_assign rfl rfl rfl rfl ?_
           refine r_done ?_
           refine s_keep [3, 5, 6, 32, 44, 45, 46, 47, 48, 62, 63, 64, 65, 76, 77, 78, 79] (e' := [(3, _), (5, _), (6, _), (32, _), (44, _), (45, _), (46, _), (47, _), (48, _), (62, _), (63, _), (64, _), (65, _), (76, _), (77, _), (78, _), (79, _)]) rfl ?_
           refine k_then_n ?_
           refine c_exit ?_
           refine k_blk_here ?_
           refine k_blk_n ?_
           refine k_then_n ?_
           refine s_eq 5 rfl (v' := .slice ao85 ((L ++ ([w.1])) ++ ([w.2.1])).length cp85) (by first | rfl | (congr 1; done) | (congr 1 <;> first | rfl | omega | (simp; done) | (simp; omega))) ?_
           refine loop_next (x := (vis, L, la, lc)) ((vis ++ [q], ((L ++ ([w.1])) ++ ([w.2.1])), ao85, cp85)) ?_ ?_ ?_ ?_
           · try dsimp only
             exact ⟨nodup_snoc hnd hnk, fun z hz => (List.mem_append.1 hz).elim (hvk z) (fun h => (List.mem_singleton.1 h) ▸ hqk), by rw [flat_snoc, ← hL]; (rw [agK_go (by first | assumption | omega) (by first | assumption | omega) hkv]; split <;> split <;> first | (exfalso; omega) | simp; done)⟩
           · show N_rr - (vis ++ [q]).length < N_rr - vis.length; rw [List.length_append]; simp; omega
           · exact ⟨rfl, rfl, rfl, rfl, trivial⟩
           · (try simp only [List.cons_append, List.nil_append]); exact Tf
          ·
           refine c_skip ?_
           refine k_then_n ?_
           refine c_exit ?_
           refine k_blk_here ?_
           refine k_blk_n ?_
           refine k_then_n ?_
           refine s_eq 5 rfl (v' := .slice ao71 (L ++ ([w.1])).length cp71) (by first | rfl | (congr 1; done) | (congr 1 <;> first | rfl | omega | (simp; done) | (simp; omega))) ?_
           refine loop_next (x := (vis, L, la, lc)) ((vis ++ [q], (L ++ ([w.1])), ao71, cp71)) ?_ ?_ ?_ ?_
           · try dsimp only
             exact ⟨nodup_snoc hnd hnk, fun z hz => (List.mem_append.1 hz).elim (hvk z) (fun h => (List.mem_singleton.1 h) ▸ hqk), by rw [flat_snoc, ← hL]; (rw [agK_go (by first | assumption | omega) (by first | assumption | omega) hkv]; split <;> split <;> first | (exfalso; omega) | simp; done)⟩
           · show N_rr - (vis ++ [q]).length < N_rr - vis.length; rw [List.length_append]; simp; omega
           · exact ⟨rfl, rfl, rfl, rfl, trivial⟩
           · (try simp only [List.cons_append, List.nil_append]); exact Tf
         ·
          refine q_skip rfl rfl rfl rfl ?_
          refine q_skip rfl rfl rfl rfl ?_
          refine q_skip rfl rfl rfl rfl ?_
          refine q_skip rfl rfl rfl rfl ?_
          refine q_pick_f rfl rfl rfl rfl rfl ?_
          refine r_done ?_
          refine s_keep [3, 5, 6, 8, 32, 44, 45, 46, 47, 48, 62, 63, 64, 65, 76, 77, 78, 79, 80] (e' := [(3, _), (5, _), (6, _), (8, _), (32, _), (44, _), (45, _), (46, _), (47, _), (48, _), (62, _), (63, _), (64, _), (65, _), (76, _), (77, _), (78, _), (79, _), (80, _)]) rfl ?_
          refine k_then_n ?_
          refine c_cond_f rfl ?_
          refine c_skip ?_
          refine k_then_n ?_
          refine c_exit ?_
          refine k_blk_here ?_
          refine k_blk_n ?_
          refine k_then_n ?_
          refine s_eq 5 rfl (v' := .slice ao71 (L ++ ([w.1])).length cp71) (by first | rfl | (congr 1; done) | (congr 1 <;> first | rfl | omega | (simp; done) | (simp; omega))) ?_
          refine loop_next (x := (vis, L, la, lc)) ((vis ++ [q], (L ++ ([w.1])), ao71, cp71)) ?_ ?_ ?_ ?_
          · try dsimp only
            exact ⟨nodup_snoc hnd hnk, fun z hz => (List.mem_append.1 hz).elim (hvk z) (fun h => (List.mem_singleton.1 h) ▸ hqk), by rw [flat_snoc, ← hL]; (rw [agK_go (by first | assumption | omega) (by first | assumption | omega) hkv]; split <;> split <;> first | (exfalso; omega) | simp; done)⟩
          · show N_rr - (vis ++ [q]).length < N_rr - vis.length; rw [List.length_append]; simp; omega
          · exact ⟨rfl, rfl, rfl, rfl, trivial⟩
          · (try simp only [List.cons_append, List.nil_append]); exact Tf
        ·
         refine c_skip ?_
         refine k_blk_n ?_
         refine k_then_n ?_
         refine c_seq ?_
         refine c_seq ?_
         refine c_plain (.q 0 (.q 1 (.q 2 (.q 3 (.q 4 (.q 5 (.q 6 (.q 7 (.q 8 (.done)))))))))) (by kernel_rfl) ?_
         refine q_field (k := 1) rfl rfl rfl rfl Try.underlying39 rfl Try.sizeOf3 rfl ?_
         refine q_load_c (j := 1) rfl rfl rfl rfl Try.isAgg3 Tk (by first | rfl | exact (Nat.add_zero _).symm) (by rfl) ?_
         refine q_int rfl rfl rfl rfl rfl (b_geq _ _ _ _) ?_
         refine q_move rfl rfl rfl rfl ?_
         refine s_bool_p 75 rfl (fun w0 => ?_) (fun w0 => ?_)
         ·
          refine q_field (k := 3) rfl rfl rfl rfl Try.underlying39 rfl Try.sizeOf37 rfl ?_
          refine q_load_c (j := 3) rfl rfl rfl rfl Try.isAgg37 Tk (by first | rfl | exact (Nat.add_zero _).symm) (by rfl) ?_
          refine q_move rfl rfl rfl rfl ?_
          refine q_int rfl rfl rfl rfl rfl (b_gtr _ _ _ _) ?_
          refine q_pick_t rfl rfl rfl rfl rfl ?_
          refine r_done ?_
          refine s_keep [3, 5, 6, 8, 32, 44, 45, 46, 47, 48, 62, 63, 64, 65, 76, 77, 78, 79, 80] (e' := [(3, _), (5, _), (6, _), (8, _), (32, _), (44, _), (45, _), (46, _), (47, _), (48, _), (62, _), (63, _), (64, _), (65, _), (76, _), (77, _), (78, _), (79, _), (80, _)]) rfl ?_
          refine k_then_n ?_
          refine c_cond_p rfl (fun w1 => ?_) (fun w1 => ?_)
          ·
           refine c_plain (.q 0 (.q 1 (.q 2 ((.l 3 [] ((.l 4 [] (.q 5 (.done))))))))) (by kernel_rfl) ?_
           refine q_move rfl rfl rfl rfl ?_
           refine q_field (k := 1) rfl rfl rfl rfl Try.underlying39 rfl Try.sizeOf3 rfl ?_
           refine q_load_c (j := 1) rfl rfl rfl rfl Try.isAgg3 Tk (by first | rfl | exact (Nat.add_zero _).symm) (by rfl) ?_
           refine l_buildSlice rfl rfl rfl rfl (run_build1 (us := [_]) Try.underlying23 Try.sizeOf3 rfl Try.zeroValue3 rfl rfl rfl) ?_
           intro b84
           refine ag_nil ?_
           refine l_append (sz := 1) (enc := encZ) (xs := L) rfl rfl rfl rfl rfl Try.underlying23 Try.typeInfo3 rfl rfl rfl (by decide) Tk Tk (by first | rfl | omega | (simp; done) | (simp; omega)) (ys := [w.2.1]) (rds_some rdn_cells) (by rfl) (by first | rfl | omega) (encZ_len) (encZ_one) (by omega) (by show _ * 8 ≤ _; omega) ?_
           intro ao85 cp85
           refine ag_nil ?_
           refine q_assign rfl rfl rfl rfl ?_
           refine r_done ?_
           refine s_keep [3, 5, 6, 32, 44, 45, 46, 47, 48, 62, 63, 64, 65, 76, 77, 78, 79] (e' := [(3, _), (5, _), (6, _), (32, _), (44, _), (45, _), (46, _), (47, _), (48, _), (62, _), (63, _), (64, _), (65, _), (76, _), (77, _), (78, _), (79, _)]) rfl ?_
           refine k_then_n ?_
           refine c_exit ?_
           refine k_blk_here ?_
           refine k_blk_n ?_
           refine k_then_n ?_
           refine s_eq 5 rfl (v' := .slice ao85 (L ++ ([w.2.1])).length cp85) (by first | rfl | (congr 1; done) | (congr 1 <;> first | rfl | omega | (simp; done) | (simp; omega))) ?_
           refine loop_next (x := (vis, L, la, lc)) ((vis ++ [q], (L ++ ([w.2.1])), ao85, cp85)) ?_ ?_ ?_ ?_
           · try dsimp only
             exact ⟨nodup_snoc hnd hnk, fun z hz => (List.mem_append.1 hz).elim (hvk z) (fun h => (List.mem_singleton.1 h) ▸ hqk), by rw [flat_snoc, ← hL]; (rw [agK_go (by first | assumption | omega) (by first | assumption | omega) hkv]; split <;> split <;> first | (exfalso; omega) | simp; done)⟩
           · show N_rr - (vis ++ [q]).length < N_rr - vis.length; rw [List.length_append]; simp; omega
           · exact ⟨rfl, rfl, rfl, rfl, trivial⟩
           · (try simp only [List.cons_append, List.nil_append]); exact Tf
          ·
           refine c_skip ?_
           refine k_then_n ?_
           refine c_exit ?_
           refine k_blk_here ?_
           refine k_blk_n ?_
           refine k_then_n ?_
           refine loop_next (x := (vis, L, la, lc)) ((vis ++ [q], L, la, lc)) ?_ ?_ ?_ ?_
           · try dsimp only
             exact ⟨nodup_snoc hnd hnk, fun z hz => (List.mem_append.1 hz).elim (hvk z) (fun h => (List.mem_singleton.1 h) ▸ hqk), by rw [flat_snoc, ← hL]; (rw [agK_go (by first | assumption | omega) (by first | assumption | omega) hkv]; split <;> split <;> first | (exfalso; omega) | simp; done)⟩
           · show N_rr - (vis ++ [q]).length < N_rr - vis.length; rw [List.length_append]; simp; omega
           · exact ⟨rfl, rfl, rfl, rfl, trivial⟩
           · (try simp only [List.cons_append, List.nil_append]); exact Tf
         ·
          refine q_skip rfl rfl rfl rfl ?_
          refine q_skip rfl rfl rfl rfl ?_
          refine q_skip rfl rfl rfl rfl ?_
          refine q_skip rfl rfl rfl rfl ?_
          refine q_pick_f rfl rfl rfl rfl rfl ?_
          refine r_done ?_
          refine s_keep [3, 5, 6, 8, 32, 44, 45, 46, 47, 48, 62, 63, 64, 65, 76, 77, 78, 79, 80] (e' := [(3, _), (5, _), (6, _), (8, _), (32, _), (44, _), (45, _), (46, _), (47, _), (48, _), (62, _), (63, _), (64, _), (65, _), (76, _), (77, _), (78, _), (79, _), (80, _)]) rfl ?_
          refine k_then_n ?_
          refine c_cond_f rfl ?_
          refine c_skip ?_
          refine k_then_n ?_
          refine c_exit ?_
          refine k_blk_here ?_
          refine k_blk_n ?_
          refine k_then_n ?_
          refine loop_next (x := (vis, L, la, lc)) ((vis ++ [q], L, la, lc)) ?_ ?_ ?_ ?_
          · try dsimp only
            exact ⟨nodup_snoc hnd hnk, fun z hz => (List.mem_append.1 hz).elim (hvk z) (fun h => (List.mem_singleton.1 h) ▸ hqk), by rw [flat_snoc, ← hL]; (rw [agK_go (by first | assumption | omega) (by first | assumption | omega) hkv]; split <;> split <;> first | (exfalso; omega) | simp; done)⟩
          · show N_rr - (vis ++ [q]).length < N_rr - vis.length; rw [List.length_append]; simp; omega
          · exact ⟨rfl, rfl, rfl, rfl, trivial⟩
          · (try simp only [List.cons_append, List.nil_append]); exact Tf
       ·
        refine q_skip rfl rfl rfl rfl ?_
        refine q_skip rfl rfl rfl rfl ?_
        refine q_skip rfl rfl rfl rfl ?_
        refine q_skip rfl rfl rfl rfl ?_
        refine q_pick_f rfl rfl rfl rfl rfl ?_
        refine r_done ?_
        refine s_keep [3, 5, 6, 8, 9, 32, 44, 45, 46, 47, 48, 62, 63, 64, 65, 66] (e' := [(3, _), (5, _), (6, _), (8, _), (9, _), (32, _), (44, _), (45, _), (46, _), (47, _), (48, _), (62, _), (63, _), (64, _), (65, _), (66, _)]) rfl ?_
        refine k_then_n ?_
        refine c_cond_f rfl ?_
        refine c_skip ?_
        refine k_blk_n ?_
        refine k_then_n ?_
        refine c_seq ?_
        refine c_seq ?_
        refine c_plain (.q 0 (.q 1 (.q 2 (.q 3 (.q 4 (.q 5 (.q 6 (.q 7 (.q 8 (.done)))))))))) (by kernel_rfl) ?_
        refine q_field (k := 1) rfl rfl rfl rfl Try.underlying39 rfl Try.sizeOf3 rfl ?_
        refine q_load_c (j := 1) rfl rfl rfl rfl Try.isAgg3 Tk (by first | rfl | exact (Nat.add_zero _).symm) (by rfl) ?_
        refine q_int rfl rfl rfl rfl rfl (b_geq _ _ _ _) ?_
        refine q_move rfl rfl rfl rfl ?_
        refine s_bool_p 75 rfl (fun w0 => ?_) (fun w0 => ?_)
        ·
         refine q_field (k := 3) rfl rfl rfl rfl Try.underlying39 rfl Try.sizeOf37 rfl ?_
         refine q_load_c (j := 3) rfl rfl rfl rfl Try.isAgg37 Tk (by first | rfl | exact (Nat.add_zero _).symm) (by rfl) ?_
         refine q_move rfl rfl rfl rfl ?_
         refine q_int rfl rfl rfl rfl rfl (b_gtr _ _ _ _) ?_
         refine q_pick_t rfl rfl rfl rfl rfl ?_
         refine r_done ?_
         refine s_keep [3, 5, 6, 8, 32, 44, 45, 46, 47, 48, 62, 63, 64, 65, 76, 77, 78, 79, 80] (e' := [(3, _), (5, _), (6, _), (8, _), (32, _), (44, _), (45, _), (46, _), (47, _), (48, _), (62, _), (63, _), (64, _), (65, _), (76, _), (77, _), (78, _), (79, _), (80, _)]) rfl ?_
         refine k_then_n ?_
         refine c_cond_p rfl (fun w1 => ?_) (fun w1 => ?_)
         ·
          refine c_plain (.q 0 (.q 1 (.q 2 ((.l 3 [] ((.l 4 [] (.q 5 (.done))))))))) (by kernel_rfl) ?_
          refine q_move rfl rfl rfl rfl ?_
          refine q_field (k := 1) rfl rfl rfl rfl Try.underlying39 rfl Try.sizeOf3 rfl ?_
          refine q_load_c (j := 1) rfl rfl rfl rfl Try.isAgg3 Tk (by first | rfl | exact (Nat.add_zero _).symm) (by rfl) ?_
          refine l_buildSlice rfl rfl rfl rfl (run_build1 (us := [_]) Try.underlying23 Try.sizeOf3 rfl Try.zeroValue3 rfl rfl rfl) ?_
          intro b84
          refine ag_nil ?_
          refine l_append (sz := 1) (enc := encZ) (xs := L) rfl rfl rfl rfl rfl Try.underlying23 Try.typeInfo3 rfl rfl rfl (by decide) Tk Tk (by first | rfl | omega | (simp; done) | (simp; omega)) (ys := [w.2.1]) (rds_some rdn_cells) (by rfl) (by first | rfl | omega) (encZ_len) (encZ_one) (by omega) (by show _ * 8 ≤ _; omega) ?_
          intro ao85 cp85
          refine ag_nil ?_
          refine q_assign rfl rfl rfl rfl ?_
          refine r_done ?_
          refine s_keep [3, 5, 6, 32, 44, 45, 46, 47, 48, 62, 63, 64, 65, 76, 77, 78, 79] (e' := [(3, _), (5, _), (6, _), (32, _), (44, _), (45, _), (46, _), (47, _), (48, _), (62, _), (63, _), (64, _), (65, _), (76, _), (77, _), (78, _), (79, _)]) rfl ?_
          refine k_then_n ?_
          refine c_exit ?_
          refine k_blk_here ?_
          refine k_blk_n ?_
          refine k_then_n ?_
          refine s_eq 5 rfl (v' := .slice ao85 (L ++ ([w.2.1])).length cp85) (by first | rfl | (congr 1; done) | (congr 1 <;> first | rfl | omega | (simp; done) | (simp; omega))) ?_
          refine loop_next (x := (vis, L, la, lc)) ((vis ++ [q], (L ++ ([w.2.1])), ao85, cp85)) ?_ ?_ ?_ ?_
          · try dsimp only
            exact ⟨nodup_snoc hnd hnk, fun z hz => (List.mem_append.1 hz).elim (hvk z) (fun h => (List.mem_singleton.1 h) ▸ hqk), by rw [flat_snoc, ← hL]; (rw [agK_go (by first | assumption | omega) (by first | assumption | omega) hkv]; split <;> split <;> first | (exfalso; omega) | simp; done)⟩
          · show N_rr - (vis ++ [q]).length < N_rr - vis.length; rw [List.length_append]; simp; omega
          · exact ⟨rfl, rfl, rfl, rfl, trivial⟩
          · (try simp only [List.cons_append, List.nil_append]); exact Tf
         ·
          refine c_skip ?_
          refine k_then_n ?_
          refine c_exit ?_
          refine k_blk_here ?_
          refine k_blk_n ?_
          refine k_then_n ?_
          refine loop_next (x := (vis, L, la, lc)) ((vis ++ [q], L, la, lc)) ?_ ?_ ?_ ?_
          · try dsimp only
            exact ⟨nodup_snoc hnd hnk, fun z hz => (List.mem_append.1 hz).elim (hvk z) (fun h => (List.mem_singleton.1 h) ▸ hqk), by rw [flat_snoc, ← hL]; (rw [agK_go (by first | assumption | omega) (by first | assumption | omega) hkv]; split <;> split <;> first | (exfalso; omega) | simp; done)⟩
          · show N_rr - (vis ++ [q]).length < N_rr - vis.length; rw [List.length_append]; simp; omega
          · exact ⟨rfl, rfl, rfl, rfl, trivial⟩
          · (try simp only [List.cons_append, List.nil_append]); exact Tf
        ·
         refine q_skip rfl rfl rfl rfl ?_
         refine q_skip rfl rfl rfl rfl ?_
         refine q_skip rfl rfl rfl rfl ?_
         refine q_skip rfl rfl rfl rfl ?_
         refine q_pick_f rfl rfl rfl rfl rfl ?_
         refine r_done ?_
         refine s_keep [3, 5, 6, 8, 32, 44, 45, 46, 47, 48, 62, 63, 64, 65, 76, 77, 78, 79, 80] (e' := [(3, _), (5, _), (6, _), (8, _), (32, _), (44, _), (45, _), (46, _), (47, _), (48, _), (62, _), (63, _), (64, _), (65, _), (76, _), (77, _), (78, _), (79, _), (80, _)]) rfl ?_
         refine k_then_n ?_
         refine c_cond_f rfl ?_
         refine c_skip ?_
         refine k_then_n ?_
         refine c_exit ?_
         refine k_blk_here ?_
         refine k_blk_n ?_
         refine k_then_n ?_
         refine loop_next (x := (vis, L, la, lc)) ((vis ++ [q], L, la, lc)) ?_ ?_ ?_ ?_
         · try dsimp only
           exact ⟨nodup_snoc hnd hnk, fun z hz => (List.mem_append.1 hz).elim (hvk z) (fun h => (List.mem_singleton.1 h) ▸ hqk), by rw [flat_snoc, ← hL]; (rw [agK_go (by first | assumption | omega) (by first | assumption | omega) hkv]; split <;> split <;> first | (exfalso; omega) | simp; done)⟩
         · show N_rr - (vis ++ [q]).length < N_rr - vis.length; rw [List.length_append]; simp; omega
         · exact ⟨rfl, rfl, rfl, rfl, trivial⟩
         · (try simp only [List.cons_append, List.nil_append]); exact Tf
      ·
       refine c_skip ?_
       refine k_then_n ?_
       refine c_exit ?_
       refine k_blk_out rfl ?_
       refine k_then_exit ?_
       refine k_blk_here ?_
       refine k_then_n ?_
       refine c_seq ?_
       refine c_seq ?_
       refine c_plain (.q 0 (.q 1 (.q 2 (.q 3 (.q 4 (.q 5 (.q 6 (.q 7 (.q 8 (.done)))))))))) (by kernel_rfl) ?_
       refine q_field (k := 1) rfl rfl rfl rfl Try.underlying39 rfl Try.sizeOf3 rfl ?_
       refine q_load_c (j := 1) rfl rfl rfl rfl Try.isAgg3 Tk (by first | rfl | exact (Nat.add_zero _).symm) (by rfl) ?_
       refine q_int rfl rfl rfl rfl rfl (b_geq _ _ _ _) ?_
       refine q_move rfl rfl rfl rfl ?_
       refine s_bool_p 75 rfl (fun w0 => ?_) (fun w0 => ?_)
       ·
        refine q_field (k := 3) rfl rfl rfl rfl Try.underlying39 rfl Try.sizeOf37 rfl ?_
        refine q_load_c (j := 3) rfl rfl rfl rfl Try.isAgg37 Tk (by first | rfl | exact (Nat.add_zero _).symm) (by rfl) ?_
        refine q_move rfl rfl rfl rfl ?_
        refine q_int rfl rfl rfl rfl rfl (b_gtr _ _ _ _) ?_
        refine q_pick_t rfl rfl rfl rfl rfl ?_
        refine r_done ?_
        refine s_keep [3, 5, 6, 8, 32, 44, 45, 46, 47, 48, 76, 77, 78, 79, 80] (e' := [(3, _), (5, _), (6, _), (8, _), (32, _), (44, _), (45, _), (46, _), (47, _), (48, _), (76, _), (77, _), (78, _), (79, _), (80, _)]) rfl ?_
        refine k_then_n ?_
        refine c_cond_p rfl (fun w1 => ?_) (fun w1 => ?_)
        ·
         refine c_plain (.q 0 (.q 1 (.q 2 ((.l 3 [] ((.l 4 [] (.q 5 (.done))))))))) (by kernel_rfl) ?_
         refine q_move rfl rfl rfl rfl ?_
         refine q_field (k := 1) rfl rfl rfl rfl Try.underlying39 rfl Try.sizeOf3 rfl ?_
         refine q_load_c (j := 1) rfl rfl rfl rfl Try.isAgg3 Tk (by first | rfl | exact (Nat.add_zero _).symm) (by rfl) ?_
         refine l_buildSlice rfl rfl rfl rfl (run_build1 (us := [_]) Try.underlying23 Try.sizeOf3 rfl Try.zeroValue3 rfl rfl rfl) ?_
         intro b84
         refine ag_nil ?_
         refine l_append (sz := 1) (enc := encZ) (xs := L) rfl rfl rfl rfl rfl Try.underlying23 Try.typeInfo3 rfl rfl rfl (by decide) Tk Tk (by first | rfl | omega | (simp; done) | (simp; omega)) (ys := [w.2.1]) (rds_some rdn_cells) (by rfl) (by first | rfl | omega) (encZ_len) (encZ_one) (by omega) (by show _ * 8 ≤ _; omega) ?_
         intro ao85 cp85
         refine ag_nil ?_
         refine q_assign rfl rfl rfl rfl ?_
         refine r_done ?_
         refine s_keep [3, 5, 6, 32, 44, 45, 46, 47, 48, 76, 77, 78, 79] (e' := [(3, _), (5, _), (6, _), (32, _), (44, _), (45, _), (46, _), (47, _), (48, _), (76, _), (77, _), (78, _), (79, _)]) rfl ?_
         refine k_then_n ?_
         refine c_exit ?_
         refine k_blk_here ?_
         refine k_blk_n ?_
         refine k_then_n ?_
         refine s_eq 5 rfl (v' := .slice ao85 (L ++ ([w.2.1])).length cp85) (by first | rfl | (congr 1; done) | (congr 1 <;> first | rfl | omega | (simp; done) | (simp; omega))) ?_
         refine loop_next (x := (vis, L, la, lc)) ((vis ++ [q], (L ++ ([w.2.1])), ao85, cp85)) ?_ ?_ ?_ ?_
         · try dsimp only
           exact ⟨nodup_snoc hnd hnk, fun z hz => (List.mem_append.1 hz).elim (hvk z) (fun h => (List.mem_singleton.1 h) ▸ hqk), by rw [flat_snoc, ← hL]; (rw [agK_go (by first | assumption | omega) (by first | assumption | omega) hkv]; split <;> split <;> first | (exfalso; omega) | simp; done)⟩
         · show N_rr - (vis ++ [q]).length < N_rr - vis.length; rw [List.length_append]; simp; omega
         · exact ⟨rfl, rfl, rfl, rfl, trivial⟩
         · (try simp only [List.cons_append, List.nil_append]); exact Tf
        ·
         refine c_skip ?_
         refine k_then_n ?_
         refine c_exit ?_
         refine k_blk_here ?_
         refine k_blk_n ?_
         refine k_then_n ?_
         refine loop_next (x := (vis, L, la, lc)) ((vis ++ [q], L, la, lc)) ?_ ?_ ?_ ?_
         · try dsimp only
           exact ⟨nodup_snoc hnd hnk, fun z hz => (List.mem_append.1 hz).elim (hvk z) (fun h => (List.mem_singleton.1 h) ▸ hqk), by rw [flat_snoc, ← hL]; (rw [agK_go (by first | assumption | omega) (by first | assumption | omega) hkv]; split <;> split <;> first | (exfalso; omega) | simp; done)⟩
         · show N_rr - (vis ++ [q]).length < N_rr - vis.length; rw [List.length_append]; simp; omega
         · exact ⟨rfl, rfl, rfl, rfl, trivial⟩
         · (try simp only [List.cons_append, List.nil_append]); exact Tf
       ·
        refine q_skip rfl rfl rfl rfl ?_
        refine q_skip rfl rfl rfl rfl ?_
        refine q_skip rfl rfl rfl rfl ?_
        refine q_skip rfl rfl rfl rfl ?_
        refine q_pick_f rfl rfl rfl rfl rfl ?_
        refine r_done ?_
        refine s_keep [3, 5, 6, 8, 32, 44, 45, 46, 47, 48, 76, 77, 78, 79, 80] (e' := [(3, _), (5, _), (6, _), (8, _), (32, _), (44, _), (45, _), (46, _), (47, _), (48, _), (76, _), (77, _), (78, _), (79, _), (80, _)]) rfl ?_
        refine k_then_n ?_
        refine c_cond_f rfl ?_
        refine c_skip ?_
        refine k_then_n ?_
        refine c_exit ?_
        refine k_blk_here ?_
        refine k_blk_n ?_
        refine k_then_n ?_
        refine loop_next (x := (vis, L, la, lc)) ((vis ++ [q], L, la, lc)) ?_ ?_ ?_ ?_
        · try dsimp only
          exact ⟨nodup_snoc hnd hnk, fun z hz => (List.mem_append.1 hz).elim (hvk z) (fun h => (List.mem_singleton.1 h) ▸ hqk), by rw [flat_snoc, ← hL]; (rw [agK_go (by first | assumption | omega) (by first | assumption | omega) hkv]; split <;> split <;> first | (exfalso; omega) | simp; done)⟩
        · show N_rr - (vis ++ [q]).length < N_rr - vis.length; rw [List.length_append]; simp; omega
        · exact ⟨rfl, rfl, rfl, rfl, trivial⟩
        · (try simp only [List.cons_append, List.nil_append]); exact Tf
 ·
  refine q_skip rfl rfl rfl rfl ?_
  refine q_skip rfl rfl rfl rfl ?_
  refine q_skip rfl rfl rfl rfl ?_
  refine q_pick_f rfl rfl rfl rfl rfl ?_
  refine r_done ?_
  refine s_keep [0, 3, 17] (e' := [(0, _), (3, _), (17, _)]) rfl ?_
  refine k_then_n ?_
  refine c_cond_f rfl ?_
  have hk : k = 1 ∨ k = 2 := by omega
  refine c_skip ?_
  refine k_then_n ?_
  refine c_seq ?_
  refine c_plain (.q 0 (.done)) (by kernel_rfl) ?_
  refine q_assign rfl rfl rfl rfl ?_
  refine r_done ?_
  refine k_then_n ?_
  refine c_seq ?_
  refine c_draw rfl (.q 0 (.q 1 (.q 2 (.q 3 (.q 4 (.q 5 (.q 6 (.q 7 (.q 8 (.q 9 (.q 10 (.done)))))))))))) (by kernel_rfl) ?_
  refine q_move rfl rfl rfl rfl ?_
  refine q_nil_p rfl rfl rfl rfl ?_
  refine q_field (k := 0) rfl rfl rfl rfl Try.underlying70 rfl Try.sizeOf64 rfl ?_
  refine q_load_c (j := 0) rfl rfl rfl rfl Try.isAgg64 Tk (by first | rfl | exact (Nat.add_zero _).symm) (by rfl) ?_
  refine q_nil_p rfl rfl rfl rfl ?_
  refine q_field (k := 2) rfl rfl rfl rfl Try.underlying80 rfl Try.sizeOf77 rfl ?_
  refine q_load_c (j := 2) rfl rfl rfl rfl Try.isAgg77 Tk (by first | rfl | exact (Nat.add_zero _).symm) (by rfl) ?_
  refine q_field (k := 1) rfl rfl rfl rfl Try.underlying36 rfl Try.sizeOf3 rfl ?_
  refine q_load_c (j := 1) rfl rfl rfl rfl Try.isAgg3 Tk (by first | rfl | exact (Nat.add_zero _).symm) (by rfl) ?_
  refine q_lookup1 (ek := ekZ) (ev1 := evA) (F := F1) (m := m1) (k := t) none rfl rfl rfl rfl rfl Try.underlying77 (keyOK_int Try.underlying3) Try.zeroValue106 Tk ?_
  refine s_eq 27 rfl (v' := .pointer (some ⟨tb, 0, none⟩)) (by rw [hF1]; rfl) ?_
  refine q_assign rfl rfl rfl rfl ?_
  refine r_done ?_
  refine s_keep [0, 3, 5, 6] (e' := [(0, _), (3, _), (5, _), (6, _)]) rfl ?_
  refine k_then_n ?_
  refine c_seq ?_
  refine c_seq ?_
  refine c_plain (.q 0 (.q 1 (.q 2 (.q 3 ((.l 4 [] (.done))))))) (by kernel_rfl) ?_
  refine q_move rfl rfl rfl rfl ?_
  refine q_nil_p rfl rfl rfl rfl ?_
  refine q_field (k := 3) rfl rfl rfl rfl Try.underlying70 rfl Try.sizeOf68 rfl ?_
  refine q_load_c (j := 3) rfl rfl rfl rfl Try.isAgg68 Tk (by first | rfl | exact (Nat.add_zero _).symm) (by rfl) ?_
  refine l_range (ek := ek2) (ev1 := evT) (F := F) (m := mk) rfl rfl rfl rfl Try.underlying68 Tk ?_
  intro rr N_rr
  refine ag_nil ?_
  refine r_done ?_
  refine s_keep [3, 5, 6, 32] (e' := [(3, _), (5, _), (6, _), (32, _)]) rfl ?_
  refine k_then_n ?_
  refine c_block ?_
  refine s_heap (fun _ h => own_nil (sz := 1) (enc := encZ) h) ?_
  refine c_loop2 (α := List (Int × Int) × List Int × Option Addr × Nat) (fun (x_ : List (Int × Int) × List Int × Option Addr × Nat) => match x_ with | (vis, L, la, lc) => vis.Nodup ∧ (∀ q ∈ vis, q ∈ K) ∧ L = vis.flatMap (agK F k t o l)) (fun (x_ : List (Int × Int) × List Int × Option Addr × Nat) => match x_ with | (vis, L, la, lc) => [(5, .slice la L.length lc)]) (fun (x_ : List (Int × Int) × List Int × Option Addr × Nat) => match x_ with | (vis, L, la, lc) => [rng ek2 evT rr mk F vis N_rr, own 1 encZ la lc L]) (fun (x_ : List (Int × Int) × List Int × Option Addr × Nat) => match x_ with | (vis, L, la, lc) => N_rr - vis.length) [3, 6, 32] (er := [(3, _), (6, _), (32, _)]) rfl (([] : List (Int × Int)), ([] : List Int), none, 0) ?_ (by exact ⟨rfl, trivial⟩) (by (try dsimp only); (try simp only [Nat.add_zero, Nat.zero_add]); (repeat ((with_reducible apply Z2); focus (first | (with_reducible (repeat (first | exact Z0 | apply Z1)); done) | (repeat (first | exact Z0 | apply Z1))))); exact Z3) ?_
  · exact ⟨List.nodup_nil, fun q h => (by simp at h), rfl⟩
  rintro ⟨vis, L, la, lc⟩ ⟨hnd, hvk, hL⟩
  try simp only [List.cons_append, List.nil_append]
  have hvl := nodup_sub_len hnd hvk
  have hLl : L.length ≤ 2 * vis.length := by rw [hL]; exact flat_len (agK_len _ _ _ _ _) _
  refine c_seq ?_
  refine c_plain ((.l 0 [] (.q 1 (.done)))) (by kernel_rfl) ?_
  refine l_next (ek := ek2) (ev1 := evT) (F := F) (m := mk) (vis := vis) (N := N_rr) rfl rfl rfl rfl (by assumption) Tk ?_ ?_
  ·
   intro hall hex
   refine ag_nil ?_
   refine q_extract rfl rfl rfl rfl rfl ?_
   refine r_done ?_
   refine k_then_n ?_
   refine c_seq ?_
   refine c_cond_f rfl ?_
   refine c_exit ?_
   refine k_then_exit ?_
   refine k_then_exit ?_
   refine k_blk_here ?_
   refine k_then_n ?_
   refine c_seq ?_
   refine c_plain (.q 0 ((.l 1 [] (.done)))) (by kernel_rfl) ?_
   refine q_move rfl rfl rfl rfl ?_
   have sp_3 := So.sort_spec la L.length lc L (by first | rfl | assumption | omega | (simp; done) | (simp; omega)) (by omega)
   refine l_call rfl rfl rfl rfl rfl rfl Try.call61 (sp_3) Ts ?_
   rintro ⟨⟩ -
   try simp only [List.cons_append, List.nil_append]
   refine ag_nil ?_
   refine r_done ?_
   refine s_keep [5] (e' := [(5, _)]) rfl ?_
   refine k_then_n ?_
   refine c_seq ?_
   refine c_plain (.q 0 (.q 1 (.done))) (by kernel_rfl) ?_
   refine q_move rfl rfl rfl rfl ?_
   refine q_assign rfl rfl rfl rfl ?_
   refine r_done ?_
   refine k_then_n ?_
   refine c_ret ?_
   have hp : vis.Perm K := (List.perm_ext_iff_of_nodup hnd hKn).2 fun z => ⟨hvk z, fun h => (by obtain ⟨u, hu⟩ := Option.isSome_iff_exists.1 ((hks z).1 h); exact hall z u hu)⟩
   rw [if_pos hk, srt_eq (show L.Perm (K.flatMap (agK F k t o l)) by rw [hL]; exact flat_perm _ hp)]
   refine ret1 rfl rfl ((la, lc)) (by rw [isort_len, ← (flat_perm (agK F k t o l) hp).length_eq, ← hL]) (by trivial) ?_
   exact Tf
  ·
   intro q w hkv hnk hltN
   refine ag_nil ?_
   have hqk := (hks q).2 (by rw [hkv]; rfl)
   have hq0 := hkt q hqk
   refine q_extract rfl rfl rfl rfl rfl ?_
   refine r_done ?_
   refine k_then_n ?_
   refine c_seq ?_
   refine c_cond_t rfl ?_
   refine c_skip ?_
   refine k_then_n ?_
   refine c_block ?_
   refine c_seq ?_
   refine c_plain (.q 0 (.q 1 (.q 2 ((.l 3 [] ((.l 4 [] ((.l 5 [] ((.l 6 [] (.done)))))))))))) (by kernel_rfl) ?_
   refine q_entry (ek := ek2) (ev1 := evT) (F := F) (m := mk) (vis := vis) (N := N_rr) (k := q) (v := w) rfl rfl rfl rfl hkv Tk ?_
   refine q_extract rfl rfl rfl rfl rfl ?_
   refine q_extract rfl rfl rfl rfl rfl ?_
   refine l_alloc rfl rfl rfl Try.zeroValue111 (zs := [.int .i64 0, .int .i64 0]) rfl ?_
   intro b7
   refine ag_nil ?_
   refine l_alloc rfl rfl rfl Try.zeroValue39 (zs := [.int .i64 0, .int .i64 0, .int .u64 0, .int .u64 0]) rfl ?_
   intro b8
   refine ag_nil ?_
   refine l_store (j := 0) rfl rfl rfl rfl Try.sizeOf111 (us := [_, _]) rfl rfl rfl Tk (by first | rfl | exact (Nat.add_zero _).symm) (by first | decide | (simp; done) | omega) ?_
   simp only [setL, List.set]
   refine ag_nil ?_
   refine l_store (j := 0) rfl rfl rfl rfl Try.sizeOf39 (us := [_, _, _, _]) rfl rfl rfl Tk (by first | rfl | exact (Nat.add_zero _).symm) (by first | decide | (simp; done) | omega) ?_
   simp only [setL, List.set]
   refine ag_nil ?_
   refine r_done ?_
   refine s_keep [3, 5, 6, 7, 8, 32] (e' := [(3, _), (5, _), (6, _), (7, _), (8, _), (32, _)]) rfl ?_
   refine k_then_n ?_
   refine c_seq ?_
   refine c_seq ?_
   refine c_plain (.q 0 (.q 1 (.q 2 (.q 3 (.q 4 (.q 5 (.q 6 (.q 7 (.q 8 (.q 9 (.q 10 (.q 11 (.done))))))))))))) (by kernel_rfl) ?_
   refine q_field (k := 0) rfl rfl rfl rfl Try.underlying111 rfl Try.sizeOf3 rfl ?_
   refine q_load_c (j := 0) rfl rfl rfl rfl Try.isAgg3 Tk (by first | rfl | exact (Nat.add_zero _).symm) (by rfl) ?_
   refine q_field (k := 2) rfl rfl rfl rfl Try.underlying36 rfl Try.sizeOf3 rfl ?_
   refine q_load_c (j := 2) rfl rfl rfl rfl Try.isAgg3 Tk (by first | rfl | exact (Nat.add_zero _).symm) (by rfl) ?_
   refine q_int rfl rfl rfl rfl rfl (b_neq _ _ _ _) ?_
   refine q_move rfl rfl rfl rfl ?_
   refine s_bool_p 43 rfl (fun s0 => ?_) (fun s0 => ?_)
   ·
    refine q_skip rfl rfl rfl rfl ?_
    refine q_skip rfl rfl rfl rfl ?_
    refine q_skip rfl rfl rfl rfl ?_
    refine q_skip rfl rfl rfl rfl ?_
    refine q_skip rfl rfl rfl rfl ?_
    refine q_pick_t rfl rfl rfl rfl rfl ?_
    refine r_done ?_
    refine s_keep [3, 5, 6, 7, 8, 32, 44, 45, 46, 47, 48, 49] (e' := [(3, _), (5, _), (6, _), (7, _), (8, _), (32, _), (44, _), (45, _), (46, _), (47, _), (48, _), (49, _)]) rfl ?_
    refine k_then_n ?_
    refine c_cond_t rfl ?_
    refine c_exit ?_
    refine k_then_exit ?_
    refine k_blk_here ?_
    refine k_then_n ?_
    refine loop_next (x := (vis, L, la, lc)) ((vis ++ [q], L, la, lc)) ?_ ?_ ?_ ?_
    · try dsimp only
      exact ⟨nodup_snoc hnd hnk, fun z hz => (List.mem_append.1 hz).elim (hvk z) (fun h => (List.mem_singleton.1 h) ▸ hqk), by rw [flat_snoc, ← hL]; (rw [agK_s (by first | exact .inl s0 | exact .inr s1), List.append_nil]; done)⟩
    · show N_rr - (vis ++ [q]).length < N_rr - vis.length; rw [List.length_append]; simp; omega
    · exact ⟨rfl, rfl, rfl, rfl, trivial⟩
    · (try simp only [List.cons_append, List.nil_append]); exact Tf
   ·
    refine q_field (k := 1) rfl rfl rfl rfl Try.underlying111 rfl Try.sizeOf3 rfl ?_
    refine q_load_c (j := 1) rfl rfl rfl rfl Try.isAgg3 Tk (by first | rfl | exact (Nat.add_zero _).symm) (by rfl) ?_
    refine q_field (k := 1) rfl rfl rfl rfl Try.underlying36 rfl Try.sizeOf3 rfl ?_
    refine q_load_c (j := 1) rfl rfl rfl rfl Try.isAgg3 Tk (by first | rfl | exact (Nat.add_zero _).symm) (by rfl) ?_
    refine q_int rfl rfl rfl rfl rfl (b_eql _ _ _ _) ?_
    refine q_pick_f rfl rfl rfl rfl rfl ?_
    refine r_done ?_
    refine s_keep [3, 5, 6, 7, 8, 32, 44, 45, 46, 47, 48, 49] (e' := [(3, _), (5, _), (6, _), (7, _), (8, _), (32, _), (44, _), (45, _), (46, _), (47, _), (48, _), (49, _)]) rfl ?_
    refine k_then_n ?_
    refine c_cond_p rfl (fun s1 => ?_) (fun s1 => ?_)
    ·
     refine c_exit ?_
     refine k_then_exit ?_
     refine k_blk_here ?_
     refine k_then_n ?_
     refine loop_next (x := (vis, L, la, lc)) ((vis ++ [q], L, la, lc)) ?_ ?_ ?_ ?_
     · try dsimp only
       exact ⟨nodup_snoc hnd hnk, fun z hz => (List.mem_append.1 hz).elim (hvk z) (fun h => (List.mem_singleton.1 h) ▸ hqk), by rw [flat_snoc, ← hL]; (rw [agK_s (by first | exact .inl s0 | exact .inr s1), List.append_nil]; done)⟩
     · show N_rr - (vis ++ [q]).length < N_rr - vis.length; rw [List.length_append]; simp; omega
     · exact ⟨rfl, rfl, rfl, rfl, trivial⟩
     · (try simp only [List.cons_append, List.nil_append]); exact Tf
    ·
     refine c_skip ?_
     refine k_then_n ?_
     refine c_seq ?_
     refine c_plain (.q 0 (.q 1 (.q 2 ((.l 3 [] (.q 4 (.done))))))) (by kernel_rfl) ?_
     refine q_move rfl rfl rfl rfl ?_
     refine q_field (k := 1) rfl rfl rfl rfl Try.underlying111 rfl Try.sizeOf3 rfl ?_
     refine q_load_c (j := 1) rfl rfl rfl rfl Try.isAgg3 Tk (by first | rfl | exact (Nat.add_zero _).symm) (by rfl) ?_
     have sp_4 := get_z tb l ta l.length tc (by first | rfl | assumption | omega | (simp; done) | (simp; omega)) q.2 (by omega)
     refine l_call rfl rfl rfl rfl rfl rfl Try.call60 (sp_4) Ts ?_
     rintro ⟨⟩ -
     try simp only [List.cons_append, List.nil_append]
     refine ag_nil ?_
     refine q_assign rfl rfl rfl rfl ?_
     refine r_done ?_
     refine s_keep [3, 5, 6, 8, 9, 32, 44, 45, 46, 47, 48] (e' := [(3, _), (5, _), (6, _), (8, _), (9, _), (32, _), (44, _), (45, _), (46, _), (47, _), (48, _)]) rfl ?_
     refine k_then_n ?_
     refine c_block ?_
     refine c_seq ?_
     refine c_block ?_
     refine c_seq ?_
     refine c_block ?_
     refine c_seq ?_
     refine c_seq ?_
     refine c_plain (.q 0 (.q 1 (.q 2 (.q 3 (.done))))) (by kernel_rfl) ?_
     refine q_field (k := 0) rfl rfl rfl rfl Try.underlying36 rfl Try.sizeOf34 rfl ?_
     refine q_load_c (j := 0) rfl rfl rfl rfl Try.isAgg34 Tk (by first | rfl | exact (Nat.add_zero _).symm) (by rfl) ?_
     refine q_int rfl rfl rfl rfl rfl (b_eql _ _ _ _) ?_
     refine q_assign rfl rfl rfl rfl ?_
     refine r_done ?_
     refine k_then_n ?_
     refine c_cond_p rfl (fun k3 => ?_) (fun k3 => ?_)
     ·
      refine c_exit ?_
      refine k_then_exit ?_
      refine k_blk_here ?_
      refine k_then_n ?_
      refine c_seq ?_
      refine c_plain (.q 0 (.q 1 (.q 2 (.q 3 (.q 4 (.q 5 (.q 6 (.q 7 (.q 8 (.done)))))))))) (by kernel_rfl) ?_
      refine q_field (k := 0) rfl rfl rfl rfl Try.underlying39 rfl Try.sizeOf3 rfl ?_
      refine q_load_c (j := 0) rfl rfl rfl rfl Try.isAgg3 Tk (by first | rfl | exact (Nat.add_zero _).symm) (by rfl) ?_
      refine q_int rfl rfl rfl rfl rfl (b_geq _ _ _ _) ?_
      refine q_move rfl rfl rfl rfl ?_
      refine s_bool_p 61 rfl (fun r0 => ?_) (fun r0 => ?_)
      ·
       refine q_field (k := 2) rfl rfl rfl rfl Try.underlying39 rfl Try.sizeOf37 rfl ?_
       refine q_load_c (j := 2) rfl rfl rfl rfl Try.isAgg37 Tk (by first | rfl | exact (Nat.add_zero _).symm) (by rfl) ?_
       refine q_move rfl rfl rfl rfl ?_
       refine q_int rfl rfl rfl rfl rfl (b_gtr _ _ _ _) ?_
       refine q_pick_t rfl rfl rfl rfl rfl ?_
       refine r_done ?_
       refine s_keep [3, 5, 6, 8, 9, 32, 44, 45, 46, 47, 48, 62, 63, 64, 65, 66] (e' := [(3, _), (5, _), (6, _), (8, _), (9, _), (32, _), (44, _), (45, _), (46, _), (47, _), (48, _), (62, _), (63, _), (64, _), (65, _), (66, _)]) rfl ?_
       refine k_then_n ?_
       refine c_cond_p rfl (fun r1 => ?_) (fun r1 => ?_)
       ·
        refine c_plain (.q 0 (.q 1 (.q 2 ((.l 3 [] ((.l 4 [] (.q 5 (.done))))))))) (by kernel_rfl) ?_
        refine q_move rfl rfl rfl rfl ?_
        refine q_field (k := 0) rfl rfl rfl rfl Try.underlying39 rfl Try.sizeOf3 rfl ?_
        refine q_load_c (j := 0) rfl rfl rfl rfl Try.isAgg3 Tk (by first | rfl | exact (Nat.add_zero _).symm) (by rfl) ?_
        refine l_buildSlice rfl rfl rfl rfl (run_build1 (us := [_]) Try.underlying23 Try.sizeOf3 rfl Try.zeroValue3 rfl rfl rfl) ?_
        intro b70
        refine ag_nil ?_
        refine l_append (sz := 1) (enc := encZ) (xs := L) rfl rfl rfl rfl rfl Try.underlying23 Try.typeInfo3 rfl rfl rfl (by decide) Tk Tk (by first | rfl | omega | (simp; done) | (simp; omega)) (ys := [w.1]) (rds_some rdn_cells) (by rfl) (by first | rfl | omega) (encZ_len) (encZ_one) (by omega) (by show _ * 8 ≤ _; omega) ?_
        intro ao71 cp71
        refine ag_nil ?_
        refine q_assign rfl rfl rfl rfl ?_
        refine r_done ?_
        refine s_keep [3, 5, 6, 8, 9, 32, 44, 45, 46, 47, 48, 62, 63, 64, 65] (e' := [(3, _), (5, _), (6, _), (8, _), (9, _), (32, _), (44, _), (45, _), (46, _), (47, _), (48, _), (62, _), (63, _), (64, _), (65, _)]) rfl ?_
        refine k_blk_n ?_
        refine k_then_n ?_
        refine c_seq ?_
        refine c_seq ?_
        refine c_plain (.q 0 (.q 1 (.q 2 (.q 3 (.q 4 (.q 5 (.q 6 (.q 7 (.q 8 (.done)))))))))) (by kernel_rfl) ?_
        refine q_field (k := 1) rfl rfl rfl rfl Try.underlying39 rfl Try.sizeOf3 rfl ?_
        refine q_load_c (j := 1) rfl rfl rfl rfl Try.isAgg3 Tk (by first | rfl | exact (Nat.add_zero _).symm) (by rfl) ?_
        refine q_int rfl rfl rfl rfl rfl (b_geq _ _ _ _) ?_
        refine q_move rfl rfl rfl rfl ?_
        refine s_bool_p 75 rfl (fun w0 => ?_) (fun w0 => ?_)
        ·
         refine q_field (k := 3) rfl rfl rfl rfl Try.underlying39 rfl Try.sizeOf37 rfl ?_
         refine q_load_c (j := 3) rfl rfl rfl rfl Try.isAgg37 Tk (by first | rfl | exact (Nat.add_zero _).symm) (by rfl) ?_
         refine q_move rfl rfl rfl rfl ?_
         refine q_int rfl rfl rfl rfl rfl (b_gtr _ _ _ _) ?_
         refine q_pick_t rfl rfl rfl rfl rfl ?_
         refine r_done ?_
         refine s_keep [3, 5, 6, 8, 32, 44, 45, 46, 47, 48, 62, 63, 64, 65, 76, 77, 78, 79, 80] (e' := [(3, _), (5, _), (6, _), (8, _), (32, _), (44, _), (45, _), (46, _), (47, _), (48, _), (62, _), (63, _), (64, _), (65, _), (76, _), (77, _), (78, _), (79, _), (80, _)]) rfl ?_
         refine k_then_n ?_
         refine c_cond_p rfl (fun w1 => ?_) (fun w1 => ?_)
         ·
          refine c_plain (.q 0 (.q 1 (.q 2 ((.l 3 [] ((.l 4 [] (.q 5 (.done))))))))) (by kernel_rfl) ?_
          refine q_move rfl rfl rfl rfl ?_
          refine q_field (k := 1) rfl rfl rfl rfl Try.underlying39 rfl Try.sizeOf3 rfl ?_
          refine q_load_c (j := 1) rfl rfl rfl rfl Try.isAgg3 Tk (by first | rfl | exact (Nat.add_zero _).symm) (by rfl) ?_
          refine l_buildSlice rfl rfl rfl rfl (run_build1 (us := [_]) Try.underlying23 Try.sizeOf3 rfl Try.zeroValue3 rfl rfl rfl) ?_
          intro b84
          refine ag_nil ?_
          refine l_append (sz := 1) (enc := encZ) (xs := (L ++ ([w.1]))) rfl rfl rfl rfl rfl Try.underlying23 Try.typeInfo3 rfl rfl rfl (by decide) Tk Tk (by first | rfl | omega | (simp; done) | (simp; omega)) (ys := [w.2.1]) (rds_some rdn_cells) (by rfl) (by first | rfl | omega) (encZ_len) (encZ_one) (by omega) (by show _ * 8 ≤ _; omega) ?_
          intro ao85 cp85
          refine ag_nil ?_
          refine q_assign rfl rfl rfl rfl ?_
          refine r_done ?_
          refine s_keep [3, 5, 6, 32, 44, 45, 46, 47, 48, 62, 63, 64, 65, 76, 77, 78, 79] (e' := [(3, _), (5, _), (6, _), (32, _), (44, _), (45, _), (46, _), (47, _), (48, _), (62, _), (63, _), (64, _), (65, _), (76, _), (77, _), (78, _), (79, _)]) rfl ?_
          refine k_then_n ?_
          refine c_exit ?_
          refine k_blk_here ?_
          refine k_blk_n ?_
          refine k_then_n ?_
          refine s_eq 5 rfl (v' := .slice ao85 ((L ++ ([w.1])) ++ ([w.2.1])).length cp85) (by first | rfl | (congr 1; done) | (congr 1 <;> first | rfl | omega | (simp; done) | (simp; omega))) ?_
          refine loop_next (x := (vis, L, la, lc)) ((vis ++ [q], ((L ++ ([w.1])) ++ ([w.2.1])), ao85, cp85)) ?_ ?_ ?_ ?_
          · try dsimp only
            exact ⟨nodup_snoc hnd hnk, fun z hz => (List.mem_append.1 hz).elim (hvk z) (fun h => (List.mem_singleton.1 h) ▸ hqk), by rw [flat_snoc, ← hL]; (rw [agK_go (by first | assumption | omega) (by first | assumption | omega) hkv]; split <;> split <;> first | (exfalso; omega) | simp; done)⟩
          · show N_rr - (vis ++ [q]).length < N_rr - vis.length; rw [List.length_append]; simp; omega
          · exact ⟨rfl, rfl, rfl, rfl, trivial⟩
          · (try simp only [List.cons_append, List.nil_append]); exact Tf
         ·
          refine c_skip ?_
          refine k_then_n ?_
          refine c_exit ?_
          refine k_blk_here ?_
          refine k_blk_n ?_
          refine k_then_n ?_
          refine s_eq 5 rfl (v' := .slice ao71 (L ++ ([w.1])).length cp71) (by first | rfl | (congr 1; done) | (congr 1 <;> first | rfl | omega | (simp; done) | (simp; omega))) ?_
          refine loop_next (x := (vis, L, la, lc)) ((vis ++ [q], (L ++ ([w.1])), ao71, cp71)) ?_ ?_ ?_ ?_
          · try dsimp only
            exact ⟨nodup_snoc hnd hnk, fun z hz => (List.mem_append.1 hz).elim (hvk z) (fun h => (List.mem_singleton.1 h) ▸ hqk), by rw [flat_snoc, ← hL]; (rw [agK_go (by first | assumption | omega) (by first | assumption | omega) hkv]; split <;> split <;> first | (exfalso; omega) | simp; done)⟩
          · show N_rr - (vis ++ [q]).length < N_rr - vis.length; rw [List.length_append]; simp; omega
          · exact ⟨rfl, rfl, rfl, rfl, trivial⟩
          · (try simp only [List.cons_append, List.nil_append]); exact Tf
        ·
         refine q_skip rfl rfl rfl rfl ?_
         refine q_skip rfl rfl rfl rfl ?_
         refine q_skip rfl rfl rfl rfl ?_
         refine q_skip rfl rfl rfl rfl ?_
         refine q_pick_f rfl rfl rfl rfl rfl ?_
         refine r_done ?_
         refine s_keep [3, 5, 6, 8, 32, 44, 45, 46, 47, 48, 62, 63, 64, 65, 76, 77, 78, 79, 80] (e' := [(3, _), (5, _), (6, _), (8, _), (32, _), (44, _), (45, _), (46, _), (47, _), (48, _), (62, _), (63, _), (64, _), (65, _), (76, _), (77, _), (78, _), (79, _), (80, _)]) rfl ?_
         refine k_then_n ?_
         refine c_cond_f rfl ?_
         refine c_skip ?_
         refine k_then_n ?_
         refine c_exit ?_
         refine k_blk_here ?_
         refine k_blk_n ?_
         refine k_then_n ?_
         refine s_eq 5 rfl (v' := .slice ao71 (L ++ ([w.1])).length cp71) (by first | rfl | (congr 1; done) | (congr 1 <;> first | rfl | omega | (simp; done) | (simp; omega))) ?_
         refine loop_next (x := (vis, L, la, lc)) ((vis ++ [q], (L ++ ([w.1])), ao71, cp71)) ?_ ?_ ?_ ?_
         · try dsimp only
           exact ⟨nodup_snoc hnd hnk, fun z hz => (List.mem_append.1 hz).elim (hvk z) (fun h => (List.mem_singleton.1 h) ▸ hqk), by rw [flat_snoc, ← hL]; (rw [agK_go (by first | assumption | omega) (by first | assumption | omega) hkv]; split <;> split <;> first | (exfalso; omega) | simp; done)⟩
         · show N_rr - (vis ++ [q]).length < N_rr - vis.length; rw [List.length_append]; simp; omega
         · exact ⟨rfl, rfl, rfl, rfl, trivial⟩
         · (try simp only [List.cons_append, List.nil_append]); exact Tf
       ·
        refine c_skip ?_
        refine k_blk_n ?_
        refine k_then_n ?_
        refine c_seq ?_
        refine c_seq ?_
        refine c_plain (.q 0 (.q 1 (.q 2 (.q 3 (.q 4 (.q 5 (.q 6 (.q 7 (.q 8 (.done)))))))))) (by kernel_rfl) ?_
        refine q_field (k := 1) rfl rfl rfl rfl Try.underlying39 rfl Try.sizeOf3 rfl ?_
        refine q_load_c (j := 1) rfl rfl rfl rfl Try.isAgg3 Tk (by first | rfl | exact (Nat.add_zero _).symm) (by rfl) ?_
        refine q_int rfl rfl rfl rfl rfl (b_geq _ _ _ _) ?_
        refine q_move rfl rfl rfl rfl ?_
        refine s_bool_p 75 rfl (fun w0 => ?_) (fun w0 => ?_)
        ·
         refine q_field (k := 3) rfl rfl rfl rfl Try.underlying39 rfl Try.sizeOf37 rfl ?_
         refine q_load_c (j := 3) rfl rfl rfl rfl Try.isAgg37 Tk (by first | rfl | exact (Nat.add_zero _).symm) (by rfl) ?_
         refine q_move rfl rfl rfl rfl ?_
         refine q_int rfl rfl rfl rfl rfl (b_gtr _ _ _ _) ?_
         refine q_pick_t rfl rfl rfl rfl rfl ?_
         refine r_done ?_
         refine s_keep [3, 5, 6, 8, 32, 44, 45, 46, 47, 48, 62, 63, 64, 65, 76, 77, 78, 79, 80] (e' := [(3, _), (5, _), (6, _), (8, _), (32, _), (44, _), (45, _), (46, _), (47, _), (48, _), (62, _), (63, _), (64, _), (65, _), (76, _), (77, _), (78, _), (79, _), (80, _)]) rfl ?_
         refine k_then_n ?_
         refine c_cond_p rfl (fun w1 => ?_) (fun w1 => ?_)
         ·
          refine c_plain (.q 0 (.q 1 (.q 2 ((.l 3 [] ((.l 4 [] (.q 5 (.done))))))))) (by kernel_rfl) ?_
          refine q_move rfl rfl rfl rfl ?_
          refine q_field (k := 1) rfl rfl rfl rfl Try.underlying39 rfl Try.sizeOf3 rfl ?_
          refine q_load_c (j := 1) rfl rfl rfl rfl Try.isAgg3 Tk (by first | rfl | exact (Nat.add_zero _).symm) (by rfl) ?_
          refine l_buildSlice rfl rfl rfl rfl (run_build1 (us := [_]) Try.underlying23 Try.sizeOf3 rfl Try.zeroValue3 rfl rfl rfl) ?_
          intro b84
          refine ag_nil ?_
          refine l_append (sz := 1) (enc := encZ) (xs := L) rfl rfl rfl rfl rfl Try.underlying23 Try.typeInfo3 rfl rfl rfl (by decide) Tk Tk (by first | rfl | omega | (simp; done) | (simp; omega)) (ys := [w.2.1]) (rds_some rdn_cells) (by rfl) (by first | rfl | omega) (encZ_len) (encZ_one) (by omega) (by show _ * 8 ≤ _; omega) ?_
          intro ao85 cp85
          refine ag_nil ?_
          refine q_assign rfl rfl rfl rfl ?_
          refine r_done ?_
          refine s_keep [3, 5, 6, 32, 44, 45, 46, 47, 48, 62, 63, 64, 65, 76, 77, 78, 79] (e' := [(3, _), (5, _), (6, _), (32, _), (44, _), (45, _), (46, _), (47, _), (48, _), (62, _), (63, _), (64, _), (65, _), (76, _), (77, _), (78, _), (79, _)]) rfl ?_
          refine k_then_n ?_
          refine c_exit ?_
          refine k_blk_here ?_
          refine k_blk_n ?_
          refine k_then_n ?_
          refine s_eq 5 rfl (v' := .slice ao85 (L ++ ([w.2.1])).length cp85) (by first | rfl | (congr 1; done) | (congr 1 <;> first | rfl | omega | (simp; done) | (simp; omega))) ?_
          refine loop_next (x := (vis, L, la, lc)) ((vis ++ [q], (L ++ ([w.2.1])), ao85, cp85)) ?_ ?_ ?_ ?_
          · try dsimp only
            exact ⟨nodup_snoc hnd hnk, fun z hz => (List.mem_append.1 hz).elim (hvk z) (fun h => (List.mem_singleton.1 h) ▸ hqk), by rw [flat_snoc, ← hL]; (rw [agK_go (by first | assumption | omega) (by first | assumption | omega) hkv]; split <;> split <;> first | (exfalso; omega) | simp; done)⟩
          · show N_rr - (vis ++ [q]).length < N_rr - vis.length; rw [List.length_append]; simp; omega
          · exact ⟨rfl, rfl, rfl, rfl, trivial⟩
          · (try simp only [List.cons_append, List.nil_append]); exact Tf
         ·
          refine c_skip ?_
          refine k_then_n ?_
          refine c_exit ?_
          refine k_blk_here ?_
          refine k_blk_n ?_
          refine k_then_n ?_
          refine loop_next (x := (vis, L, la, lc)) ((vis ++ [q], L, la, lc)) ?_ ?_ ?_ ?_
          · try dsimp only
            exact ⟨nodup_snoc hnd hnk, fun z hz => (List.mem_append.1 hz).elim (hvk z) (fun h => (List.mem_singleton.1 h) ▸ hqk), by rw [flat_snoc, ← hL]; (rw [agK_go (by first | assumption | omega) (by first | assumption | omega) hkv]; split <;> split <;> first | (exfalso; omega) | simp; done)⟩
          · show N_rr - (vis ++ [q]).length < N_rr - vis.length; rw [List.length_append]; simp; omega
          · exact ⟨rfl, rfl, rfl, rfl, trivial⟩
          · (try simp only [List.cons_append, List.nil_append]); exact Tf
        ·
         refine q_skip rfl rfl rfl rfl ?_
         refine q_skip rfl rfl rfl rfl ?_
         refine q_skip rfl rfl rfl rfl ?_
         refine q_skip rfl rfl rfl rfl ?_
         refine q_pick_f rfl rfl rfl rfl rfl ?_
         refine r_done ?_
         refine s_keep [3, 5, 6, 8, 32, 44, 45, 46, 47, 48, 62, 63, 64, 65, 76, 77, 78, 79, 80] (e' := [(3, _), (5, _), (6, _), (8, _), (32, _), (44, _), (45, _), (46, _), (47, _), (48, _), (62, _), (63, _), (64, _), (65, _), (76, _), (77, _), (78, _), (79, _), (80, _)]) rfl ?_
         refine k_then_n ?_
         refine c_cond_f rfl ?_
         refine c_skip ?_
         refine k_then_n ?_
         refine c_exit ?_
         refine k_blk_here ?_
         refine k_blk_n ?_
         refine k_then_n ?_
         refine loop_next (x := (vis, L, la, lc)) ((vis ++ [q], L, la, lc)) ?_ ?_ ?_ ?_
         · try dsimp only
           exact ⟨nodup_snoc hnd hnk, fun z hz => (List.mem_append.1 hz).elim (hvk z) (fun h => (List.mem_singleton.1 h) ▸ hqk), by rw [flat_snoc, ← hL]; (rw [agK_go (by first | assumption | omega) (by first | assumption | omega) hkv]; split <;> split <;> first | (exfalso; omega) | simp; done)⟩
         · show N_rr - (vis ++ [q]).length < N_rr - vis.length; rw [List.length_append]; simp; omega
         · exact ⟨rfl, rfl, rfl, rfl, trivial⟩
         · (try simp only [List.cons_append, List.nil_append]); exact Tf
      ·
       refine q_skip rfl rfl rfl rfl ?_
       refine q_skip rfl rfl rfl rfl ?_
       refine q_skip rfl rfl rfl rfl ?_
       refine q_skip rfl rfl rfl rfl ?_
       refine q_pick_f rfl rfl rfl rfl rfl ?_
       refine r_done ?_
       refine s_keep [3, 5, 6, 8, 9, 32, 44, 45, 46, 47, 48, 62, 63, 64, 65, 66] (e' := [(3, _), (5, _), (6, _), (8, _), (9, _), (32, _), (44, _), (45, _), (46, _), (47, _), (48, _), (62, _), (63, _), (64, _), (65, _), (66, _)]) rfl ?_
       refine k_then_n ?_
       refine c_cond_f rfl ?_
       refine c_skip ?_
       refine k_blk_n ?_
       refine k_then_n ?_
       refine c_seq ?_
       refine c_seq ?_
       refine c_plain (.q 0 (.q 1 (.q 2 (.q 3 (.q 4 (.q 5 (.q 6 (.q 7 (.q 8 (.done)))))))))) (by kernel_rfl) ?_
       refine q_field (k := 1) rfl rfl rfl rfl Try.underlying39 rfl Try.sizeOf3 rfl ?_
       refine q_load_c (j := 1) rfl rfl rfl rfl Try.isAgg3 Tk (by first | rfl | exact (Nat.add_zero _).symm) (by rfl) ?_
       refine q_int rfl rfl rfl rfl rfl (b_geq _ _ _ _) ?_
       refine q_move rfl rfl rfl rfl ?_
       refine s_bool_p 75 rfl (fun w0 => ?_) (fun w0 => ?_)
       ·
        refine q_field (k := 3) rfl rfl rfl rfl Try.underlying39 rfl Try.sizeOf37 rfl ?_
        refine q_load_c (j := 3) rfl rfl rfl rfl Try.isAgg37 Tk (by first | rfl | exact (Nat.add_zero _).symm) (by rfl) ?_
        refine q_move rfl rfl rfl rfl ?_
        refine q_int rfl rfl rfl rfl rfl (b_gtr _ _ _ _) ?_
        refine q_pick_t rfl rfl rfl rfl rfl ?_
        refine r_done ?_
        refine s_keep [3, 5, 6, 8, 32, 44, 45, 46, 47, 48, 62, 63, 64, 65, 76, 77, 78, 79, 80] (e' := [(3, _), (5, _), (6, _), (8, _), (32, _), (44, _), (45, _), (46, _), (47, _), (48, _), (62, _), (63, _), (64, _), (65, _), (76, _), (77, _), (78, _), (79, _), (80, _)]) rfl ?_
        refine k_then_n ?_
        refine c_cond_p rfl (fun w1 => ?_) (fun w1 => ?_)
        ·
         refine c_plain (.q 0 (.q 1 (.q 2 ((.l 3 [] ((.l 4 [] (.q 5 (.done))))))))) (by kernel_rfl) ?_
         refine q_move rfl rfl rfl rfl ?_
         refine q_field (k := 1) rfl rfl rfl rfl Try.underlying39 rfl Try.sizeOf3 rfl ?_
         refine q_load_c (j := 1) rfl rfl rfl rfl Try.isAgg3 Tk (by first | rfl | exact (Nat.add_zero _).symm) (by rfl) ?_
         refine l_buildSlice rfl rfl rfl rfl (run_build1 (us := [_]) Try.underlying23 Try.sizeOf3 rfl Try.zeroValue3 rfl rfl rfl) ?_
         intro b84
         refine ag_nil ?_
         refine l_append (sz := 1) (enc := encZ) (xs := L) rfl rfl rfl rfl rfl Try.underlying23 Try.typeInfo3 rfl rfl rfl (by decide) Tk Tk (by first | rfl | omega | (simp; done) | (simp; omega)) (ys := [w.2.1]) (rds_some rdn_cells) (by rfl) (by first | rfl | omega) (encZ_len) (encZ_one) (by omega) (by show _ * 8 ≤ _; omega) ?_
         intro ao85 cp85
         refine ag_nil ?_
         refine q_assign rfl rfl rfl rfl ?_
         refine r_done ?_
         refine s_keep [3, 5, 6, 32, 44, 45, 46, 47, 48, 62, 63, 64, 65, 76, 77, 78, 79] (e' := [(3, _), (5, _), (6, _), (32, _), (44, _), (45, _), (46, _), (47, _), (48, _), (62, _), (63, _), (64, _), (65, _), (76, _), (77, _), (78, _), (79, _)]) rfl ?_
         refine k_then_n ?_
         refine c_exit ?_
         refine k_blk_here ?_
         refine k_blk_n ?_
         refine k_then_n ?_
         refine s_eq 5 rfl (v' := .slice ao85 (L ++ ([w.2.1])).length cp85) (by first | rfl | (congr 1; done) | (congr 1 <;> first | rfl | omega | (simp; done) | (simp; omega))) ?_
         refine loop_next (x := (vis, L, la, lc)) ((vis ++ [q], (L ++ ([w.2.1])), ao85, cp85)) ?_ ?_ ?_ ?_
         · try dsimp only
           exact ⟨nodup_snoc hnd hnk, fun z hz => (List.mem_append.1 hz).elim (hvk z) (fun h => (List.mem_singleton.1 h) ▸ hqk), by rw [flat_snoc, ← hL]; (rw [agK_go (by first | assumption | omega) (by first | assumption | omega) hkv]; split <;> split <;> first | (exfalso; omega) | simp; done)⟩
         · show N_rr - (vis ++ [q]).length < N_rr - vis.length; rw [List.length_append]; simp; omega
         · exact ⟨rfl, rfl, rfl, rfl, trivial⟩
         · (try simp only [List.cons_append, List.nil_append]); exact Tf
        ·
         refine c_skip ?_
         refine k_then_n ?_
         refine c_exit ?_
         refine k_blk_here ?_
         refine k_blk_n ?_
         refine k_then_n ?_
         refine loop_next (x := (vis, L, la, lc)) ((vis ++ [q], L, la, lc)) ?_ ?_ ?_ ?_
         · try dsimp only
           exact ⟨nodup_snoc hnd hnk, fun z hz => (List.mem_append.1 hz).elim (hvk z) (fun h => (List.mem_singleton.1 h) ▸ hqk), by rw [flat_snoc, ← hL]; (rw [agK_go (by first | assumption | omega) (by first | assumption | omega) hkv]; split <;> split <;> first | (exfalso; omega) | simp; done)⟩
         · show N_rr - (vis ++ [q]).length < N_rr - vis.length; rw [List.length_append]; simp; omega
         · exact ⟨rfl, rfl, rfl, rfl, trivial⟩
         · (try simp only [List.cons_append, List.nil_append]); exact Tf
       ·
        refine q_skip rfl rfl rfl rfl ?_
        refine q_skip rfl rfl rfl rfl ?_
        refine q_skip rfl rfl rfl rfl ?_
        refine q_skip rfl rfl rfl rfl ?_
        refine q_pick_f rfl rfl rfl rfl rfl ?_
        refine r_done ?_
        refine s_keep [3, 5, 6, 8, 32, 44, 45, 46, 47, 48, 62, 63, 64, 65, 76, 77, 78, 79, 80] (e' := [(3, _), (5, _), (6, _), (8, _), (32, _), (44, _), (45, _), (46, _), (47, _), (48, _), (62, _), (63, _), (64, _), (65, _), (76, _), (77, _), (78, _), (79, _), (80, _)]) rfl ?_
        refine k_then_n ?_
        refine c_cond_f rfl ?_
        refine c_skip ?_
        refine k_then_n ?_
        refine c_exit ?_
        refine k_blk_here ?_
        refine k_blk_n ?_
        refine k_then_n ?_
        refine loop_next (x := (vis, L, la, lc)) ((vis ++ [q], L, la, lc)) ?_ ?_ ?_ ?_
        · try dsimp only
          exact ⟨nodup_snoc hnd hnk, fun z hz => (List.mem_append.1 hz).elim (hvk z) (fun h => (List.mem_singleton.1 h) ▸ hqk), by rw [flat_snoc, ← hL]; (rw [agK_go (by first | assumption | omega) (by first | assumption | omega) hkv]; split <;> split <;> first | (exfalso; omega) | simp; done)⟩
        · show N_rr - (vis ++ [q]).length < N_rr - vis.length; rw [List.length_append]; simp; omega
        · exact ⟨rfl, rfl, rfl, rfl, trivial⟩
        · (try simp only [List.cons_append, List.nil_append]); exact Tf
     ·
      refine c_skip ?_
      refine k_then_n ?_
      refine c_exit ?_
      refine k_blk_out rfl ?_
      refine k_then_exit ?_
      refine k_blk_here ?_
      refine k_then_n ?_
      refine c_seq ?_
      refine c_seq ?_
      refine c_plain (.q 0 (.q 1 (.q 2 (.q 3 (.q 4 (.q 5 (.q 6 (.q 7 (.q 8 (.done)))))))))) (by kernel_rfl) ?_
      refine q_field (k := 1) rfl rfl rfl rfl Try.underlying39 rfl Try.sizeOf3 rfl ?_
      refine q_load_c (j := 1) rfl rfl rfl rfl Try.isAgg3 Tk (by first | rfl | exact (Nat.add_zero _).symm) (by rfl) ?_
      refine q_int rfl rfl rfl rfl rfl (b_geq _ _ _ _) ?_
      refine q_move rfl rfl rfl rfl ?_
      refine s_bool_p 75 rfl (fun w0 => ?_) (fun w0 => ?_)
      ·
       refine q_field (k := 3) rfl rfl rfl rfl Try.underlying39 rfl Try.sizeOf37 rfl ?_
       refine q_load_c (j := 3) rfl rfl rfl rfl Try.isAgg37 Tk (by first | rfl | exact (Nat.add_zero _).symm) (by rfl) ?_
       refine q_move rfl rfl rfl rfl ?_
       refine q_int rfl rfl rfl rfl rfl (b_gtr _ _ _ _) ?_
       refine q_pick_t rfl rfl rfl rfl rfl ?_
       refine r_done ?_
       refine s_keep [3, 5, 6, 8, 32, 44, 45, 46, 47, 48, 76, 77, 78, 79, 80] (e' := [(3, _), (5, _), (6, _), (8, _), (32, _), (44, _), (45, _), (46, _), (47, _), (48, _), (76, _), (77, _), (78, _), (79, _), (80, _)]) rfl ?_
       refine k_then_n ?_
       refine c_cond_p rfl (fun w1 => ?_) (fun w1 => ?_)
       ·
        refine c_plain (.q 0 (.q 1 (.q 2 ((.l 3 [] ((.l 4 [] (.q 5 (.done))))))))) (by kernel_rfl) ?_
        refine q_move rfl rfl rfl rfl ?_
        refine q_field (k := 1) rfl rfl rfl rfl Try.underlying39 rfl Try.sizeOf3 rfl ?_
        refine q_load_c (j := 1) rfl rfl rfl rfl Try.isAgg3 Tk (by first | rfl | exact (Nat.add_zero _).symm) (by rfl) ?_
        refine l_buildSlice rfl rfl rfl rfl (run_build1 (us := [_]) Try.underlying23 Try.sizeOf3 rfl Try.zeroValue3 rfl rfl rfl) ?_
        intro b84
        refine ag_nil ?_
        refine l_append (sz := 1) (enc := encZ) (xs := L) rfl rfl rfl rfl rfl Try.underlying23 Try.typeInfo3 rfl rfl rfl (by decide) Tk Tk (by first | rfl | omega | (simp; done) | (simp; omega)) (ys := [w.2.1]) (rds_some rdn_cells) (by rfl) (by first | rfl | omega) (encZ_len) (encZ_one) (by omega) (by show _ * 8 ≤ _; omega) ?_
        intro ao85 cp85
        refine ag_nil ?_
        refine q_assign rfl rfl rfl rfl ?_
        refine r_done ?_
        refine s_keep [3, 5, 6, 32, 44, 45, 46, 47, 48, 76, 77, 78, 79] (e' := [(3, _), (5, _), (6, _), (32, _), (44, _), (45, _), (46, _), (47, _), (48, _), (76, _), (77, _), (78, _), (79, _)]) rfl ?_
        refine k_then_n ?_
        refine c_exit ?_
        refine k_blk_here ?_
        refine k_blk_n ?_
        refine k_then_n ?_
        refine s_eq 5 rfl (v' := .slice ao85 (L ++ ([w.2.1])).length cp85) (by first | rfl | (congr 1; done) | (congr 1 <;> first | rfl | omega | (simp; done) | (simp; omega))) ?_
        refine loop_next (x := (vis, L, la, lc)) ((vis ++ [q], (L ++ ([w.2.1])), ao85, cp85)) ?_ ?_ ?_ ?_
        · try dsimp only
          exact ⟨nodup_snoc hnd hnk, fun z hz => (List.mem_append.1 hz).elim (hvk z) (fun h => (List.mem_singleton.1 h) ▸ hqk), by rw [flat_snoc, ← hL]; (rw [agK_go (by first | assumption | omega) (by first | assumption | omega) hkv]; split <;> split <;> first | (exfalso; omega) | simp; done)⟩
        · show N_rr - (vis ++ [q]).length < N_rr - vis.length; rw [List.length_append]; simp; omega
        · exact ⟨rfl, rfl, rfl, rfl, trivial⟩
        · (try simp only [List.cons_append, List.nil_append]); exact Tf
       ·
        refine c_skip ?_
        refine k_then_n ?_
        refine c_exit ?_
        refine k_blk_here ?_
        refine k_blk_n ?_
        refine k_then_n ?_
        refine loop_next (x := (vis, L, la, lc)) ((vis ++ [q], L, la, lc)) ?_ ?_ ?_ ?_
        · try dsimp only
          exact ⟨nodup_snoc hnd hnk, fun z hz => (List.mem_append.1 hz).elim (hvk z) (fun h => (List.mem_singleton.1 h) ▸ hqk), by rw [flat_snoc, ← hL]; (rw [agK_go (by first | assumption | omega) (by first | assumption | omega) hkv]; split <;> split <;> first | (exfalso; omega) | simp; done)⟩
        · show N_rr - (vis ++ [q]).length < N_rr - vis.length; rw [List.length_append]; simp; omega
        · exact ⟨rfl, rfl, rfl, rfl, trivial⟩
        · (try simp only [List.cons_append, List.nil_append]); exact Tf
      ·
       refine q_skip rfl rfl rfl rfl ?_
       refine q_skip rfl rfl rfl rfl ?_
       refine q_skip rfl rfl rfl rfl ?_
       refine q_skip rfl rfl rfl rfl ?_
       refine q_pick_f rfl rfl rfl rfl rfl ?_
       refine r_done ?_
       refine s_keep [3, 5, 6, 8, 32, 44, 45, 46, 47, 48, 76, 77, 78, 79, 80] (e' := [(3, _), (5, _), (6, _), (8, _), (32, _), (44, _), (45, _), (46, _), (47, _), (48, _), (76, _), (77, _), (78, _), (79, _), (80, _)]) rfl ?_
       refine k_then_n ?_
       refine c_cond_f rfl ?_
       refine c_skip ?_
       refine k_then_n ?_
       refine c_exit ?_
       refine k_blk_here ?_
       refine k_blk_n ?_
       refine k_then_n ?_
       refine loop_next (x := (vis, L, la, lc)) ((vis ++ [q], L, la, lc)) ?_ ?_ ?_ ?_
       · try dsimp only
         exact ⟨nodup_snoc hnd hnk, fun z hz => (List.mem_append.1 hz).elim (hvk z) (fun h => (List.mem_singleton.1 h) ▸ hqk), by rw [flat_snoc, ← hL]; (rw [agK_go (by first | assumption | omega) (by first | assumption | omega) hkv]; split <;> split <;> first | (exfalso; omega) | simp; done)⟩
       · show N_rr - (vis ++ [q]).length < N_rr - vis.length; rw [List.length_append]; simp; omega
       · exact ⟨rfl, rfl, rfl, rfl, trivial⟩
       · (try simp only [List.cons_append, List.nil_append]); exact Tf
end Go.Ab.Hi
