/- What the threads know of one another: an event. -/
import Derived.Test.YtkoclbjiaofkhaaDj2
set_option linter.unusedVariables false
set_option linter.unusedSimpArgs false
set_option maxRecDepth 100000
namespace Go.Ab.Dj
open Go Go.Proofs Go.Ab Go.Ab.Fe Go.Ab.Vc
theorem vn5 {x : VS} {k t o : Int} {l : List Int} (h : x.th t = some l) (hk : k = 5) : vnF x k t o = ⟨nxF x.ck k t o, upd x.th t (some (mgF (x.lk o) l)), x.lk, x.vo, x.rd⟩ := by rw [vnF, if_pos hk, thF_eq h]
theorem vn3 {x : VS} {k t o : Int} {l : List Int} (h : x.th t = some l) (hk : k = 3) : vnF x k t o = ⟨nxF x.ck k t o, upd x.th t (some (mgF (x.vo o) l)), x.lk, x.vo, x.rd⟩ := by rw [vnF, if_neg (by omega), if_pos hk, thF_eq h]
theorem vn8 {x : VS} {k t o : Int} {l : List Int} (h : x.th t = some l) (hk : k = 8) : vnF x k t o = ⟨nxF x.ck k t o, upd x.th t (some (mgF (x.th o) l)), x.lk, x.vo, x.rd⟩ := by rw [vnF, if_neg (by omega), if_neg (by omega), if_pos hk, thF_eq h]
theorem vn10 {x : VS} {k t o : Int} {l : List Int} (h : x.th t = some l) (hk : k = 10) : vnF x k t o = ⟨nxF x.ck k t o, (dpF x t o).th, (dpF x t o).lk, (dpF x t o).vo, (dpF x t o).rd⟩ := by rw [vnF, if_neg (by omega), if_neg (by omega), if_neg (by omega), if_pos hk]; rfl
theorem vn6 {x : VS} {k t o : Int} {l : List Int} (h : x.th t = some l) (hk : k = 6) : vnF x k t o = ⟨nxF x.ck k t o, upd x.th t (some (icL l t.toNat)), upd x.lk o (some l), x.vo, x.rd⟩ := by rw [vnF, if_neg (by omega), if_neg (by omega), if_neg (by omega), if_neg (by omega), if_pos hk, thF_eq h]
theorem vn4 {x : VS} {k t o : Int} {l : List Int} (h : x.th t = some l) (hk : k = 4) : vnF x k t o = ⟨nxF x.ck k t o, upd x.th t (some (icL l t.toNat)), x.lk, upd x.vo o (some (mgF (x.vo o) l)), x.rd⟩ := by rw [vnF, if_neg (by omega), if_neg (by omega), if_neg (by omega), if_neg (by omega), if_neg (by omega), if_pos hk, thF_eq h]
theorem vn9 {x : VS} {k t o : Int} {l : List Int} (h : x.th t = some l) (hk : k = 9) : vnF x k t o = ⟨nxF x.ck k t o, upd x.th t (some (icL l t.toNat)), x.lk, x.vo, upd x.rd (o, (opF x.ck o).1) (some (mgF ((x.rd (o, (opF x.ck o).1)).map (·.1)) l, x.ck.pa.getD o.toNat 0))⟩ := by rw [vnF, if_neg (by omega), if_neg (by omega), if_neg (by omega), if_neg (by omega), if_neg (by omega), if_neg (by omega), if_pos hk, thF_eq h]
theorem vn7 {x : VS} {k t o : Int} {l : List Int} (h : x.th t = some l) (hk : k = 7) : vnF x k t o = ⟨nxF x.ck k t o, upd (upd x.th o (some (stL l o.toNat 1))) t (some (icL l t.toNat)), x.lk, x.vo, x.rd⟩ := by rw [vnF, if_neg (by omega), if_neg (by omega), if_neg (by omega), if_neg (by omega), if_neg (by omega), if_neg (by omega), if_neg (by omega), if_pos hk, thF_eq h]
theorem vn0 {x : VS} {k t o : Int} (k5 : k ≠ 5) (k3 : k ≠ 3) (k8 : k ≠ 8) (k10 : k ≠ 10) (k6 : k ≠ 6) (k4 : k ≠ 4) (k9 : k ≠ 9) (k7 : k ≠ 7) : vnF x k t o = ⟨nxF x.ck k t o, x.th, x.lk, x.vo, x.rd⟩ := by simp [vnF, *]
theorem nx_pa (x : CS) (k t o : Int) : (nxF x k t o).pa = x.pa := by
  unfold nxF
  split
  · unfold nextF
    repeat (split; · rfl)
    rfl
  · rfl
theorem map_fst_cv {x : VS} (hx : VInv x) {r : Int × Int} {q : List Int} (h : (x.rd r).map (·.1) = some q) : CV q := by
  cases hr : x.rd r with
  | none => rw [hr] at h; cases h
  | some p => rw [hr] at h; cases h; exact hx.rdc _ _ hr
theorem nxE_can {x : CS} {k t o : Int} (h : canF x k t o) : nxE x k t o = 0 := if_pos h
theorem join_ne {x : CS} {t : Int} {k : Int} (hc : canF x k t t) (hk : k = 8) : False := by
  rcases hc with ⟨h1, h2, -⟩ | ⟨h1, -, h2⟩
  · omega
  · unfold okK at h2
    rcases h2 with h | h | h | h | h | h | h | h <;> omega
theorem next_spec (pa : Option Addr) (pc : Nat) (po : Option Addr) (poc b : Nat) (x : VS) (hx : VInv x) (hn : x.ck.n ≤ 1000000000000000) (pl : List Int) (hpl : x.ck.pa = pl) (k t o : Int) (hvc : vcanF x k t o) : Spec Try.prog 49 [.pointer (some ⟨b, 0, none⟩), .agg #[.int .i64 k, .int .i64 t, .int .i64 o]] [vsR pa pc po poc b x, own 1 encZ pa pc pl, own 1 encZ po poc pl] (fun (_ : Unit) => .tuple #[]) (fun _ => True) (fun _ => [vsR pa pc po poc b (vnF x k t o), own 1 encZ pa pc pl, own 1 encZ po poc pl]) := by
 refine spec_mk (n := 178) Try.func49 rfl rfl rfl ?_
 intro Γ w0
 simp only [argE, List.cons_append, List.nil_append, Nat.zero_add, Nat.reduceAdd]
 refine c_seq ?_
 refine c_plain ((.l 0 [] (.done))) (by kernel_rfl) ?_
 refine l_box rfl rfl rfl rfl (us := [_, _, _]) rfl ?_
 intro b3
 refine ag_nil ?_
 refine r_done ?_
 refine k_then_n ?_
 refine c_seq ?_
 obtain ⟨hc, hlt⟩ := hvc
 obtain ⟨l, hth⟩ := th_some hx (can_th hc)
 obtain ⟨h0, h1⟩ := th_rng hx (can_th hc)
 rw [thF_eq hth] at hlt
 have hlc := hx.thc _ _ hth
 have hlen := hlc.len
 obtain ⟨o5, o7, o9, o10, o11⟩ := can_obj hx.ck hc
 have hsh := hx.ck.sh
 refine s_take (A := vsR pa pc po poc b x) (by with_reducible (repeat (first | exact Z0 | apply Z1))) ?_
 refine vs_open fun cb m1 m2 m3 m4 F1 F2 F3 F4 => ?_
 refine s_rest_take (F := F1) (T := x.th) (S := []) t (by with_reducible (repeat (first | exact Z0 | apply Z1))) (by simp) hth fun tv htF => ?_
 refine s_vec (by with_reducible (repeat (first | exact Z0 | apply Z1))) fun tb ta tc hta => ?_
 subst hta
 refine c_draw rfl (.q 0 (.q 1 (.q 2 (.q 3 (.q 4 (.q 5 (.q 6 (.q 7 (.done))))))))) (by kernel_rfl) ?_
 refine q_move rfl rfl rfl rfl ?_
 refine q_nil_p rfl rfl rfl rfl ?_
 refine q_field (k := 2) rfl rfl rfl rfl Try.underlying87 rfl Try.sizeOf84 rfl ?_
 refine q_load_c (j := 2) rfl rfl rfl rfl Try.isAgg84 (by with_reducible (repeat (first | exact Z0 | apply Z1))) (by first | rfl | exact (Nat.add_zero _).symm) (by rfl) ?_
 refine q_field (k := 1) rfl rfl rfl rfl Try.underlying40 rfl Try.sizeOf3 rfl ?_
 refine q_load_c (j := 1) rfl rfl rfl rfl Try.isAgg3 (by with_reducible (repeat (first | exact Z0 | apply Z1))) (by first | rfl | exact (Nat.add_zero _).symm) (by rfl) ?_
 refine q_lookup1 (ek := ekZ) (ev1 := evA) (F := F1) (m := m1) (k := t) none rfl rfl rfl rfl rfl Try.underlying84 (keyOK_int Try.underlying3) Try.zeroValue82 (by with_reducible (repeat (first | exact Z0 | apply Z1))) ?_
 refine s_eq 15 rfl (v' := .pointer (some ⟨tb, 0, none⟩)) (by rw [htF]; rfl) ?_
 refine q_assign rfl rfl rfl rfl ?_
 refine r_done ?_
 refine s_keep [0, 3, 4] (e' := [(0, _), (3, _), (4, _)]) rfl ?_
 refine k_then_n ?_
 refine c_seq ?_
 refine c_seq ?_
 refine c_plain (.q 0 (.q 1 (.done))) (by kernel_rfl) ?_
 refine q_field (k := 0) rfl rfl rfl rfl Try.underlying40 rfl Try.sizeOf38 rfl ?_
 refine q_load_c (j := 0) rfl rfl rfl rfl Try.isAgg38 (by with_reducible (repeat (first | exact Z0 | apply Z1))) (by first | rfl | exact (Nat.add_zero _).symm) (by rfl) ?_
 refine r_done ?_
 refine k_then_n ?_
 refine c_block ?_
 refine c_seq ?_
 refine c_plain (.q 0 (.q 1 (.done))) (by kernel_rfl) ?_
 refine q_int rfl rfl rfl rfl rfl (b_eql _ _ _ _) ?_
 refine q_assign rfl rfl rfl rfl ?_
 refine r_done ?_
 refine k_then_n ?_
 refine c_cond_p rfl (fun k5 => ?_) (fun k5 => ?_)
 ·
  refine s_rest_opt (F := F2) (T := x.lk) (S := []) o (by with_reducible (repeat (first | exact Z0 | apply Z1))) (by simp) fun hso => ?_
  refine c_draw rfl (.q 0 (.q 1 (.q 2 (.q 3 (.q 4 (.q 5 (.q 6 (.q 7 (.q 8 (.q 9 (.q 10 (.q 11 (.q 12 (.q 13 ((.l 14 [3, 5] ((.l 15 [] (.done))))))))))))))))))) (by kernel_rfl) ?_
  refine q_move rfl rfl rfl rfl ?_
  refine q_nil_p rfl rfl rfl rfl ?_
  refine q_field (k := 2) rfl rfl rfl rfl Try.underlying87 rfl Try.sizeOf84 rfl ?_
  refine q_load_c (j := 2) rfl rfl rfl rfl Try.isAgg84 (by with_reducible (repeat (first | exact Z0 | apply Z1))) (by first | rfl | exact (Nat.add_zero _).symm) (by rfl) ?_
  refine q_field (k := 1) rfl rfl rfl rfl Try.underlying40 rfl Try.sizeOf3 rfl ?_
  refine q_load_c (j := 1) rfl rfl rfl rfl Try.isAgg3 (by with_reducible (repeat (first | exact Z0 | apply Z1))) (by first | rfl | exact (Nat.add_zero _).symm) (by rfl) ?_
  refine q_move rfl rfl rfl rfl ?_
  refine q_nil_p rfl rfl rfl rfl ?_
  refine q_field (k := 3) rfl rfl rfl rfl Try.underlying87 rfl Try.sizeOf84 rfl ?_
  refine q_load_c (j := 3) rfl rfl rfl rfl Try.isAgg84 (by with_reducible (repeat (first | exact Z0 | apply Z1))) (by first | rfl | exact (Nat.add_zero _).symm) (by rfl) ?_
  refine q_field (k := 2) rfl rfl rfl rfl Try.underlying40 rfl Try.sizeOf3 rfl ?_
  refine q_load_c (j := 2) rfl rfl rfl rfl Try.isAgg3 (by with_reducible (repeat (first | exact Z0 | apply Z1))) (by first | rfl | exact (Nat.add_zero _).symm) (by rfl) ?_
  refine q_lookup1 (ek := ekZ) (ev1 := evA) (F := F2) (m := m2) (k := o) none rfl rfl rfl rfl rfl Try.underlying84 (keyOK_int Try.underlying3) Try.zeroValue82 (by with_reducible (repeat (first | exact Z0 | apply Z1))) ?_
  refine q_move rfl rfl rfl rfl ?_
  have sp_1 := merged_spec ((F2 o).getD none) (x.lk o) (hx.lkc _) tb l ta tc hlc
  refine l_call rfl rfl rfl rfl rfl rfl Try.call67 (sp_1) (by (repeat ((with_reducible apply Z2); focus (first | (with_reducible (repeat (first | exact Z0 | apply Z1)); done) | (repeat (first | exact Z0 | apply Z1))))); exact Z3) ?_
  rintro ⟨mb, ma, mc⟩ -
  try simp only [List.cons_append, List.nil_append]
  refine ag_load_c (q := 2) rfl rfl rfl Try.isAgg84 (by with_reducible (repeat (first | exact Z0 | apply Z1))) (by first | rfl | exact (Nat.add_zero _).symm) (by rfl) ?_
  refine ag_load_c (q := 1) rfl rfl rfl Try.isAgg3 (by with_reducible (repeat (first | exact Z0 | apply Z1))) (by first | rfl | exact (Nat.add_zero _).symm) (by rfl) ?_
  refine ag_nil ?_
  refine l_mapUpd (ek := ekZ) (ev1 := evA) (F := F1) (m := m1) (k := t) (v := (some ⟨mb, 0, none⟩ : Option Addr)) (by first | exact .inl rfl | exact .inr rfl) rfl rfl rfl rfl Try.underlying84 (keyOK_int Try.underlying3) (by with_reducible (repeat (first | exact Z0 | apply Z1))) ?_
  refine ag_nil ?_
  refine r_done ?_
  refine s_opt_back (F := F2) (T := x.lk) (S := []) o (by (repeat ((with_reducible apply Z2); focus (first | (with_reducible (repeat (first | exact Z0 | apply Z1)); done) | (repeat (first | exact Z0 | apply Z1))))); exact Z3) (by simp) hso ?_
  refine s_vecF mb ma mc (mgF (x.lk o) l) (by (repeat ((with_reducible apply Z2); focus (first | (with_reducible (repeat (first | exact Z0 | apply Z1)); done) | (repeat (first | exact Z0 | apply Z1))))); exact Z3) ?_
  refine s_rest_put (F := F1) (T := x.th) (S := []) t (upd F1 t (some (some ⟨mb, 0, none⟩ : Option Addr))) (upd x.th t (some (mgF (x.lk o) l))) (by (repeat ((with_reducible apply Z2); focus (first | (with_reducible (repeat (first | exact Z0 | apply Z1)); done) | (repeat (first | exact Z0 | apply Z1))))); exact Z3) (by simp) upd_same (fun q h _ => upd_ne h) upd_same (fun q h _ => upd_ne h) ?_
  refine s_keep [0, 3] (e' := [(0, _), (3, _)]) rfl ?_
  refine k_blk_n ?_
  refine k_then_n ?_
  refine c_draw rfl (.q 0 (.q 1 (.q 2 (.q 3 (.q 4 ((.l 5 [] (.done)))))))) (by kernel_rfl) ?_
  refine q_move rfl rfl rfl rfl ?_
  refine q_nil_p rfl rfl rfl rfl ?_
  refine q_field (k := 0) rfl rfl rfl rfl Try.underlying87 rfl Try.sizeOf83 rfl ?_
  refine q_load_c (j := 0) rfl rfl rfl rfl Try.isAgg83 (by with_reducible (repeat (first | exact Z0 | apply Z1))) (by first | rfl | exact (Nat.add_zero _).symm) (by rfl) ?_
  refine q_loadN_c rfl rfl rfl rfl Try.isAgg40 Try.sizeOf40 (by with_reducible (repeat (first | exact Z0 | apply Z1))) 0 (us := [_, _, _]) (by first | rfl | exact (Nat.add_zero _).symm) rfl rfl ?_
  have sp_2 := Fe.next_spec pa pc cb x.ck hx.ck (by first | exact hn | omega) pl (hpl) k t o
  refine l_call rfl rfl rfl rfl rfl rfl Try.call72 (sp_2) (by (repeat ((with_reducible apply Z2); focus (first | (with_reducible (repeat (first | exact Z0 | apply Z1)); done) | (repeat (first | exact Z0 | apply Z1))))); exact Z3) ?_
  rintro ⟨⟩ -
  try simp only [List.cons_append, List.nil_append]
  refine ag_nil ?_
  refine r_done ?_
  refine s_keep [] (e' := []) rfl ?_
  refine ret_end ?_
  refine vs_fold (b := b) (vnF x k t o) (pa := pa) (pc := pc) (po := po) (poc := poc) (cb := cb) (m1 := m1) (m2 := m2) (m3 := m3) (m4 := m4) (by (repeat ((with_reducible apply Z2); focus (first | (with_reducible (repeat (first | exact Z0 | apply Z1)); done) | (repeat (first | exact Z0 | apply Z1))))); exact Z3) (by exact vn5 hth k5) (by rw [nx_pa]) ?_
  refine ret0 rfl (()) (by first | rfl | (first | rfl | (congr 1; done) | (congr 1 <;> first | rfl | omega | (simp; done) | (simp; omega)))) (by trivial) ?_
  (repeat ((with_reducible apply Z2); focus (first | (with_reducible (repeat (first | exact Z0 | apply Z1)); done) | (repeat (first | exact Z0 | apply Z1))))); (repeat (first | exact Z3 | exact Takes.self | refine takes_drop2 ?_))
 ·
  refine c_seq ?_
  refine c_plain (.q 0 (.q 1 (.done))) (by kernel_rfl) ?_
  refine q_int rfl rfl rfl rfl rfl (b_eql _ _ _ _) ?_
  refine q_assign rfl rfl rfl rfl ?_
  refine r_done ?_
  refine s_keep [0, 3, 4, 17, 35] (e' := [(0, _), (3, _), (4, _), (17, _), (35, _)]) rfl ?_
  refine k_then_n ?_
  refine c_cond_p rfl (fun k3 => ?_) (fun k3 => ?_)
  ·
   refine s_rest_opt (F := F3) (T := x.vo) (S := []) o (by with_reducible (repeat (first | exact Z0 | apply Z1))) (by simp) fun hso => ?_
   refine c_draw rfl (.q 0 (.q 1 (.q 2 (.q 3 (.q 4 (.q 5 (.q 6 (.q 7 (.q 8 (.q 9 (.q 10 (.q 11 (.q 12 (.q 13 ((.l 14 [3, 5] ((.l 15 [] (.done))))))))))))))))))) (by kernel_rfl) ?_
   refine q_move rfl rfl rfl rfl ?_
   refine q_nil_p rfl rfl rfl rfl ?_
   refine q_field (k := 2) rfl rfl rfl rfl Try.underlying87 rfl Try.sizeOf84 rfl ?_
   refine q_load_c (j := 2) rfl rfl rfl rfl Try.isAgg84 (by with_reducible (repeat (first | exact Z0 | apply Z1))) (by first | rfl | exact (Nat.add_zero _).symm) (by rfl) ?_
   refine q_field (k := 1) rfl rfl rfl rfl Try.underlying40 rfl Try.sizeOf3 rfl ?_
   refine q_load_c (j := 1) rfl rfl rfl rfl Try.isAgg3 (by with_reducible (repeat (first | exact Z0 | apply Z1))) (by first | rfl | exact (Nat.add_zero _).symm) (by rfl) ?_
   refine q_move rfl rfl rfl rfl ?_
   refine q_nil_p rfl rfl rfl rfl ?_
   refine q_field (k := 4) rfl rfl rfl rfl Try.underlying87 rfl Try.sizeOf84 rfl ?_
   refine q_load_c (j := 4) rfl rfl rfl rfl Try.isAgg84 (by with_reducible (repeat (first | exact Z0 | apply Z1))) (by first | rfl | exact (Nat.add_zero _).symm) (by rfl) ?_
   refine q_field (k := 2) rfl rfl rfl rfl Try.underlying40 rfl Try.sizeOf3 rfl ?_
   refine q_load_c (j := 2) rfl rfl rfl rfl Try.isAgg3 (by with_reducible (repeat (first | exact Z0 | apply Z1))) (by first | rfl | exact (Nat.add_zero _).symm) (by rfl) ?_
   refine q_lookup1 (ek := ekZ) (ev1 := evA) (F := F3) (m := m3) (k := o) none rfl rfl rfl rfl rfl Try.underlying84 (keyOK_int Try.underlying3) Try.zeroValue82 (by with_reducible (repeat (first | exact Z0 | apply Z1))) ?_
   refine q_move rfl rfl rfl rfl ?_
   have sp_3 := merged_spec ((F3 o).getD none) (x.vo o) (hx.voc _) tb l ta tc hlc
   refine l_call rfl rfl rfl rfl rfl rfl Try.call67 (sp_3) (by (repeat ((with_reducible apply Z2); focus (first | (with_reducible (repeat (first | exact Z0 | apply Z1)); done) | (repeat (first | exact Z0 | apply Z1))))); exact Z3) ?_
   rintro ⟨mb, ma, mc⟩ -
   try simp only [List.cons_append, List.nil_append]
   refine ag_load_c (q := 2) rfl rfl rfl Try.isAgg84 (by with_reducible (repeat (first | exact Z0 | apply Z1))) (by first | rfl | exact (Nat.add_zero _).symm) (by rfl) ?_
   refine ag_load_c (q := 1) rfl rfl rfl Try.isAgg3 (by with_reducible (repeat (first | exact Z0 | apply Z1))) (by first | rfl | exact (Nat.add_zero _).symm) (by rfl) ?_
   refine ag_nil ?_
   refine l_mapUpd (ek := ekZ) (ev1 := evA) (F := F1) (m := m1) (k := t) (v := (some ⟨mb, 0, none⟩ : Option Addr)) (by first | exact .inl rfl | exact .inr rfl) rfl rfl rfl rfl Try.underlying84 (keyOK_int Try.underlying3) (by with_reducible (repeat (first | exact Z0 | apply Z1))) ?_
   refine ag_nil ?_
   refine r_done ?_
   refine s_opt_back (F := F3) (T := x.vo) (S := []) o (by (repeat ((with_reducible apply Z2); focus (first | (with_reducible (repeat (first | exact Z0 | apply Z1)); done) | (repeat (first | exact Z0 | apply Z1))))); exact Z3) (by simp) hso ?_
   refine s_vecF mb ma mc (mgF (x.vo o) l) (by (repeat ((with_reducible apply Z2); focus (first | (with_reducible (repeat (first | exact Z0 | apply Z1)); done) | (repeat (first | exact Z0 | apply Z1))))); exact Z3) ?_
   refine s_rest_put (F := F1) (T := x.th) (S := []) t (upd F1 t (some (some ⟨mb, 0, none⟩ : Option Addr))) (upd x.th t (some (mgF (x.vo o) l))) (by (repeat ((with_reducible apply Z2); focus (first | (with_reducible (repeat (first | exact Z0 | apply Z1)); done) | (repeat (first | exact Z0 | apply Z1))))); exact Z3) (by simp) upd_same (fun q h _ => upd_ne h) upd_same (fun q h _ => upd_ne h) ?_
   refine s_keep [0, 3] (e' := [(0, _), (3, _)]) rfl ?_
   refine k_blk_n ?_
   refine k_then_n ?_
   refine c_draw rfl (.q 0 (.q 1 (.q 2 (.q 3 (.q 4 ((.l 5 [] (.done)))))))) (by kernel_rfl) ?_
   refine q_move rfl rfl rfl rfl ?_
   refine q_nil_p rfl rfl rfl rfl ?_
   refine q_field (k := 0) rfl rfl rfl rfl Try.underlying87 rfl Try.sizeOf83 rfl ?_
   refine q_load_c (j := 0) rfl rfl rfl rfl Try.isAgg83 (by with_reducible (repeat (first | exact Z0 | apply Z1))) (by first | rfl | exact (Nat.add_zero _).symm) (by rfl) ?_
   refine q_loadN_c rfl rfl rfl rfl Try.isAgg40 Try.sizeOf40 (by with_reducible (repeat (first | exact Z0 | apply Z1))) 0 (us := [_, _, _]) (by first | rfl | exact (Nat.add_zero _).symm) rfl rfl ?_
   have sp_4 := Fe.next_spec pa pc cb x.ck hx.ck (by first | exact hn | omega) pl (hpl) k t o
   refine l_call rfl rfl rfl rfl rfl rfl Try.call72 (sp_4) (by (repeat ((with_reducible apply Z2); focus (first | (with_reducible (repeat (first | exact Z0 | apply Z1)); done) | (repeat (first | exact Z0 | apply Z1))))); exact Z3) ?_
   rintro ⟨⟩ -
   try simp only [List.cons_append, List.nil_append]
   refine ag_nil ?_
   refine r_done ?_
   refine s_keep [] (e' := []) rfl ?_
   refine ret_end ?_
   refine vs_fold (b := b) (vnF x k t o) (pa := pa) (pc := pc) (po := po) (poc := poc) (cb := cb) (m1 := m1) (m2 := m2) (m3 := m3) (m4 := m4) (by (repeat ((with_reducible apply Z2); focus (first | (with_reducible (repeat (first | exact Z0 | apply Z1)); done) | (repeat (first | exact Z0 | apply Z1))))); exact Z3) (by exact vn3 hth k3) (by rw [nx_pa]) ?_
   refine ret0 rfl (()) (by first | rfl | (first | rfl | (congr 1; done) | (congr 1 <;> first | rfl | omega | (simp; done) | (simp; omega)))) (by trivial) ?_
   (repeat ((with_reducible apply Z2); focus (first | (with_reducible (repeat (first | exact Z0 | apply Z1)); done) | (repeat (first | exact Z0 | apply Z1))))); (repeat (first | exact Z3 | exact Takes.self | refine takes_drop2 ?_))
  ·
   refine c_seq ?_
   refine c_plain (.q 0 (.q 1 (.done))) (by kernel_rfl) ?_
   refine q_int rfl rfl rfl rfl rfl (b_eql _ _ _ _) ?_
   refine q_assign rfl rfl rfl rfl ?_
   refine r_done ?_
   refine k_then_n ?_
   refine c_cond_p rfl (fun k8 => ?_) (fun k8 => ?_)
   ·
    have hne : o ≠ t := by
      intro e; rw [e] at hc
      exact join_ne hc k8
    refine s_rest_opt (F := F1) (T := x.th) (S := [t]) o (by with_reducible (repeat (first | exact Z0 | apply Z1))) (by simpa using hne) fun hso => ?_
    refine c_draw rfl (.q 0 (.q 1 (.q 2 (.q 3 (.q 4 (.q 5 (.q 6 (.q 7 (.q 8 (.q 9 (.q 10 (.q 11 (.q 12 (.q 13 ((.l 14 [3, 5] ((.l 15 [] (.done))))))))))))))))))) (by kernel_rfl) ?_
    refine q_move rfl rfl rfl rfl ?_
    refine q_nil_p rfl rfl rfl rfl ?_
    refine q_field (k := 2) rfl rfl rfl rfl Try.underlying87 rfl Try.sizeOf84 rfl ?_
    refine q_load_c (j := 2) rfl rfl rfl rfl Try.isAgg84 (by with_reducible (repeat (first | exact Z0 | apply Z1))) (by first | rfl | exact (Nat.add_zero _).symm) (by rfl) ?_
    refine q_field (k := 1) rfl rfl rfl rfl Try.underlying40 rfl Try.sizeOf3 rfl ?_
    refine q_load_c (j := 1) rfl rfl rfl rfl Try.isAgg3 (by with_reducible (repeat (first | exact Z0 | apply Z1))) (by first | rfl | exact (Nat.add_zero _).symm) (by rfl) ?_
    refine q_move rfl rfl rfl rfl ?_
    refine q_nil_p rfl rfl rfl rfl ?_
    refine q_field (k := 2) rfl rfl rfl rfl Try.underlying87 rfl Try.sizeOf84 rfl ?_
    refine q_load_c (j := 2) rfl rfl rfl rfl Try.isAgg84 (by with_reducible (repeat (first | exact Z0 | apply Z1))) (by first | rfl | exact (Nat.add_zero _).symm) (by rfl) ?_
    refine q_field (k := 2) rfl rfl rfl rfl Try.underlying40 rfl Try.sizeOf3 rfl ?_
    refine q_load_c (j := 2) rfl rfl rfl rfl Try.isAgg3 (by with_reducible (repeat (first | exact Z0 | apply Z1))) (by first | rfl | exact (Nat.add_zero _).symm) (by rfl) ?_
    refine q_lookup1 (ek := ekZ) (ev1 := evA) (F := F1) (m := m1) (k := o) none rfl rfl rfl rfl rfl Try.underlying84 (keyOK_int Try.underlying3) Try.zeroValue82 (by with_reducible (repeat (first | exact Z0 | apply Z1))) ?_
    refine q_move rfl rfl rfl rfl ?_
    have sp_5 := merged_spec ((F1 o).getD none) (x.th o) (hx.thc _) tb l ta tc hlc
    refine l_call rfl rfl rfl rfl rfl rfl Try.call67 (sp_5) (by (repeat ((with_reducible apply Z2); focus (first | (with_reducible (repeat (first | exact Z0 | apply Z1)); done) | (repeat (first | exact Z0 | apply Z1))))); exact Z3) ?_
    rintro ⟨mb, ma, mc⟩ -
    try simp only [List.cons_append, List.nil_append]
    refine ag_load_c (q := 2) rfl rfl rfl Try.isAgg84 (by with_reducible (repeat (first | exact Z0 | apply Z1))) (by first | rfl | exact (Nat.add_zero _).symm) (by rfl) ?_
    refine ag_load_c (q := 1) rfl rfl rfl Try.isAgg3 (by with_reducible (repeat (first | exact Z0 | apply Z1))) (by first | rfl | exact (Nat.add_zero _).symm) (by rfl) ?_
    refine ag_nil ?_
    refine l_mapUpd (ek := ekZ) (ev1 := evA) (F := F1) (m := m1) (k := t) (v := (some ⟨mb, 0, none⟩ : Option Addr)) (by first | exact .inl rfl | exact .inr rfl) rfl rfl rfl rfl Try.underlying84 (keyOK_int Try.underlying3) (by with_reducible (repeat (first | exact Z0 | apply Z1))) ?_
    refine ag_nil ?_
    refine r_done ?_
    refine s_opt_back (F := F1) (T := x.th) (S := [t]) o (by (repeat ((with_reducible apply Z2); focus (first | (with_reducible (repeat (first | exact Z0 | apply Z1)); done) | (repeat (first | exact Z0 | apply Z1))))); exact Z3) (by simpa using hne) hso ?_
    refine s_vecF mb ma mc (mgF (x.th o) l) (by (repeat ((with_reducible apply Z2); focus (first | (with_reducible (repeat (first | exact Z0 | apply Z1)); done) | (repeat (first | exact Z0 | apply Z1))))); exact Z3) ?_
    refine s_rest_put (F := F1) (T := x.th) (S := []) t (upd F1 t (some (some ⟨mb, 0, none⟩ : Option Addr))) (upd x.th t (some (mgF (x.th o) l))) (by (repeat ((with_reducible apply Z2); focus (first | (with_reducible (repeat (first | exact Z0 | apply Z1)); done) | (repeat (first | exact Z0 | apply Z1))))); exact Z3) (by simp) upd_same (fun q h _ => upd_ne h) upd_same (fun q h _ => upd_ne h) ?_
    refine s_keep [0, 3] (e' := [(0, _), (3, _)]) rfl ?_
    refine k_blk_n ?_
    refine k_then_n ?_
    refine c_draw rfl (.q 0 (.q 1 (.q 2 (.q 3 (.q 4 ((.l 5 [] (.done)))))))) (by kernel_rfl) ?_
    refine q_move rfl rfl rfl rfl ?_
    refine q_nil_p rfl rfl rfl rfl ?_
    refine q_field (k := 0) rfl rfl rfl rfl Try.underlying87 rfl Try.sizeOf83 rfl ?_
    refine q_load_c (j := 0) rfl rfl rfl rfl Try.isAgg83 (by with_reducible (repeat (first | exact Z0 | apply Z1))) (by first | rfl | exact (Nat.add_zero _).symm) (by rfl) ?_
    refine q_loadN_c rfl rfl rfl rfl Try.isAgg40 Try.sizeOf40 (by with_reducible (repeat (first | exact Z0 | apply Z1))) 0 (us := [_, _, _]) (by first | rfl | exact (Nat.add_zero _).symm) rfl rfl ?_
    have sp_6 := Fe.next_spec pa pc cb x.ck hx.ck (by first | exact hn | omega) pl (hpl) k t o
    refine l_call rfl rfl rfl rfl rfl rfl Try.call72 (sp_6) (by (repeat ((with_reducible apply Z2); focus (first | (with_reducible (repeat (first | exact Z0 | apply Z1)); done) | (repeat (first | exact Z0 | apply Z1))))); exact Z3) ?_
    rintro ⟨⟩ -
    try simp only [List.cons_append, List.nil_append]
    refine ag_nil ?_
    refine r_done ?_
    refine s_keep [] (e' := []) rfl ?_
    refine ret_end ?_
    refine vs_fold (b := b) (vnF x k t o) (pa := pa) (pc := pc) (po := po) (poc := poc) (cb := cb) (m1 := m1) (m2 := m2) (m3 := m3) (m4 := m4) (by (repeat ((with_reducible apply Z2); focus (first | (with_reducible (repeat (first | exact Z0 | apply Z1)); done) | (repeat (first | exact Z0 | apply Z1))))); exact Z3) (by exact vn8 hth k8) (by rw [nx_pa]) ?_
    refine ret0 rfl (()) (by first | rfl | (first | rfl | (congr 1; done) | (congr 1 <;> first | rfl | omega | (simp; done) | (simp; omega)))) (by trivial) ?_
    (repeat ((with_reducible apply Z2); focus (first | (with_reducible (repeat (first | exact Z0 | apply Z1)); done) | (repeat (first | exact Z0 | apply Z1))))); (repeat (first | exact Z3 | exact Takes.self | refine takes_drop2 ?_))
   ·
    refine c_seq ?_
    refine c_plain (.q 0 (.q 1 (.done))) (by kernel_rfl) ?_
    refine q_int rfl rfl rfl rfl rfl (b_eql _ _ _ _) ?_
    refine q_assign rfl rfl rfl rfl ?_
    refine r_done ?_
    refine s_keep [0, 3, 4, 17, 69] (e' := [(0, _), (3, _), (4, _), (17, _), (69, _)]) rfl ?_
    refine k_then_n ?_
    refine c_cond_p rfl (fun k10 => ?_) (fun k10 => ?_)
    ·
     refine s_vecF tb ta tc l (by (repeat ((with_reducible apply Z2); focus (first | (with_reducible (repeat (first | exact Z0 | apply Z1)); done) | (repeat (first | exact Z0 | apply Z1))))); exact Z3) ?_
     refine s_rest_put (F := F1) (T := x.th) (S := []) t F1 x.th (by (repeat ((with_reducible apply Z2); focus (first | (with_reducible (repeat (first | exact Z0 | apply Z1)); done) | (repeat (first | exact Z0 | apply Z1))))); exact Z3) (by simp) htF (fun _ _ _ => rfl) hth (fun _ _ _ => rfl) ?_
     refine vs_fold (b := b) x (pa := pa) (pc := pc) (po := po) (poc := poc) (cb := cb) (m1 := m1) (m2 := m2) (m3 := m3) (m4 := m4) (by (repeat ((with_reducible apply Z2); focus (first | (with_reducible (repeat (first | exact Z0 | apply Z1)); done) | (repeat (first | exact Z0 | apply Z1))))); exact Z3) (by rfl) (by rfl) ?_
     refine c_plain (.q 0 (.q 1 ((.l 2 [] (.done))))) (by kernel_rfl) ?_
     refine q_move rfl rfl rfl rfl ?_
     refine q_loadN_c rfl rfl rfl rfl Try.isAgg40 Try.sizeOf40 (by with_reducible (repeat (first | exact Z0 | apply Z1))) 0 (us := [_, _, _]) (by first | rfl | exact (Nat.add_zero _).symm) rfl rfl ?_
     have sp_7 := depart_spec pa pc po poc b x hx k t o (o10 k10).1 (o10 k10).2.2
     refine l_call rfl rfl rfl rfl rfl rfl Try.call68 (sp_7) (by (repeat ((with_reducible apply Z2); focus (first | (with_reducible (repeat (first | exact Z0 | apply Z1)); done) | (repeat (first | exact Z0 | apply Z1))))); exact Z3) ?_
     rintro ⟨⟩ -
     try simp only [List.cons_append, List.nil_append]
     refine ag_nil ?_
     refine r_done ?_
     refine s_take (A := vsR pa pc po poc b (dpF x t o)) (by with_reducible (repeat (first | exact Z0 | apply Z1))) ?_
     refine vs_open fun cbz m1z m2z m3z m4z F1z F2z F3z F4z => ?_
     try simp only [show (dpF x t o).ck = x.ck from rfl]
     refine s_keep [0, 3] (e' := [(0, _), (3, _)]) rfl ?_
     refine k_blk_n ?_
     refine k_then_n ?_
     refine c_draw rfl (.q 0 (.q 1 (.q 2 (.q 3 (.q 4 ((.l 5 [] (.done)))))))) (by kernel_rfl) ?_
     refine q_move rfl rfl rfl rfl ?_
     refine q_nil_p rfl rfl rfl rfl ?_
     refine q_field (k := 0) rfl rfl rfl rfl Try.underlying87 rfl Try.sizeOf83 rfl ?_
     refine q_load_c (j := 0) rfl rfl rfl rfl Try.isAgg83 (by with_reducible (repeat (first | exact Z0 | apply Z1))) (by first | rfl | exact (Nat.add_zero _).symm) (by rfl) ?_
     refine q_loadN_c rfl rfl rfl rfl Try.isAgg40 Try.sizeOf40 (by with_reducible (repeat (first | exact Z0 | apply Z1))) 0 (us := [_, _, _]) (by first | rfl | exact (Nat.add_zero _).symm) rfl rfl ?_
     have sp_8 := Fe.next_spec pa pc cbz x.ck hx.ck (by first | exact hn | omega) pl (hpl) k t o
     refine l_call rfl rfl rfl rfl rfl rfl Try.call72 (sp_8) (by (repeat ((with_reducible apply Z2); focus (first | (with_reducible (repeat (first | exact Z0 | apply Z1)); done) | (repeat (first | exact Z0 | apply Z1))))); exact Z3) ?_
     rintro ⟨⟩ -
     try simp only [List.cons_append, List.nil_append]
     refine ag_nil ?_
     refine r_done ?_
     refine s_keep [] (e' := []) rfl ?_
     refine ret_end ?_
     refine vs_fold (b := b) (vnF x k t o) (pa := pa) (pc := pc) (po := po) (poc := poc) (cb := cbz) (m1 := m1z) (m2 := m2z) (m3 := m3z) (m4 := m4z) (by (repeat ((with_reducible apply Z2); focus (first | (with_reducible (repeat (first | exact Z0 | apply Z1)); done) | (repeat (first | exact Z0 | apply Z1))))); exact Z3) (by exact vn10 hth k10) (by rw [nx_pa]) ?_
     refine ret0 rfl (()) (by first | rfl | (first | rfl | (congr 1; done) | (congr 1 <;> first | rfl | omega | (simp; done) | (simp; omega)))) (by trivial) ?_
     (repeat ((with_reducible apply Z2); focus (first | (with_reducible (repeat (first | exact Z0 | apply Z1)); done) | (repeat (first | exact Z0 | apply Z1))))); (repeat (first | exact Z3 | exact Takes.self | refine takes_drop2 ?_))
    ·
     refine c_seq ?_
     refine c_plain (.q 0 (.q 1 (.done))) (by kernel_rfl) ?_
     refine q_int rfl rfl rfl rfl rfl (b_eql _ _ _ _) ?_
     refine q_assign rfl rfl rfl rfl ?_
     refine r_done ?_
     refine k_then_n ?_
     refine c_cond_p rfl (fun k6 => ?_) (fun k6 => ?_)
     ·
      refine c_seq ?_
      refine s_rest_opt (F := F2) (T := x.lk) (S := []) o (by with_reducible (repeat (first | exact Z0 | apply Z1))) (by simp) fun hso => ?_
      refine c_draw rfl (.q 0 (.q 1 (.q 2 (.q 3 (.q 4 (.q 5 (.q 6 ((.l 7 [3, 5] ((.l 8 [] (.done)))))))))))) (by kernel_rfl) ?_
      refine q_move rfl rfl rfl rfl ?_
      refine q_nil_p rfl rfl rfl rfl ?_
      refine q_field (k := 3) rfl rfl rfl rfl Try.underlying87 rfl Try.sizeOf84 rfl ?_
      refine q_load_c (j := 3) rfl rfl rfl rfl Try.isAgg84 (by with_reducible (repeat (first | exact Z0 | apply Z1))) (by first | rfl | exact (Nat.add_zero _).symm) (by rfl) ?_
      refine q_field (k := 2) rfl rfl rfl rfl Try.underlying40 rfl Try.sizeOf3 rfl ?_
      refine q_load_c (j := 2) rfl rfl rfl rfl Try.isAgg3 (by with_reducible (repeat (first | exact Z0 | apply Z1))) (by first | rfl | exact (Nat.add_zero _).symm) (by rfl) ?_
      refine q_move rfl rfl rfl rfl ?_
      have sp_9 := Vc.copy_spec tb l ta l.length tc (by rfl) (by omega)
      refine l_call rfl rfl rfl rfl rfl rfl Try.call69 (sp_9) (by (repeat ((with_reducible apply Z2); focus (first | (with_reducible (repeat (first | exact Z0 | apply Z1)); done) | (repeat (first | exact Z0 | apply Z1))))); exact Z3) ?_
      rintro ⟨ub, ua, uc⟩ -
      try simp only [List.cons_append, List.nil_append]
      refine ag_load_c (q := 3) rfl rfl rfl Try.isAgg84 (by with_reducible (repeat (first | exact Z0 | apply Z1))) (by first | rfl | exact (Nat.add_zero _).symm) (by rfl) ?_
      refine ag_load_c (q := 2) rfl rfl rfl Try.isAgg3 (by with_reducible (repeat (first | exact Z0 | apply Z1))) (by first | rfl | exact (Nat.add_zero _).symm) (by rfl) ?_
      refine ag_nil ?_
      refine l_mapUpd (ek := ekZ) (ev1 := evA) (F := F2) (m := m2) (k := o) (v := (some ⟨ub, 0, none⟩ : Option Addr)) (by first | exact .inl rfl | exact .inr rfl) rfl rfl rfl rfl Try.underlying84 (keyOK_int Try.underlying3) (by with_reducible (repeat (first | exact Z0 | apply Z1))) ?_
      refine ag_nil ?_
      refine r_done ?_
      refine s_vecF ub ua uc l (by (repeat ((with_reducible apply Z2); focus (first | (with_reducible (repeat (first | exact Z0 | apply Z1)); done) | (repeat (first | exact Z0 | apply Z1))))); exact Z3) ?_
      refine s_rest_put (F := F2) (T := x.lk) (S := []) o (upd F2 o (some (some ⟨ub, 0, none⟩ : Option Addr))) (upd x.lk o (some l)) (by (repeat ((with_reducible apply Z2); focus (first | (with_reducible (repeat (first | exact Z0 | apply Z1)); done) | (repeat (first | exact Z0 | apply Z1))))); exact Z3) (by simp) upd_same (fun q h _ => upd_ne h) upd_same (fun q h _ => upd_ne h) ?_
      refine s_keep [0, 3, 4] (e' := [(0, _), (3, _), (4, _)]) rfl ?_
      refine k_then_n ?_
      refine c_plain (.q 0 (.q 1 (.q 2 ((.l 3 [] (.done)))))) (by kernel_rfl) ?_
      refine q_move rfl rfl rfl rfl ?_
      refine q_field (k := 1) rfl rfl rfl rfl Try.underlying40 rfl Try.sizeOf3 rfl ?_
      refine q_load_c (j := 1) rfl rfl rfl rfl Try.isAgg3 (by with_reducible (repeat (first | exact Z0 | apply Z1))) (by first | rfl | exact (Nat.add_zero _).symm) (by rfl) ?_
      have sp_10 := inc_z tb l ta l.length tc (by first | rfl | assumption | omega | (simp; done) | (simp; omega)) hlc t (by omega) (by omega) (by exact hlt (by unfold relK; omega))
      refine l_call rfl rfl rfl rfl rfl rfl Try.call70 (sp_10) (by (repeat ((with_reducible apply Z2); focus (first | (with_reducible (repeat (first | exact Z0 | apply Z1)); done) | (repeat (first | exact Z0 | apply Z1))))); exact Z3) ?_
      rintro ⟨ia, ic⟩ -
      try simp only [List.cons_append, List.nil_append]
      refine ag_nil ?_
      refine r_done ?_
      refine s_vecF tb ia ic (icL l t.toNat) (by (repeat ((with_reducible apply Z2); focus (first | (with_reducible (repeat (first | exact Z0 | apply Z1)); done) | (repeat (first | exact Z0 | apply Z1))))); exact Z3) ?_
      refine s_rest_put (F := F1) (T := x.th) (S := []) t F1 (upd x.th t (some (icL l t.toNat))) (by (repeat ((with_reducible apply Z2); focus (first | (with_reducible (repeat (first | exact Z0 | apply Z1)); done) | (repeat (first | exact Z0 | apply Z1))))); exact Z3) (by simp) htF (fun _ _ _ => rfl) upd_same (fun q h _ => upd_ne h) ?_
      refine s_keep [0, 3] (e' := [(0, _), (3, _)]) rfl ?_
      refine k_blk_n ?_
      refine k_then_n ?_
      refine c_draw rfl (.q 0 (.q 1 (.q 2 (.q 3 (.q 4 ((.l 5 [] (.done)))))))) (by kernel_rfl) ?_
      refine q_move rfl rfl rfl rfl ?_
      refine q_nil_p rfl rfl rfl rfl ?_
      refine q_field (k := 0) rfl rfl rfl rfl Try.underlying87 rfl Try.sizeOf83 rfl ?_
      refine q_load_c (j := 0) rfl rfl rfl rfl Try.isAgg83 (by with_reducible (repeat (first | exact Z0 | apply Z1))) (by first | rfl | exact (Nat.add_zero _).symm) (by rfl) ?_
      refine q_loadN_c rfl rfl rfl rfl Try.isAgg40 Try.sizeOf40 (by with_reducible (repeat (first | exact Z0 | apply Z1))) 0 (us := [_, _, _]) (by first | rfl | exact (Nat.add_zero _).symm) rfl rfl ?_
      have sp_11 := Fe.next_spec pa pc cb x.ck hx.ck (by first | exact hn | omega) pl (hpl) k t o
      refine l_call rfl rfl rfl rfl rfl rfl Try.call72 (sp_11) (by (repeat ((with_reducible apply Z2); focus (first | (with_reducible (repeat (first | exact Z0 | apply Z1)); done) | (repeat (first | exact Z0 | apply Z1))))); exact Z3) ?_
      rintro ⟨⟩ -
      try simp only [List.cons_append, List.nil_append]
      refine ag_nil ?_
      refine r_done ?_
      refine s_keep [] (e' := []) rfl ?_
      refine ret_end ?_
      refine vs_fold (b := b) (vnF x k t o) (pa := pa) (pc := pc) (po := po) (poc := poc) (cb := cb) (m1 := m1) (m2 := m2) (m3 := m3) (m4 := m4) (by (repeat ((with_reducible apply Z2); focus (first | (with_reducible (repeat (first | exact Z0 | apply Z1)); done) | (repeat (first | exact Z0 | apply Z1))))); exact Z3) (by exact vn6 hth k6) (by rw [nx_pa]) ?_
      refine ret0 rfl (()) (by first | rfl | (first | rfl | (congr 1; done) | (congr 1 <;> first | rfl | omega | (simp; done) | (simp; omega)))) (by trivial) ?_
      (repeat ((with_reducible apply Z2); focus (first | (with_reducible (repeat (first | exact Z0 | apply Z1)); done) | (repeat (first | exact Z0 | apply Z1))))); (repeat (first | exact Z3 | exact Takes.self | refine takes_drop2 ?_))
     ·
      refine c_seq ?_
      refine c_plain (.q 0 (.q 1 (.done))) (by kernel_rfl) ?_
      refine q_int rfl rfl rfl rfl rfl (b_eql _ _ _ _) ?_
      refine q_assign rfl rfl rfl rfl ?_
      refine r_done ?_
      refine s_keep [0, 3, 4, 17, 88] (e' := [(0, _), (3, _), (4, _), (17, _), (88, _)]) rfl ?_
      refine k_then_n ?_
      refine c_cond_p rfl (fun k4 => ?_) (fun k4 => ?_)
      ·
       refine c_seq ?_
       refine s_rest_opt (F := F3) (T := x.vo) (S := []) o (by with_reducible (repeat (first | exact Z0 | apply Z1))) (by simp) fun hso => ?_
       refine c_draw rfl (.q 0 (.q 1 (.q 2 (.q 3 (.q 4 (.q 5 (.q 6 (.q 7 (.q 8 (.q 9 (.q 10 (.q 11 (.q 12 (.q 13 ((.l 14 [3, 5] ((.l 15 [] (.done))))))))))))))))))) (by kernel_rfl) ?_
       refine q_move rfl rfl rfl rfl ?_
       refine q_nil_p rfl rfl rfl rfl ?_
       refine q_field (k := 4) rfl rfl rfl rfl Try.underlying87 rfl Try.sizeOf84 rfl ?_
       refine q_load_c (j := 4) rfl rfl rfl rfl Try.isAgg84 (by with_reducible (repeat (first | exact Z0 | apply Z1))) (by first | rfl | exact (Nat.add_zero _).symm) (by rfl) ?_
       refine q_field (k := 2) rfl rfl rfl rfl Try.underlying40 rfl Try.sizeOf3 rfl ?_
       refine q_load_c (j := 2) rfl rfl rfl rfl Try.isAgg3 (by with_reducible (repeat (first | exact Z0 | apply Z1))) (by first | rfl | exact (Nat.add_zero _).symm) (by rfl) ?_
       refine q_move rfl rfl rfl rfl ?_
       refine q_nil_p rfl rfl rfl rfl ?_
       refine q_field (k := 4) rfl rfl rfl rfl Try.underlying87 rfl Try.sizeOf84 rfl ?_
       refine q_load_c (j := 4) rfl rfl rfl rfl Try.isAgg84 (by with_reducible (repeat (first | exact Z0 | apply Z1))) (by first | rfl | exact (Nat.add_zero _).symm) (by rfl) ?_
       refine q_field (k := 2) rfl rfl rfl rfl Try.underlying40 rfl Try.sizeOf3 rfl ?_
       refine q_load_c (j := 2) rfl rfl rfl rfl Try.isAgg3 (by with_reducible (repeat (first | exact Z0 | apply Z1))) (by first | rfl | exact (Nat.add_zero _).symm) (by rfl) ?_
       refine q_lookup1 (ek := ekZ) (ev1 := evA) (F := F3) (m := m3) (k := o) none rfl rfl rfl rfl rfl Try.underlying84 (keyOK_int Try.underlying3) Try.zeroValue82 (by with_reducible (repeat (first | exact Z0 | apply Z1))) ?_
       refine q_move rfl rfl rfl rfl ?_
       have sp_12 := merged_spec ((F3 o).getD none) (x.vo o) (hx.voc _) tb l ta tc hlc
       refine l_call rfl rfl rfl rfl rfl rfl Try.call67 (sp_12) (by (repeat ((with_reducible apply Z2); focus (first | (with_reducible (repeat (first | exact Z0 | apply Z1)); done) | (repeat (first | exact Z0 | apply Z1))))); exact Z3) ?_
       rintro ⟨mb, ma, mc⟩ -
       try simp only [List.cons_append, List.nil_append]
       refine ag_load_c (q := 4) rfl rfl rfl Try.isAgg84 (by with_reducible (repeat (first | exact Z0 | apply Z1))) (by first | rfl | exact (Nat.add_zero _).symm) (by rfl) ?_
       refine ag_load_c (q := 2) rfl rfl rfl Try.isAgg3 (by with_reducible (repeat (first | exact Z0 | apply Z1))) (by first | rfl | exact (Nat.add_zero _).symm) (by rfl) ?_
       refine ag_nil ?_
       refine l_mapUpd (ek := ekZ) (ev1 := evA) (F := F3) (m := m3) (k := o) (v := (some ⟨mb, 0, none⟩ : Option Addr)) (by first | exact .inl rfl | exact .inr rfl) rfl rfl rfl rfl Try.underlying84 (keyOK_int Try.underlying3) (by with_reducible (repeat (first | exact Z0 | apply Z1))) ?_
       refine ag_nil ?_
       refine r_done ?_
       refine s_vecF mb ma mc (mgF (x.vo o) l) (by (repeat ((with_reducible apply Z2); focus (first | (with_reducible (repeat (first | exact Z0 | apply Z1)); done) | (repeat (first | exact Z0 | apply Z1))))); exact Z3) ?_
       refine s_rest_put (F := F3) (T := x.vo) (S := []) o (upd F3 o (some (some ⟨mb, 0, none⟩ : Option Addr))) (upd x.vo o (some (mgF (x.vo o) l))) (by (repeat ((with_reducible apply Z2); focus (first | (with_reducible (repeat (first | exact Z0 | apply Z1)); done) | (repeat (first | exact Z0 | apply Z1))))); exact Z3) (by simp) upd_same (fun q h _ => upd_ne h) upd_same (fun q h _ => upd_ne h) ?_
       refine s_keep [0, 3, 4] (e' := [(0, _), (3, _), (4, _)]) rfl ?_
       refine k_then_n ?_
       refine c_plain (.q 0 (.q 1 (.q 2 ((.l 3 [] (.done)))))) (by kernel_rfl) ?_
       refine q_move rfl rfl rfl rfl ?_
       refine q_field (k := 1) rfl rfl rfl rfl Try.underlying40 rfl Try.sizeOf3 rfl ?_
       refine q_load_c (j := 1) rfl rfl rfl rfl Try.isAgg3 (by with_reducible (repeat (first | exact Z0 | apply Z1))) (by first | rfl | exact (Nat.add_zero _).symm) (by rfl) ?_
       have sp_13 := inc_z tb l ta l.length tc (by first | rfl | assumption | omega | (simp; done) | (simp; omega)) hlc t (by omega) (by omega) (by exact hlt (by unfold relK; omega))
       refine l_call rfl rfl rfl rfl rfl rfl Try.call70 (sp_13) (by (repeat ((with_reducible apply Z2); focus (first | (with_reducible (repeat (first | exact Z0 | apply Z1)); done) | (repeat (first | exact Z0 | apply Z1))))); exact Z3) ?_
       rintro ⟨ia, ic⟩ -
       try simp only [List.cons_append, List.nil_append]
       refine ag_nil ?_
       refine r_done ?_
       refine s_vecF tb ia ic (icL l t.toNat) (by (repeat ((with_reducible apply Z2); focus (first | (with_reducible (repeat (first | exact Z0 | apply Z1)); done) | (repeat (first | exact Z0 | apply Z1))))); exact Z3) ?_
       refine s_rest_put (F := F1) (T := x.th) (S := []) t F1 (upd x.th t (some (icL l t.toNat))) (by (repeat ((with_reducible apply Z2); focus (first | (with_reducible (repeat (first | exact Z0 | apply Z1)); done) | (repeat (first | exact Z0 | apply Z1))))); exact Z3) (by simp) htF (fun _ _ _ => rfl) upd_same (fun q h _ => upd_ne h) ?_
       refine s_keep [0, 3] (e' := [(0, _), (3, _)]) rfl ?_
       refine k_blk_n ?_
       refine k_then_n ?_
       refine c_draw rfl (.q 0 (.q 1 (.q 2 (.q 3 (.q 4 ((.l 5 [] (.done)))))))) (by kernel_rfl) ?_
       refine q_move rfl rfl rfl rfl ?_
       refine q_nil_p rfl rfl rfl rfl ?_
       refine q_field (k := 0) rfl rfl rfl rfl Try.underlying87 rfl Try.sizeOf83 rfl ?_
       refine q_load_c (j := 0) rfl rfl rfl rfl Try.isAgg83 (by with_reducible (repeat (first | exact Z0 | apply Z1))) (by first | rfl | exact (Nat.add_zero _).symm) (by rfl) ?_
       refine q_loadN_c rfl rfl rfl rfl Try.isAgg40 Try.sizeOf40 (by with_reducible (repeat (first | exact Z0 | apply Z1))) 0 (us := [_, _, _]) (by first | rfl | exact (Nat.add_zero _).symm) rfl rfl ?_
       have sp_14 := Fe.next_spec pa pc cb x.ck hx.ck (by first | exact hn | omega) pl (hpl) k t o
       refine l_call rfl rfl rfl rfl rfl rfl Try.call72 (sp_14) (by (repeat ((with_reducible apply Z2); focus (first | (with_reducible (repeat (first | exact Z0 | apply Z1)); done) | (repeat (first | exact Z0 | apply Z1))))); exact Z3) ?_
       rintro ⟨⟩ -
       try simp only [List.cons_append, List.nil_append]
       refine ag_nil ?_
       refine r_done ?_
       refine s_keep [] (e' := []) rfl ?_
       refine ret_end ?_
       refine vs_fold (b := b) (vnF x k t o) (pa := pa) (pc := pc) (po := po) (poc := poc) (cb := cb) (m1 := m1) (m2 := m2) (m3 := m3) (m4 := m4) (by (repeat ((with_reducible apply Z2); focus (first | (with_reducible (repeat (first | exact Z0 | apply Z1)); done) | (repeat (first | exact Z0 | apply Z1))))); exact Z3) (by exact vn4 hth k4) (by rw [nx_pa]) ?_
       refine ret0 rfl (()) (by first | rfl | (first | rfl | (congr 1; done) | (congr 1 <;> first | rfl | omega | (simp; done) | (simp; omega)))) (by trivial) ?_
       (repeat ((with_reducible apply Z2); focus (first | (with_reducible (repeat (first | exact Z0 | apply Z1)); done) | (repeat (first | exact Z0 | apply Z1))))); (repeat (first | exact Z3 | exact Takes.self | refine takes_drop2 ?_))
      ·
       refine c_seq ?_
       refine c_plain (.q 0 (.q 1 (.done))) (by kernel_rfl) ?_
       refine q_int rfl rfl rfl rfl rfl (b_eql _ _ _ _) ?_
       refine q_assign rfl rfl rfl rfl ?_
       refine r_done ?_
       refine k_then_n ?_
       refine c_cond_p rfl (fun k9 => ?_) (fun k9 => ?_)
       ·
        refine c_seq ?_
        obtain ⟨p0, p1, p2, p3⟩ := o9 k9
        have hyes : 0 ≤ o ∧ o < (x.ck.B.length : Int) := ⟨p0, by omega⟩
        refine c_draw rfl (.q 0 (.q 1 (.q 2 (.q 3 (.q 4 (.q 5 ((.alt (.l 6 [] (.q 7 (.q 8 (.q 9 ((.l 10 [] ((.l 11 [] (.q 12 (.done)))))))))) (.l 10 [3, 5] ((.l 6 [] (.q 7 (.q 8 (.q 9 ((.l 11 [] (.q 12 (.done)))))))))))))))))) (by kernel_rfl) ?_
        refine q_move rfl rfl rfl rfl ?_
        refine q_nil_p rfl rfl rfl rfl ?_
        refine q_field (k := 0) rfl rfl rfl rfl Try.underlying87 rfl Try.sizeOf83 rfl ?_
        refine q_load_c (j := 0) rfl rfl rfl rfl Try.isAgg83 (by with_reducible (repeat (first | exact Z0 | apply Z1))) (by first | rfl | exact (Nat.add_zero _).symm) (by rfl) ?_
        refine q_field (k := 2) rfl rfl rfl rfl Try.underlying40 rfl Try.sizeOf3 rfl ?_
        refine q_load_c (j := 2) rfl rfl rfl rfl Try.isAgg3 (by with_reducible (repeat (first | exact Z0 | apply Z1))) (by first | rfl | exact (Nat.add_zero _).symm) (by rfl) ?_
        refine r_alt ?_ ?_
        ·
         have sp_15 := Fe.round_spec pa pc cb x.ck o
         refine l_call rfl rfl rfl rfl rfl rfl Try.call71 (sp_15) (by (repeat ((with_reducible apply Z2); focus (first | (with_reducible (repeat (first | exact Z0 | apply Z1)); done) | (repeat (first | exact Z0 | apply Z1))))); exact Z3) ?_
         rintro ⟨⟩ -
         try simp only [List.cons_append, List.nil_append]
         refine ag_nil ?_
         refine s_eq 118 rfl (v' := .tuple #[.agg #[.int .i64 ((opF x.ck o).1), .int .i64 ((opF x.ck o).2)], .int .i64 0]) (by rw [if_pos hyes, if_pos hyes]) ?_
         refine q_move rfl rfl rfl rfl ?_
         refine q_extract rfl rfl rfl rfl rfl ?_
         refine q_extract rfl rfl rfl rfl rfl ?_
         refine l_alloc rfl rfl rfl Try.zeroValue74 (zs := [.int .i64 0, .int .i64 0]) rfl ?_
         intro b5
         refine ag_nil ?_
         refine l_store (j := 0) rfl rfl rfl rfl Try.sizeOf74 (us := [_, _]) rfl rfl rfl (by with_reducible (repeat (first | exact Z0 | apply Z1))) (by first | rfl | exact (Nat.add_zero _).symm) (by first | decide | (simp; done) | omega) ?_
         simp only [setL, List.set]
         refine ag_nil ?_
         refine q_assign rfl rfl rfl rfl ?_
         refine r_done ?_
         refine s_keep [0, 3, 4, 5] (e' := [(0, _), (3, _), (4, _), (5, _)]) rfl ?_
         refine k_then_n ?_
         refine c_seq ?_
         refine c_plain (.q 0 (.q 1 (.q 2 (.q 3 (.q 4 ((.l 5 [] ((.l 6 [] (.done)))))))))) (by kernel_rfl) ?_
         refine q_field (k := 2) rfl rfl rfl rfl Try.underlying40 rfl Try.sizeOf3 rfl ?_
         refine q_load_c (j := 2) rfl rfl rfl rfl Try.isAgg3 (by with_reducible (repeat (first | exact Z0 | apply Z1))) (by first | rfl | exact (Nat.add_zero _).symm) (by rfl) ?_
         refine q_field (k := 0) rfl rfl rfl rfl Try.underlying74 rfl Try.sizeOf3 rfl ?_
         refine q_load_c (j := 0) rfl rfl rfl rfl Try.isAgg3 (by with_reducible (repeat (first | exact Z0 | apply Z1))) (by first | rfl | exact (Nat.add_zero _).symm) (by rfl) ?_
         refine q_build rfl rfl rfl rfl (vs := [_, _]) (run_buildS Try.underlying138 Try.zeroValue138 (ps := [(0, 1), (1, 1)]) ⟨rfl, Try.sizeOf3, rfl, Try.sizeOf3, trivial⟩ rfl) ?_
         refine l_alloc rfl rfl rfl Try.zeroValue138 (zs := [.int .i64 0, .int .i64 0]) rfl ?_
         intro b7
         refine ag_nil ?_
         refine l_store (j := 0) rfl rfl rfl rfl Try.sizeOf138 (us := [_, _]) rfl rfl rfl (by with_reducible (repeat (first | exact Z0 | apply Z1))) (by first | rfl | exact (Nat.add_zero _).symm) (by first | decide | (simp; done) | omega) ?_
         simp only [setL, List.set]
         refine ag_nil ?_
         refine r_done ?_
         refine s_keep [0, 3, 4, 7] (e' := [(0, _), (3, _), (4, _), (7, _)]) rfl ?_
         refine k_then_n ?_
         refine c_seq ?_
         obtain ⟨pp, hpp⟩ := get_lt (l := pl) (i := o.toNat) (by rw [← hpl]; omega)
         refine s_rest_optH (G := F4) (U := x.rd) (S := []) (o, (opF x.ck o).1) (by with_reducible (repeat (first | exact Z0 | apply Z1))) (by simp) ?_
         refine c_draw rfl (.q 0 (.q 1 (.q 2 (.q 3 (.q 4 (.q 5 (.q 6 (.q 7 (.q 8 (.q 9 (.q 10 (.q 11 (.q 12 (.q 14 (.q 15 (.q 16 (.q 17 (.q 18 (.q 19 (.q 20 (.q 21 ((.l 13 [3, 4, 17, 19, 21] (.q 22 ((.l 23 [] (.done))))))))))))))))))))))))))) (by kernel_rfl) ?_
         refine q_move rfl rfl rfl rfl ?_
         refine q_nil_p rfl rfl rfl rfl ?_
         refine q_field (k := 5) rfl rfl rfl rfl Try.underlying87 rfl Try.sizeOf85 rfl ?_
         refine q_load_c (j := 5) rfl rfl rfl rfl Try.isAgg85 (by with_reducible (repeat (first | exact Z0 | apply Z1))) (by first | rfl | exact (Nat.add_zero _).symm) (by rfl) ?_
         refine q_loadN_c rfl rfl rfl rfl Try.isAgg138 Try.sizeOf138 (by with_reducible (repeat (first | exact Z0 | apply Z1))) 0 (us := [_, _]) (by first | rfl | exact (Nat.add_zero _).symm) rfl rfl ?_
         refine q_move rfl rfl rfl rfl ?_
         refine q_nil_p rfl rfl rfl rfl ?_
         refine q_field (k := 5) rfl rfl rfl rfl Try.underlying87 rfl Try.sizeOf85 rfl ?_
         refine q_load_c (j := 5) rfl rfl rfl rfl Try.isAgg85 (by with_reducible (repeat (first | exact Z0 | apply Z1))) (by first | rfl | exact (Nat.add_zero _).symm) (by rfl) ?_
         refine q_loadN_c rfl rfl rfl rfl Try.isAgg138 Try.sizeOf138 (by with_reducible (repeat (first | exact Z0 | apply Z1))) 0 (us := [_, _]) (by first | rfl | exact (Nat.add_zero _).symm) rfl rfl ?_
         refine q_lookup1 (ek := ek2) (ev1 := evH) (F := F4) (m := m4) (k := (o, (opF x.ck o).1)) (none, 0) rfl rfl rfl rfl rfl Try.underlying85 (keyOK_pair Try.underlying138 rfl rfl rfl rfl Try.underlying3 Try.underlying3 Try.isAgg3 Try.isAgg3 (by kernel_rfl)) Try.zeroValue140 (by with_reducible (repeat (first | exact Z0 | apply Z1))) ?_
         refine q_fld rfl rfl rfl rfl Try.underlying140 rfl Try.isAgg82 rfl ?_
         refine q_move rfl rfl rfl rfl ?_
         refine q_move rfl rfl rfl rfl ?_
         refine q_nil_p rfl rfl rfl rfl ?_
         refine q_field (k := 1) rfl rfl rfl rfl Try.underlying87 rfl Try.sizeOf22 rfl ?_
         refine q_load_c (j := 1) rfl rfl rfl rfl Try.isAgg22 (by with_reducible (repeat (first | exact Z0 | apply Z1))) (by first | rfl | exact (Nat.add_zero _).symm) (by rfl) ?_
         refine q_field (k := 2) rfl rfl rfl rfl Try.underlying40 rfl Try.sizeOf3 rfl ?_
         refine q_load_c (j := 2) rfl rfl rfl rfl Try.isAgg3 (by with_reducible (repeat (first | exact Z0 | apply Z1))) (by first | rfl | exact (Nat.add_zero _).symm) (by rfl) ?_
         refine q_idxO (sz := 0) (k := o.toNat) (enc := encZ) (xs := pl) rfl rfl rfl rfl rfl Try.underlying22 Try.sizeOf3 hpp (by omega) (by omega) (by with_reducible (repeat (first | exact Z0 | apply Z1))) ?_
         intro ib146 io146 ha146 hl146 hc146
         refine q_load_O (v := (.int .i64 pp)) (j := 0) (k' := o.toNat) (enc := encZ) (off := io146) rfl rfl rfl rfl Try.isAgg3 ha146 encZ_len hpp (by with_reducible (repeat (first | exact Z0 | apply Z1))) (by first | rfl | exact (Nat.add_zero _).symm | omega) (by rfl) ?_
         have sp_16 := merged_spec (((F4 (o, (opF x.ck o).1)).getD (none, 0)).1) ((x.rd (o, (opF x.ck o).1)).map (·.1)) (fun _ => map_fst_cv hx) tb l ta tc hlc
         refine l_call rfl rfl rfl rfl rfl rfl Try.call67 (sp_16) (by (repeat ((with_reducible apply Z2); focus (first | (with_reducible (repeat (first | exact Z0 | apply Z1)); done) | (repeat (first | exact Z0 | apply Z1))))); exact Z3) ?_
         rintro ⟨mb, ma, mc⟩ -
         try simp only [List.cons_append, List.nil_append]
         refine ag_load_c (q := 5) rfl rfl rfl Try.isAgg85 (by with_reducible (repeat (first | exact Z0 | apply Z1))) (by first | rfl | exact (Nat.add_zero _).symm) (by rfl) ?_
         refine ag_loadN_c rfl rfl (us := [_, _]) rfl Try.isAgg138 Try.sizeOf138 (by with_reducible (repeat (first | exact Z0 | apply Z1))) 0 (by first | rfl | exact (Nat.add_zero _).symm) rfl rfl ?_
         refine ag_load_c (q := 1) rfl rfl rfl Try.isAgg22 (by with_reducible (repeat (first | exact Z0 | apply Z1))) (by first | rfl | exact (Nat.add_zero _).symm) (by rfl) ?_
         refine ag_load_c (q := 2) rfl rfl rfl Try.isAgg3 (by with_reducible (repeat (first | exact Z0 | apply Z1))) (by first | rfl | exact (Nat.add_zero _).symm) (by rfl) ?_
         refine ag_load_O (v := (.int .i64 pp)) (j := 0) (k' := o.toNat) (enc := encZ) (off := io146) rfl rfl rfl Try.isAgg3 ha146 encZ_len hpp (by with_reducible (repeat (first | exact Z0 | apply Z1))) (by first | rfl | exact (Nat.add_zero _).symm | omega) (by rfl) ?_
         refine ag_nil ?_
         refine q_build rfl rfl rfl rfl (vs := [_, _]) (run_buildS Try.underlying140 Try.zeroValue140 (ps := [(0, 1), (1, 1)]) ⟨rfl, Try.sizeOf82, rfl, Try.sizeOf3, trivial⟩ rfl) ?_
         refine l_mapUpd (ek := ek2) (ev1 := evH) (F := F4) (m := m4) (k := (o, (opF x.ck o).1)) (v := ((some ⟨mb, 0, none⟩ : Option Addr), pp)) (by first | exact .inl rfl | exact .inr rfl) rfl rfl rfl rfl Try.underlying85 (keyOK_pair Try.underlying138 rfl rfl rfl rfl Try.underlying3 Try.underlying3 Try.isAgg3 Try.isAgg3 (by kernel_rfl)) (by with_reducible (repeat (first | exact Z0 | apply Z1))) ?_
         refine ag_nil ?_
         refine r_done ?_
         refine s_vecF mb ma mc (mgF ((x.rd (o, (opF x.ck o).1)).map (·.1)) l) (by (repeat ((with_reducible apply Z2); focus (first | (with_reducible (repeat (first | exact Z0 | apply Z1)); done) | (repeat (first | exact Z0 | apply Z1))))); exact Z3) ?_
         refine s_heldF (some ⟨mb, 0, none⟩, pp) (mgF ((x.rd (o, (opF x.ck o).1)).map (·.1)) l, pp) (by first | (with_reducible (repeat (first | exact Z0 | apply Z1)); done) | (repeat (first | exact Z0 | apply Z1))) rfl ?_
         refine s_rest_put (F := F4) (T := x.rd) (S := []) (o, (opF x.ck o).1) (upd F4 (o, (opF x.ck o).1) (some (some ⟨mb, 0, none⟩, pp))) (upd x.rd (o, (opF x.ck o).1) (some (mgF ((x.rd (o, (opF x.ck o).1)).map (·.1)) l, pp))) (by (repeat ((with_reducible apply Z2); focus (first | (with_reducible (repeat (first | exact Z0 | apply Z1)); done) | (repeat (first | exact Z0 | apply Z1))))); exact Z3) (by simp) upd_same (fun q h _ => upd_ne h) upd_same (fun q h _ => upd_ne h) ?_
         refine s_keep [0, 3, 4] (e' := [(0, _), (3, _), (4, _)]) rfl ?_
         refine k_then_n ?_
         refine c_plain (.q 0 (.q 1 (.q 2 ((.l 3 [] (.done)))))) (by kernel_rfl) ?_
         refine q_move rfl rfl rfl rfl ?_
         refine q_field (k := 1) rfl rfl rfl rfl Try.underlying40 rfl Try.sizeOf3 rfl ?_
         refine q_load_c (j := 1) rfl rfl rfl rfl Try.isAgg3 (by with_reducible (repeat (first | exact Z0 | apply Z1))) (by first | rfl | exact (Nat.add_zero _).symm) (by rfl) ?_
         have sp_17 := inc_z tb l ta l.length tc (by first | rfl | assumption | omega | (simp; done) | (simp; omega)) hlc t (by omega) (by omega) (by exact hlt (by unfold relK; omega))
         refine l_call rfl rfl rfl rfl rfl rfl Try.call70 (sp_17) (by (repeat ((with_reducible apply Z2); focus (first | (with_reducible (repeat (first | exact Z0 | apply Z1)); done) | (repeat (first | exact Z0 | apply Z1))))); exact Z3) ?_
         rintro ⟨ia, ic⟩ -
         try simp only [List.cons_append, List.nil_append]
         refine ag_nil ?_
         refine r_done ?_
         refine s_vecF tb ia ic (icL l t.toNat) (by (repeat ((with_reducible apply Z2); focus (first | (with_reducible (repeat (first | exact Z0 | apply Z1)); done) | (repeat (first | exact Z0 | apply Z1))))); exact Z3) ?_
         refine s_rest_put (F := F1) (T := x.th) (S := []) t F1 (upd x.th t (some (icL l t.toNat))) (by (repeat ((with_reducible apply Z2); focus (first | (with_reducible (repeat (first | exact Z0 | apply Z1)); done) | (repeat (first | exact Z0 | apply Z1))))); exact Z3) (by simp) htF (fun _ _ _ => rfl) upd_same (fun q h _ => upd_ne h) ?_
         refine s_keep [0, 3] (e' := [(0, _), (3, _)]) rfl ?_
         refine k_blk_n ?_
         refine k_then_n ?_
         refine c_draw rfl (.q 0 (.q 1 (.q 2 (.q 3 (.q 4 ((.l 5 [] (.done)))))))) (by kernel_rfl) ?_
         refine q_move rfl rfl rfl rfl ?_
         refine q_nil_p rfl rfl rfl rfl ?_
         refine q_field (k := 0) rfl rfl rfl rfl Try.underlying87 rfl Try.sizeOf83 rfl ?_
         refine q_load_c (j := 0) rfl rfl rfl rfl Try.isAgg83 (by with_reducible (repeat (first | exact Z0 | apply Z1))) (by first | rfl | exact (Nat.add_zero _).symm) (by rfl) ?_
         refine q_loadN_c rfl rfl rfl rfl Try.isAgg40 Try.sizeOf40 (by with_reducible (repeat (first | exact Z0 | apply Z1))) 0 (us := [_, _, _]) (by first | rfl | exact (Nat.add_zero _).symm) rfl rfl ?_
         have sp_18 := Fe.next_spec pa pc cb x.ck hx.ck (by first | exact hn | omega) pl (hpl) k t o
         refine l_call rfl rfl rfl rfl rfl rfl Try.call72 (sp_18) (by (repeat ((with_reducible apply Z2); focus (first | (with_reducible (repeat (first | exact Z0 | apply Z1)); done) | (repeat (first | exact Z0 | apply Z1))))); exact Z3) ?_
         rintro ⟨⟩ -
         try simp only [List.cons_append, List.nil_append]
         refine ag_nil ?_
         refine r_done ?_
         refine s_keep [] (e' := []) rfl ?_
         refine ret_end ?_
         refine vs_fold (b := b) (vnF x k t o) (pa := pa) (pc := pc) (po := po) (poc := poc) (cb := cb) (m1 := m1) (m2 := m2) (m3 := m3) (m4 := m4) (by (repeat ((with_reducible apply Z2); focus (first | (with_reducible (repeat (first | exact Z0 | apply Z1)); done) | (repeat (first | exact Z0 | apply Z1))))); exact Z3) (by rw [vn9 hth k9, show x.ck.pa.getD o.toNat 0 = pp from by rw [hpl]; exact getD_some hpp]) (by rw [nx_pa]) ?_
         refine ret0 rfl (()) (by first | rfl | (first | rfl | (congr 1; done) | (congr 1 <;> first | rfl | omega | (simp; done) | (simp; omega)))) (by trivial) ?_
         (repeat ((with_reducible apply Z2); focus (first | (with_reducible (repeat (first | exact Z0 | apply Z1)); done) | (repeat (first | exact Z0 | apply Z1))))); (repeat (first | exact Z3 | exact Takes.self | refine takes_drop2 ?_))
        refine l_alloc rfl rfl rfl Try.zeroValue74 (zs := [.int .i64 0, .int .i64 0]) rfl ?_
        intro b5
        refine ag_load_c (q := 0) rfl rfl rfl Try.isAgg83 (by with_reducible (repeat (first | exact Z0 | apply Z1))) (by first | rfl | exact (Nat.add_zero _).symm) (by rfl) ?_
        refine ag_load_c (q := 2) rfl rfl rfl Try.isAgg3 (by with_reducible (repeat (first | exact Z0 | apply Z1))) (by first | rfl | exact (Nat.add_zero _).symm) (by rfl) ?_
        refine ag_nil ?_
        have sp_19 := Fe.round_spec pa pc cb x.ck o
        refine l_call rfl rfl rfl rfl rfl rfl Try.call71 (sp_19) (by (repeat ((with_reducible apply Z2); focus (first | (with_reducible (repeat (first | exact Z0 | apply Z1)); done) | (repeat (first | exact Z0 | apply Z1))))); exact Z3) ?_
        rintro ⟨⟩ -
        try simp only [List.cons_append, List.nil_append]
        refine ag_nil ?_
        refine s_eq 118 rfl (v' := .tuple #[.agg #[.int .i64 ((opF x.ck o).1), .int .i64 ((opF x.ck o).2)], .int .i64 0]) (by rw [if_pos hyes, if_pos hyes]) ?_
        refine q_move rfl rfl rfl rfl ?_
        refine q_extract rfl rfl rfl rfl rfl ?_
        refine q_extract rfl rfl rfl rfl rfl ?_
        refine l_store (j := 0) rfl rfl rfl rfl Try.sizeOf74 (us := [_, _]) rfl rfl rfl (by with_reducible (repeat (first | exact Z0 | apply Z1))) (by first | rfl | exact (Nat.add_zero _).symm) (by first | decide | (simp; done) | omega) ?_
        simp only [setL, List.set]
        refine ag_nil ?_
        refine q_assign rfl rfl rfl rfl ?_
        refine r_done ?_
        refine s_keep [0, 3, 4, 5] (e' := [(0, _), (3, _), (4, _), (5, _)]) rfl ?_
        refine k_then_n ?_
        refine c_seq ?_
        refine c_plain (.q 0 (.q 1 (.q 2 (.q 3 (.q 4 ((.l 5 [] ((.l 6 [] (.done)))))))))) (by kernel_rfl) ?_
        refine q_field (k := 2) rfl rfl rfl rfl Try.underlying40 rfl Try.sizeOf3 rfl ?_
        refine q_load_c (j := 2) rfl rfl rfl rfl Try.isAgg3 (by with_reducible (repeat (first | exact Z0 | apply Z1))) (by first | rfl | exact (Nat.add_zero _).symm) (by rfl) ?_
        refine q_field (k := 0) rfl rfl rfl rfl Try.underlying74 rfl Try.sizeOf3 rfl ?_
        refine q_load_c (j := 0) rfl rfl rfl rfl Try.isAgg3 (by with_reducible (repeat (first | exact Z0 | apply Z1))) (by first | rfl | exact (Nat.add_zero _).symm) (by rfl) ?_
        refine q_build rfl rfl rfl rfl (vs := [_, _]) (run_buildS Try.underlying138 Try.zeroValue138 (ps := [(0, 1), (1, 1)]) ⟨rfl, Try.sizeOf3, rfl, Try.sizeOf3, trivial⟩ rfl) ?_
        refine l_alloc rfl rfl rfl Try.zeroValue138 (zs := [.int .i64 0, .int .i64 0]) rfl ?_
        intro b7
        refine ag_nil ?_
        refine l_store (j := 0) rfl rfl rfl rfl Try.sizeOf138 (us := [_, _]) rfl rfl rfl (by with_reducible (repeat (first | exact Z0 | apply Z1))) (by first | rfl | exact (Nat.add_zero _).symm) (by first | decide | (simp; done) | omega) ?_
        simp only [setL, List.set]
        refine ag_nil ?_
        refine r_done ?_
        refine s_keep [0, 3, 4, 7] (e' := [(0, _), (3, _), (4, _), (7, _)]) rfl ?_
        refine k_then_n ?_
        refine c_seq ?_
        obtain ⟨pp, hpp⟩ := get_lt (l := pl) (i := o.toNat) (by rw [← hpl]; omega)
        refine s_rest_optH (G := F4) (U := x.rd) (S := []) (o, (opF x.ck o).1) (by with_reducible (repeat (first | exact Z0 | apply Z1))) (by simp) ?_
        refine c_draw rfl (.q 0 (.q 1 (.q 2 (.q 3 (.q 4 (.q 5 (.q 6 (.q 7 (.q 8 (.q 9 (.q 10 (.q 11 (.q 12 (.q 14 (.q 15 (.q 16 (.q 17 (.q 18 (.q 19 (.q 20 (.q 21 ((.l 13 [3, 4, 17, 19, 21] (.q 22 ((.l 23 [] (.done))))))))))))))))))))))))))) (by kernel_rfl) ?_
        refine q_move rfl rfl rfl rfl ?_
        refine q_nil_p rfl rfl rfl rfl ?_
        refine q_field (k := 5) rfl rfl rfl rfl Try.underlying87 rfl Try.sizeOf85 rfl ?_
        refine q_load_c (j := 5) rfl rfl rfl rfl Try.isAgg85 (by with_reducible (repeat (first | exact Z0 | apply Z1))) (by first | rfl | exact (Nat.add_zero _).symm) (by rfl) ?_
        refine q_loadN_c rfl rfl rfl rfl Try.isAgg138 Try.sizeOf138 (by with_reducible (repeat (first | exact Z0 | apply Z1))) 0 (us := [_, _]) (by first | rfl | exact (Nat.add_zero _).symm) rfl rfl ?_
        refine q_move rfl rfl rfl rfl ?_
        refine q_nil_p rfl rfl rfl rfl ?_
        refine q_field (k := 5) rfl rfl rfl rfl Try.underlying87 rfl Try.sizeOf85 rfl ?_
        refine q_load_c (j := 5) rfl rfl rfl rfl Try.isAgg85 (by with_reducible (repeat (first | exact Z0 | apply Z1))) (by first | rfl | exact (Nat.add_zero _).symm) (by rfl) ?_
        refine q_loadN_c rfl rfl rfl rfl Try.isAgg138 Try.sizeOf138 (by with_reducible (repeat (first | exact Z0 | apply Z1))) 0 (us := [_, _]) (by first | rfl | exact (Nat.add_zero _).symm) rfl rfl ?_
        refine q_lookup1 (ek := ek2) (ev1 := evH) (F := F4) (m := m4) (k := (o, (opF x.ck o).1)) (none, 0) rfl rfl rfl rfl rfl Try.underlying85 (keyOK_pair Try.underlying138 rfl rfl rfl rfl Try.underlying3 Try.underlying3 Try.isAgg3 Try.isAgg3 (by kernel_rfl)) Try.zeroValue140 (by with_reducible (repeat (first | exact Z0 | apply Z1))) ?_
        refine q_fld rfl rfl rfl rfl Try.underlying140 rfl Try.isAgg82 rfl ?_
        refine q_move rfl rfl rfl rfl ?_
        refine q_move rfl rfl rfl rfl ?_
        refine q_nil_p rfl rfl rfl rfl ?_
        refine q_field (k := 1) rfl rfl rfl rfl Try.underlying87 rfl Try.sizeOf22 rfl ?_
        refine q_load_c (j := 1) rfl rfl rfl rfl Try.isAgg22 (by with_reducible (repeat (first | exact Z0 | apply Z1))) (by first | rfl | exact (Nat.add_zero _).symm) (by rfl) ?_
        refine q_field (k := 2) rfl rfl rfl rfl Try.underlying40 rfl Try.sizeOf3 rfl ?_
        refine q_load_c (j := 2) rfl rfl rfl rfl Try.isAgg3 (by with_reducible (repeat (first | exact Z0 | apply Z1))) (by first | rfl | exact (Nat.add_zero _).symm) (by rfl) ?_
        refine q_idxO (sz := 0) (k := o.toNat) (enc := encZ) (xs := pl) rfl rfl rfl rfl rfl Try.underlying22 Try.sizeOf3 hpp (by omega) (by omega) (by with_reducible (repeat (first | exact Z0 | apply Z1))) ?_
        intro ib146 io146 ha146 hl146 hc146
        refine q_load_O (v := (.int .i64 pp)) (j := 0) (k' := o.toNat) (enc := encZ) (off := io146) rfl rfl rfl rfl Try.isAgg3 ha146 encZ_len hpp (by with_reducible (repeat (first | exact Z0 | apply Z1))) (by first | rfl | exact (Nat.add_zero _).symm | omega) (by rfl) ?_
        have sp_20 := merged_spec (((F4 (o, (opF x.ck o).1)).getD (none, 0)).1) ((x.rd (o, (opF x.ck o).1)).map (·.1)) (fun _ => map_fst_cv hx) tb l ta tc hlc
        refine l_call rfl rfl rfl rfl rfl rfl Try.call67 (sp_20) (by (repeat ((with_reducible apply Z2); focus (first | (with_reducible (repeat (first | exact Z0 | apply Z1)); done) | (repeat (first | exact Z0 | apply Z1))))); exact Z3) ?_
        rintro ⟨mb, ma, mc⟩ -
        try simp only [List.cons_append, List.nil_append]
        refine ag_load_c (q := 5) rfl rfl rfl Try.isAgg85 (by with_reducible (repeat (first | exact Z0 | apply Z1))) (by first | rfl | exact (Nat.add_zero _).symm) (by rfl) ?_
        refine ag_loadN_c rfl rfl (us := [_, _]) rfl Try.isAgg138 Try.sizeOf138 (by with_reducible (repeat (first | exact Z0 | apply Z1))) 0 (by first | rfl | exact (Nat.add_zero _).symm) rfl rfl ?_
        refine ag_load_c (q := 1) rfl rfl rfl Try.isAgg22 (by with_reducible (repeat (first | exact Z0 | apply Z1))) (by first | rfl | exact (Nat.add_zero _).symm) (by rfl) ?_
        refine ag_load_c (q := 2) rfl rfl rfl Try.isAgg3 (by with_reducible (repeat (first | exact Z0 | apply Z1))) (by first | rfl | exact (Nat.add_zero _).symm) (by rfl) ?_
        refine ag_load_O (v := (.int .i64 pp)) (j := 0) (k' := o.toNat) (enc := encZ) (off := io146) rfl rfl rfl Try.isAgg3 ha146 encZ_len hpp (by with_reducible (repeat (first | exact Z0 | apply Z1))) (by first | rfl | exact (Nat.add_zero _).symm | omega) (by rfl) ?_
        refine ag_nil ?_
        refine q_build rfl rfl rfl rfl (vs := [_, _]) (run_buildS Try.underlying140 Try.zeroValue140 (ps := [(0, 1), (1, 1)]) ⟨rfl, Try.sizeOf82, rfl, Try.sizeOf3, trivial⟩ rfl) ?_
        refine l_mapUpd (ek := ek2) (ev1 := evH) (F := F4) (m := m4) (k := (o, (opF x.ck o).1)) (v := ((some ⟨mb, 0, none⟩ : Option Addr), pp)) (by first | exact .inl rfl | exact .inr rfl) rfl rfl rfl rfl Try.underlying85 (keyOK_pair Try.underlying138 rfl rfl rfl rfl Try.underlying3 Try.underlying3 Try.isAgg3 Try.isAgg3 (by kernel_rfl)) (by with_reducible (repeat (first | exact Z0 | apply Z1))) ?_
        refine ag_nil ?_
        refine r_done ?_
        refine s_vecF mb ma mc (mgF ((x.rd (o, (opF x.ck o).1)).map (·.1)) l) (by (repeat ((with_reducible apply Z2); focus (first | (with_reducible (repeat (first | exact Z0 | apply Z1)); done) | (repeat (first | exact Z0 | apply Z1))))); exact Z3) ?_
        refine s_heldF (some ⟨mb, 0, none⟩, pp) (mgF ((x.rd (o, (opF x.ck o).1)).map (·.1)) l, pp) (by first | (with_reducible (repeat (first | exact Z0 | apply Z1)); done) | (repeat (first | exact Z0 | apply Z1))) rfl ?_
        refine s_rest_put (F := F4) (T := x.rd) (S := []) (o, (opF x.ck o).1) (upd F4 (o, (opF x.ck o).1) (some (some ⟨mb, 0, none⟩, pp))) (upd x.rd (o, (opF x.ck o).1) (some (mgF ((x.rd (o, (opF x.ck o).1)).map (·.1)) l, pp))) (by (repeat ((with_reducible apply Z2); focus (first | (with_reducible (repeat (first | exact Z0 | apply Z1)); done) | (repeat (first | exact Z0 | apply Z1))))); exact Z3) (by simp) upd_same (fun q h _ => upd_ne h) upd_same (fun q h _ => upd_ne h) ?_
        refine s_keep [0, 3, 4] (e' := [(0, _), (3, _), (4, _)]) rfl ?_
        refine k_then_n ?_
        refine c_plain (.q 0 (.q 1 (.q 2 ((.l 3 [] (.done)))))) (by kernel_rfl) ?_
        refine q_move rfl rfl rfl rfl ?_
        refine q_field (k := 1) rfl rfl rfl rfl Try.underlying40 rfl Try.sizeOf3 rfl ?_
        refine q_load_c (j := 1) rfl rfl rfl rfl Try.isAgg3 (by with_reducible (repeat (first | exact Z0 | apply Z1))) (by first | rfl | exact (Nat.add_zero _).symm) (by rfl) ?_
        have sp_21 := inc_z tb l ta l.length tc (by first | rfl | assumption | omega | (simp; done) | (simp; omega)) hlc t (by omega) (by omega) (by exact hlt (by unfold relK; omega))
        refine l_call rfl rfl rfl rfl rfl rfl Try.call70 (sp_21) (by (repeat ((with_reducible apply Z2); focus (first | (with_reducible (repeat (first | exact Z0 | apply Z1)); done) | (repeat (first | exact Z0 | apply Z1))))); exact Z3) ?_
        rintro ⟨ia, ic⟩ -
        try simp only [List.cons_append, List.nil_append]
        refine ag_nil ?_
        refine r_done ?_
        refine s_vecF tb ia ic (icL l t.toNat) (by (repeat ((with_reducible apply Z2); focus (first | (with_reducible (repeat (first | exact Z0 | apply Z1)); done) | (repeat (first | exact Z0 | apply Z1))))); exact Z3) ?_
        refine s_rest_put (F := F1) (T := x.th) (S := []) t F1 (upd x.th t (some (icL l t.toNat))) (by (repeat ((with_reducible apply Z2); focus (first | (with_reducible (repeat (first | exact Z0 | apply Z1)); done) | (repeat (first | exact Z0 | apply Z1))))); exact Z3) (by simp) htF (fun _ _ _ => rfl) upd_same (fun q h _ => upd_ne h) ?_
        refine s_keep [0, 3] (e' := [(0, _), (3, _)]) rfl ?_
        refine k_blk_n ?_
        refine k_then_n ?_
        refine c_draw rfl (.q 0 (.q 1 (.q 2 (.q 3 (.q 4 ((.l 5 [] (.done)))))))) (by kernel_rfl) ?_
        refine q_move rfl rfl rfl rfl ?_
        refine q_nil_p rfl rfl rfl rfl ?_
        refine q_field (k := 0) rfl rfl rfl rfl Try.underlying87 rfl Try.sizeOf83 rfl ?_
        refine q_load_c (j := 0) rfl rfl rfl rfl Try.isAgg83 (by with_reducible (repeat (first | exact Z0 | apply Z1))) (by first | rfl | exact (Nat.add_zero _).symm) (by rfl) ?_
        refine q_loadN_c rfl rfl rfl rfl Try.isAgg40 Try.sizeOf40 (by with_reducible (repeat (first | exact Z0 | apply Z1))) 0 (us := [_, _, _]) (by first | rfl | exact (Nat.add_zero _).symm) rfl rfl ?_
        have sp_22 := Fe.next_spec pa pc cb x.ck hx.ck (by first | exact hn | omega) pl (hpl) k t o
        refine l_call rfl rfl rfl rfl rfl rfl Try.call72 (sp_22) (by (repeat ((with_reducible apply Z2); focus (first | (with_reducible (repeat (first | exact Z0 | apply Z1)); done) | (repeat (first | exact Z0 | apply Z1))))); exact Z3) ?_
        rintro ⟨⟩ -
        try simp only [List.cons_append, List.nil_append]
        refine ag_nil ?_
        refine r_done ?_
        refine s_keep [] (e' := []) rfl ?_
        refine ret_end ?_
        refine vs_fold (b := b) (vnF x k t o) (pa := pa) (pc := pc) (po := po) (poc := poc) (cb := cb) (m1 := m1) (m2 := m2) (m3 := m3) (m4 := m4) (by (repeat ((with_reducible apply Z2); focus (first | (with_reducible (repeat (first | exact Z0 | apply Z1)); done) | (repeat (first | exact Z0 | apply Z1))))); exact Z3) (by rw [vn9 hth k9, show x.ck.pa.getD o.toNat 0 = pp from by rw [hpl]; exact getD_some hpp]) (by rw [nx_pa]) ?_
        refine ret0 rfl (()) (by first | rfl | (first | rfl | (congr 1; done) | (congr 1 <;> first | rfl | omega | (simp; done) | (simp; omega)))) (by trivial) ?_
        (repeat ((with_reducible apply Z2); focus (first | (with_reducible (repeat (first | exact Z0 | apply Z1)); done) | (repeat (first | exact Z0 | apply Z1))))); (repeat (first | exact Z3 | exact Takes.self | refine takes_drop2 ?_))
       ·
        refine c_seq ?_
        refine c_plain (.q 0 (.q 1 (.done))) (by kernel_rfl) ?_
        refine q_int rfl rfl rfl rfl rfl (b_eql _ _ _ _) ?_
        refine q_assign rfl rfl rfl rfl ?_
        refine r_done ?_
        refine s_keep [0, 3, 4, 153] (e' := [(0, _), (3, _), (4, _), (153, _)]) rfl ?_
        refine k_then_n ?_
        refine c_cond_p rfl (fun k7 => ?_) (fun k7 => ?_)
        ·
         refine c_seq ?_
         obtain ⟨q0, q1, q2⟩ := o7 k7
         have htl := hx.ck.tl
         have hsth := hsh.th
         refine c_plain (.q 0 ((.l 1 [] (.q 2 (.done))))) (by kernel_rfl) ?_
         refine q_move rfl rfl rfl rfl ?_
         have sp_23 := Vc.copy_spec tb l ta l.length tc (by rfl) (by omega)
         refine l_call rfl rfl rfl rfl rfl rfl Try.call69 (sp_23) (by (repeat ((with_reducible apply Z2); focus (first | (with_reducible (repeat (first | exact Z0 | apply Z1)); done) | (repeat (first | exact Z0 | apply Z1))))); exact Z3) ?_
         rintro ⟨ub, ua, uc⟩ -
         try simp only [List.cons_append, List.nil_append]
         refine ag_nil ?_
         refine q_assign rfl rfl rfl rfl ?_
         refine r_done ?_
         refine k_then_n ?_
         refine c_seq ?_
         refine c_plain (.q 0 (.q 1 (.q 2 ((.l 3 [] (.done)))))) (by kernel_rfl) ?_
         refine q_move rfl rfl rfl rfl ?_
         refine q_field (k := 2) rfl rfl rfl rfl Try.underlying40 rfl Try.sizeOf3 rfl ?_
         refine q_load_c (j := 2) rfl rfl rfl rfl Try.isAgg3 (by with_reducible (repeat (first | exact Z0 | apply Z1))) (by first | rfl | exact (Nat.add_zero _).symm) (by rfl) ?_
         have sp_24 := set_z ub l ua l.length uc (by first | rfl | assumption | omega | (simp; done) | (simp; omega)) hlc o (by omega) (by omega) 1 (by decide) (by decide)
         refine l_call rfl rfl rfl rfl rfl rfl Try.call47 (sp_24) (by (repeat ((with_reducible apply Z2); focus (first | (with_reducible (repeat (first | exact Z0 | apply Z1)); done) | (repeat (first | exact Z0 | apply Z1))))); exact Z3) ?_
         rintro ⟨sa, sc⟩ -
         try simp only [List.cons_append, List.nil_append]
         refine ag_nil ?_
         refine r_done ?_
         refine s_keep [0, 3, 4, 8] (e' := [(0, _), (3, _), (4, _), (8, _)]) rfl ?_
         refine k_then_n ?_
         refine c_seq ?_
         have hne : o ≠ t := by intro e; rw [e] at q2; exact can_th hc q2
         refine s_rest_opt (F := F1) (T := x.th) (S := [t]) o (by with_reducible (repeat (first | exact Z0 | apply Z1))) (by simpa using hne) fun hso => ?_
         refine c_draw rfl (.q 0 (.q 1 (.q 2 (.q 3 (.q 4 (.q 5 (.q 6 ((.l 7 [] (.done)))))))))) (by kernel_rfl) ?_
         refine q_move rfl rfl rfl rfl ?_
         refine q_nil_p rfl rfl rfl rfl ?_
         refine q_field (k := 2) rfl rfl rfl rfl Try.underlying87 rfl Try.sizeOf84 rfl ?_
         refine q_load_c (j := 2) rfl rfl rfl rfl Try.isAgg84 (by with_reducible (repeat (first | exact Z0 | apply Z1))) (by first | rfl | exact (Nat.add_zero _).symm) (by rfl) ?_
         refine q_field (k := 2) rfl rfl rfl rfl Try.underlying40 rfl Try.sizeOf3 rfl ?_
         refine q_load_c (j := 2) rfl rfl rfl rfl Try.isAgg3 (by with_reducible (repeat (first | exact Z0 | apply Z1))) (by first | rfl | exact (Nat.add_zero _).symm) (by rfl) ?_
         refine q_move rfl rfl rfl rfl ?_
         refine l_mapUpd (ek := ekZ) (ev1 := evA) (F := F1) (m := m1) (k := o) (v := (some ⟨ub, 0, none⟩ : Option Addr)) (by first | exact .inl rfl | exact .inr rfl) rfl rfl rfl rfl Try.underlying84 (keyOK_int Try.underlying3) (by with_reducible (repeat (first | exact Z0 | apply Z1))) ?_
         refine ag_nil ?_
         refine r_done ?_
         refine s_vecF ub sa sc (stL l o.toNat 1) (by (repeat ((with_reducible apply Z2); focus (first | (with_reducible (repeat (first | exact Z0 | apply Z1)); done) | (repeat (first | exact Z0 | apply Z1))))); exact Z3) ?_
         refine s_rest_put (F := F1) (T := x.th) (S := [t]) o (upd F1 o (some (some ⟨ub, 0, none⟩ : Option Addr))) (upd x.th o (some (stL l o.toNat 1))) (by (repeat ((with_reducible apply Z2); focus (first | (with_reducible (repeat (first | exact Z0 | apply Z1)); done) | (repeat (first | exact Z0 | apply Z1))))); exact Z3) (by simpa using hne) upd_same (fun q h _ => upd_ne h) upd_same (fun q h _ => upd_ne h) ?_
         refine s_keep [0, 3, 4] (e' := [(0, _), (3, _), (4, _)]) rfl ?_
         refine k_then_n ?_
         refine c_plain (.q 0 (.q 1 (.q 2 ((.l 3 [] (.done)))))) (by kernel_rfl) ?_
         refine q_move rfl rfl rfl rfl ?_
         refine q_field (k := 1) rfl rfl rfl rfl Try.underlying40 rfl Try.sizeOf3 rfl ?_
         refine q_load_c (j := 1) rfl rfl rfl rfl Try.isAgg3 (by with_reducible (repeat (first | exact Z0 | apply Z1))) (by first | rfl | exact (Nat.add_zero _).symm) (by rfl) ?_
         have sp_25 := inc_z tb l ta l.length tc (by first | rfl | assumption | omega | (simp; done) | (simp; omega)) hlc t (by omega) (by omega) (by exact hlt (by unfold relK; omega))
         refine l_call rfl rfl rfl rfl rfl rfl Try.call70 (sp_25) (by (repeat ((with_reducible apply Z2); focus (first | (with_reducible (repeat (first | exact Z0 | apply Z1)); done) | (repeat (first | exact Z0 | apply Z1))))); exact Z3) ?_
         rintro ⟨ia, ic⟩ -
         try simp only [List.cons_append, List.nil_append]
         refine ag_nil ?_
         refine r_done ?_
         refine s_vecF tb ia ic (icL l t.toNat) (by (repeat ((with_reducible apply Z2); focus (first | (with_reducible (repeat (first | exact Z0 | apply Z1)); done) | (repeat (first | exact Z0 | apply Z1))))); exact Z3) ?_
         refine s_rest_put (F := (upd F1 o (some (some ⟨ub, 0, none⟩ : Option Addr)))) (T := (upd x.th o (some (stL l o.toNat 1)))) (S := []) t (upd F1 o (some (some ⟨ub, 0, none⟩ : Option Addr))) (upd (upd x.th o (some (stL l o.toNat 1))) t (some (icL l t.toNat))) (by (repeat ((with_reducible apply Z2); focus (first | (with_reducible (repeat (first | exact Z0 | apply Z1)); done) | (repeat (first | exact Z0 | apply Z1))))); exact Z3) (by simp) ((upd_ne (Ne.symm hne)).trans htF) (fun _ _ _ => rfl) upd_same (fun q h _ => upd_ne h) ?_
         refine s_keep [0, 3] (e' := [(0, _), (3, _)]) rfl ?_
         refine k_blk_n ?_
         refine k_then_n ?_
         refine c_draw rfl (.q 0 (.q 1 (.q 2 (.q 3 (.q 4 ((.l 5 [] (.done)))))))) (by kernel_rfl) ?_
         refine q_move rfl rfl rfl rfl ?_
         refine q_nil_p rfl rfl rfl rfl ?_
         refine q_field (k := 0) rfl rfl rfl rfl Try.underlying87 rfl Try.sizeOf83 rfl ?_
         refine q_load_c (j := 0) rfl rfl rfl rfl Try.isAgg83 (by with_reducible (repeat (first | exact Z0 | apply Z1))) (by first | rfl | exact (Nat.add_zero _).symm) (by rfl) ?_
         refine q_loadN_c rfl rfl rfl rfl Try.isAgg40 Try.sizeOf40 (by with_reducible (repeat (first | exact Z0 | apply Z1))) 0 (us := [_, _, _]) (by first | rfl | exact (Nat.add_zero _).symm) rfl rfl ?_
         have sp_26 := Fe.next_spec pa pc cb x.ck hx.ck (by first | exact hn | omega) pl (hpl) k t o
         refine l_call rfl rfl rfl rfl rfl rfl Try.call72 (sp_26) (by (repeat ((with_reducible apply Z2); focus (first | (with_reducible (repeat (first | exact Z0 | apply Z1)); done) | (repeat (first | exact Z0 | apply Z1))))); exact Z3) ?_
         rintro ⟨⟩ -
         try simp only [List.cons_append, List.nil_append]
         refine ag_nil ?_
         refine r_done ?_
         refine s_keep [] (e' := []) rfl ?_
         refine ret_end ?_
         refine vs_fold (b := b) (vnF x k t o) (pa := pa) (pc := pc) (po := po) (poc := poc) (cb := cb) (m1 := m1) (m2 := m2) (m3 := m3) (m4 := m4) (by (repeat ((with_reducible apply Z2); focus (first | (with_reducible (repeat (first | exact Z0 | apply Z1)); done) | (repeat (first | exact Z0 | apply Z1))))); exact Z3) (by exact vn7 hth k7) (by rw [nx_pa]) ?_
         refine ret0 rfl (()) (by first | rfl | (first | rfl | (congr 1; done) | (congr 1 <;> first | rfl | omega | (simp; done) | (simp; omega)))) (by trivial) ?_
         (repeat ((with_reducible apply Z2); focus (first | (with_reducible (repeat (first | exact Z0 | apply Z1)); done) | (repeat (first | exact Z0 | apply Z1))))); (repeat (first | exact Z3 | exact Takes.self | refine takes_drop2 ?_))
        ·
         refine c_skip ?_
         refine k_blk_n ?_
         refine k_then_n ?_
         refine s_vecF tb ta tc l (by (repeat ((with_reducible apply Z2); focus (first | (with_reducible (repeat (first | exact Z0 | apply Z1)); done) | (repeat (first | exact Z0 | apply Z1))))); exact Z3) ?_
         refine s_rest_put (F := F1) (T := x.th) (S := []) t F1 x.th (by (repeat ((with_reducible apply Z2); focus (first | (with_reducible (repeat (first | exact Z0 | apply Z1)); done) | (repeat (first | exact Z0 | apply Z1))))); exact Z3) (by simp) htF (fun _ _ _ => rfl) hth (fun _ _ _ => rfl) ?_
         refine c_draw rfl (.q 0 (.q 1 (.q 2 (.q 3 (.q 4 ((.l 5 [] (.done)))))))) (by kernel_rfl) ?_
         refine q_move rfl rfl rfl rfl ?_
         refine q_nil_p rfl rfl rfl rfl ?_
         refine q_field (k := 0) rfl rfl rfl rfl Try.underlying87 rfl Try.sizeOf83 rfl ?_
         refine q_load_c (j := 0) rfl rfl rfl rfl Try.isAgg83 (by with_reducible (repeat (first | exact Z0 | apply Z1))) (by first | rfl | exact (Nat.add_zero _).symm) (by rfl) ?_
         refine q_loadN_c rfl rfl rfl rfl Try.isAgg40 Try.sizeOf40 (by with_reducible (repeat (first | exact Z0 | apply Z1))) 0 (us := [_, _, _]) (by first | rfl | exact (Nat.add_zero _).symm) rfl rfl ?_
         have sp_27 := Fe.next_spec pa pc cb x.ck hx.ck (by first | exact hn | omega) pl (hpl) k t o
         refine l_call rfl rfl rfl rfl rfl rfl Try.call72 (sp_27) (by (repeat ((with_reducible apply Z2); focus (first | (with_reducible (repeat (first | exact Z0 | apply Z1)); done) | (repeat (first | exact Z0 | apply Z1))))); exact Z3) ?_
         rintro ⟨⟩ -
         try simp only [List.cons_append, List.nil_append]
         refine ag_nil ?_
         refine r_done ?_
         refine s_keep [] (e' := []) rfl ?_
         refine ret_end ?_
         refine vs_fold (b := b) (vnF x k t o) (pa := pa) (pc := pc) (po := po) (poc := poc) (cb := cb) (m1 := m1) (m2 := m2) (m3 := m3) (m4 := m4) (by (repeat ((with_reducible apply Z2); focus (first | (with_reducible (repeat (first | exact Z0 | apply Z1)); done) | (repeat (first | exact Z0 | apply Z1))))); exact Z3) (by exact vn0 k5 k3 k8 k10 k6 k4 k9 k7) (by rw [nx_pa]) ?_
         refine ret0 rfl (()) (by first | rfl | (first | rfl | (congr 1; done) | (congr 1 <;> first | rfl | omega | (simp; done) | (simp; omega)))) (by trivial) ?_
         (repeat ((with_reducible apply Z2); focus (first | (with_reducible (repeat (first | exact Z0 | apply Z1)); done) | (repeat (first | exact Z0 | apply Z1))))); (repeat (first | exact Z3 | exact Takes.self | refine takes_drop2 ?_))
end Go.Ab.Dj
