/- HeapPlays: drained with things put in; the law. -/
import Derived.Test.YtodmfajboleamaaHpP3
set_option linter.unusedVariables false
set_option linter.unusedSimpArgs false
set_option maxRecDepth 100000
namespace Go.Ab.HpT
open Go Go.Proofs Go.Ab
/-- Where a drain of Lz with n things stands, behind k turns. -/
structure DI (l0 m0 n : Nat) (Lq : List (Th × Nat)) (mq : Nat) (k : Nat) : Prop where
  nb : Nb Lq mq
  cnt : k + (Lq.length + (n - k)) ≤ l0 + n
  mad : mq + (n - k) ≤ m0 + n
abbrev Stp := Int × Int × Option Addr × Nat × List Th
def encS3 (x : Stp) : List Value := [.int .i64 x.1, .int .i64 x.2.1, .slice x.2.2.1 x.2.2.2.2.length x.2.2.2.1]
theorem encS3_len : ∀ x, (encS3 x).length = 3 := fun _ => rfl
theorem encS3_one : ∀ x, (encS3 x).all Value.oneCell' = true := fun _ => rfl
/-- A step whose things can be read. -/
def OkSt (A : HProp) (x : Stp) : Prop := RdS A x.2.2.1 (x.2.2.2.2.flatMap encT) ∧ x.2.2.2.2.length ≤ 600 ∧ x.2.2.2.2.length ≤ x.2.2.2.1
theorem drains_spec (b q : Nat) (Lz : List (Th × Nat)) (m : Nat) (hLl : Lz.length ≤ 4000000) (hml : m ≤ 4000000) (hNb : Nb Lz m) (kd lv : Int) (ts : List Th) (lo : Option Addr) (n lc : Nat) (A : HProp) (hr : RdS A lo (ts.flatMap encT)) (hn : ts.length = n) (hb : n ≤ 1000000) (hlc : n ≤ lc) : Spec Try.prog 23 [.pointer (some ⟨b, 0, none⟩), .pointer (some ⟨q, 0, none⟩), .agg #[.int .i64 kd, .int .i64 lv, .slice lo n lc]] [hpz b Lz m m, rh q (fs Lz), A] (fun (r : List (Th × Nat) × Nat) => .bool true) (fun r => Nb r.1 r.2 ∧ r.1.length ≤ Lz.length + n ∧ r.2 ≤ m + n) (fun r => [hpz b r.1 r.2 r.2, rh q (fs r.1), A]) := by
  refine spec_mkM (n := 74) Try.func23 rfl rfl rfl ?_
  intro Γ w0
  simp only [argE, List.cons_append, List.nil_append, Nat.zero_add, Nat.reduceAdd]
  refine c_seq ?_
  refine c_plain ((.l 0 [] ((.l 1 [] ((.l 2 [] ((.l 3 [] (.done))))))))) (by kernel_rfl) ?_
  refine l_box rfl rfl rfl rfl (us := [_]) rfl ?_
  intro b3
  refine ag_nil ?_
  refine l_box rfl rfl rfl rfl (us := [_]) rfl ?_
  intro b4
  refine ag_nil ?_
  refine l_box rfl rfl rfl rfl (us := [_, _, _]) rfl ?_
  intro b5
  refine ag_nil ?_
  refine l_alloc rfl rfl rfl Try.zeroValue4 (zs := [.bool false]) rfl ?_
  intro b6
  refine ag_nil ?_
  refine r_done ?_
  refine k_then_n ?_
  refine c_seq ?_
  refine c_plain ((.l 0 [] ((.l 1 [] (.done))))) (by kernel_rfl) ?_
  refine l_alloc rfl rfl rfl Try.zeroValue3 (zs := [.int .i64 0]) rfl ?_
  intro b7
  refine ag_nil ?_
  refine l_store (j := 0) rfl rfl rfl rfl Try.sizeOf3 (us := [_]) rfl rfl rfl (by with_reducible (repeat (first | exact Take.here | apply Take.there))) (by first | rfl | exact (Nat.add_zero _).symm) (by first | decide | (simp; done) | omega) ?_
  simp only [setL, List.set]
  refine ag_nil ?_
  refine r_done ?_
  refine k_then_n ?_
  refine c_seq ?_
  refine c_plain (.q 0 ((.l 1 [] (.q 2 (.done))))) (by kernel_rfl) ?_
  refine q_load_c (j := 0) rfl rfl rfl rfl Try.isAgg23 (by with_reducible (repeat (first | exact Take.here | apply Take.there))) (by first | rfl | exact (Nat.add_zero _).symm) (by rfl) ?_
  have sp_1 := drain_spec (some ⟨b, 0, none⟩)
  refine l_call rfl rfl rfl rfl rfl rfl Try.call44 (sp_1) (by (repeat ((with_reducible apply Takes.cons); focus (first | (with_reducible (repeat (first | exact Take.here | apply Take.there)); done) | (repeat (first | exact Take.here | apply Take.there))))); exact Takes.nil) ?_
  rintro bd -
  try simp only [List.cons_append, List.nil_append]
  refine ag_nil ?_
  refine q_assign rfl rfl rfl rfl ?_
  refine r_done ?_
  refine s_keep [3, 4, 5, 6, 7, 8] (e' := [(3, _), (4, _), (5, _), (6, _), (7, _), (8, _)]) rfl ?_
  refine k_then_n ?_
  refine c_seq ?_
  refine c_seq ?_
  refine c_plain (.q 0 (.q 1 (.done))) (by kernel_rfl) ?_
  refine q_move rfl rfl rfl rfl ?_
  refine q_eq_nilf rfl rfl rfl rfl Try.underlying84 ?_
  refine r_done ?_
  refine k_then_n ?_
  refine c_cond_f rfl ?_
  refine c_skip ?_
  refine k_then_n ?_
  refine c_seq ?_
  refine c_seq ?_
  refine c_plain (.q 0 (.done)) (by kernel_rfl) ?_
  refine q_move rfl rfl rfl rfl ?_
  refine r_done ?_
  refine k_then_n ?_
  refine c_block ?_
  refine s_heap (fun _ h => Bun.fold ((by (repeat ((with_reducible apply Takes.cons); focus (first | (with_reducible (repeat (first | exact Take.here | apply Take.there)); done) | (repeat (first | exact Take.here | apply Take.there))))); exact Takes.nil : Takes _ [cells b3 0 [.pointer (some ⟨b, 0, none⟩)], cells b4 0 [.pointer (some ⟨q, 0, none⟩)], cells b5 0 [.int .i64 kd, .int .i64 lv, .slice lo n lc], cells b6 0 [.bool false], cells b7 0 [.int .i64 0], rh q (fs Lz), A] _) _ h)) ?_
  refine c_rangeF _ rfl Try.call50 (fun lp => zdrain1_spec b bd (yv lp) (LoopJ lp _ _ _ _ _) (fun (s : (Nat × List Th × Bool)) => Bun [cells b3 0 [.pointer (some ⟨b, 0, none⟩)], cells b4 0 [.pointer (some ⟨q, 0, none⟩)], cells b5 0 [.int .i64 kd, .int .i64 lv, .slice lo n lc], cells b6 0 [.bool s.2.2], cells b7 0 [.int .i64 ((s.1 : Nat) : Int)], rh q s.2.1, A]) (fun Lq mq Mq (s : (Nat × List Th × Bool)) => mq = Mq ∧ s.2.1 = fs Lq ∧ s.2.2 = false ∧ DI Lz.length m n Lq mq s.1) (fun Lq mq Mq (s : (Nat × List Th × Bool)) c => c = .ret ∧ Mq = mq ∧ s.2.1 = fs Lq ∧ s.2.2 = true ∧ DI Lz.length m n Lq mq s.1) (fun Lq _ s => Lq.length + (n - s.1)) (fun Lq mq Mq s h => ⟨h.2.2.2.nb.rz, by have := h.2.2.2.cnt; omega⟩) (fun Lq mq Mq s x hI hx => callF_yield rfl (by decide) (by decide) (fun Γ w0 => ?_)) Lz m m (0, fs Lz, false) ⟨rfl, rfl, rfl, ⟨hNb, by show 0 + (Lz.length + (n - 0)) ≤ _; omega, by show m + (n - 0) ≤ _; omega⟩⟩) (by (repeat ((with_reducible apply Takes.cons); focus (first | (with_reducible (repeat (first | exact Take.here | apply Take.there)); done) | (repeat (first | exact Take.here | apply Take.there))))); exact Takes.nil) ?_
  · skip
    try simp only [zipE, List.cons_append, List.nil_append]
    obtain ⟨k, Lr, bb⟩ := s
    obtain ⟨hM_, hs1, hs2, hDI⟩ := hI
    simp only at hM_ hs1 hs2 hDI
    subst hM_ hs1 hs2
    obtain ⟨hNq0, hd1, hd2⟩ := hDI
    have hmil : mI (fs Lq) < Lq.length := by rw [← fs_len]; exact (List.getElem?_eq_some_iff.1 hx).1
    have hel := er_len hmil
    obtain ⟨Lp, hLp⟩ : ∃ L, L = Lq.eraseIdx (mI (fs Lq)) := ⟨_, rfl⟩
    rw [← hLp] at hel ⊢
    have hNp : Nb Lp mq := by rw [hLp]; exact nb_erase hNq0 _
    refine s_take (A := Bun [cells b3 0 [.pointer (some ⟨b, 0, none⟩)], cells b4 0 [.pointer (some ⟨q, 0, none⟩)], cells b5 0 [.int .i64 kd, .int .i64 lv, .slice lo n lc], cells b6 0 [.bool false], cells b7 0 [.int .i64 ((k : Nat) : Int)], rh q (fs Lq), A]) (by with_reducible (repeat (first | exact Take.here | apply Take.there))) ?_
    refine s_bun ?_
    try simp only [List.cons_append, List.nil_append]
    refine c_plain ((.l 0 [] ((.l 1 [] (.done))))) (by kernel_rfl) ?_
    refine l_alloc rfl rfl rfl Try.zeroValue28 (zs := [.int .i64 0, .int .i64 0]) rfl ?_
    intro b9
    refine ag_nil ?_
    refine l_store (j := 0) rfl rfl rfl rfl Try.sizeOf28 (us := [_, _]) rfl rfl rfl (by with_reducible (repeat (first | exact Take.here | apply Take.there))) (by first | rfl | exact (Nat.add_zero _).symm) (by first | decide | (simp; done) | omega) ?_
    simp only [setL, List.set]
    refine ag_nil ?_
    refine r_done ?_
    refine k_then_n ?_
    refine k_begin (by with_reducible (repeat (first | exact Take.here | apply Take.there))) ?_
    refine c_block ?_
    refine c_seq ?_
    refine c_plain (.q 0 ((.l 1 [] (.q 2 (.q 3 (.q 4 ((.l 5 [] ((.l 6 [] (.q 7 (.done)))))))))))) (by kernel_rfl) ?_
    refine q_load_c (j := 0) rfl rfl rfl rfl Try.isAgg48 (by with_reducible (repeat (first | exact Take.here | apply Take.there))) (by first | rfl | exact (Nat.add_zero _).symm) (by rfl) ?_
    have sp_2 := rpop_spec q (fs Lq) (by rw [fs_len]; omega)
    refine l_call rfl rfl rfl rfl rfl rfl Try.call41 (sp_2) (by (repeat ((with_reducible apply Takes.cons); focus (first | (with_reducible (repeat (first | exact Take.here | apply Take.there)); done) | (repeat (first | exact Take.here | apply Take.there))))); exact Takes.nil) ?_
    rintro ⟨⟩ -
    try simp only [List.cons_append, List.nil_append]
    refine ag_nil ?_
    refine s_eq 20 rfl (v' := .tuple #[.agg #[.int .i64 x.1, .int .i64 x.2], .bool true]) (by rw [pkL_at hx]; rfl) ?_
    rw [← fs_erase, ← hLp]
    refine q_move rfl rfl rfl rfl ?_
    refine q_extract rfl rfl rfl rfl rfl ?_
    refine q_extract rfl rfl rfl rfl rfl ?_
    refine l_alloc rfl rfl rfl Try.zeroValue28 (zs := [.int .i64 0, .int .i64 0]) rfl ?_
    intro b10
    refine ag_nil ?_
    refine l_store (j := 0) rfl rfl rfl rfl Try.sizeOf28 (us := [_, _]) rfl rfl rfl (by with_reducible (repeat (first | exact Take.here | apply Take.there))) (by first | rfl | exact (Nat.add_zero _).symm) (by first | decide | (simp; done) | omega) ?_
    simp only [setL, List.set]
    refine ag_nil ?_
    refine q_assign rfl rfl rfl rfl ?_
    refine r_done ?_
    refine s_keep [3, 4, 5, 6, 7, 9, 10, 11] (e' := [(3, _), (4, _), (5, _), (6, _), (7, _), (9, _), (10, _), (11, _)]) rfl ?_
    refine k_then_n ?_
    refine c_seq ?_
    refine c_seq ?_
    refine s_take (A := rh q (fs Lp)) (by with_reducible (repeat (first | exact Take.here | apply Take.there))) ?_
    refine rh_open fun ra rc => ?_
    refine s_take (A := own 2 encT ra rc (fs Lp)) (by with_reducible (repeat (first | exact Take.here | apply Take.there))) ?_
    refine own_fc fun ro1 ro2 ro3 => ?_
    refine c_draw rfl (.q 0 (.q 1 (.q 2 (.q 3 (.q 4 (.q 5 (.q 6 (.q 7 (.q 8 (.q 10 (.q 11 (.q 12 (.q 13 (.q 14 ((.l 9 [10, 13, 14] (.q 15 (.q 16 (.done))))))))))))))))))) (by kernel_rfl) ?_
    refine q_move rfl rfl rfl rfl ?_
    refine q_not rfl rfl rfl rfl ?_
    refine s_eq 24 rfl (v' := .bool false) rfl ?_
    refine q_move rfl rfl rfl rfl ?_
    refine q_loadN_c rfl rfl rfl rfl Try.isAgg28 Try.sizeOf28 (by with_reducible (repeat (first | exact Take.here | apply Take.there))) 0 (us := [_, _]) (by first | rfl | exact (Nat.add_zero _).symm) rfl rfl ?_
    refine q_loadN_c rfl rfl rfl rfl Try.isAgg28 Try.sizeOf28 (by with_reducible (repeat (first | exact Take.here | apply Take.there))) 0 (us := [_, _]) (by first | rfl | exact (Nat.add_zero _).symm) rfl rfl ?_
    refine q_neS rfl rfl rfl rfl rfl (by kernel_rfl) (eqc_struct Try.underlying28 (by kernel_rfl) (eqf_cons rfl Try.isAgg3 rfl rfl (eqc_int Try.underlying3) (eqf_last rfl Try.isAgg3 rfl rfl (eqc_int Try.underlying3)))) ?_
    refine s_eq 28 rfl (v' := .bool (decide ((x.1, x.2) ≠ (x.1, x.2)))) (by first | (congr 1; done) | (congr 1; rw [Bool.eq_iff_iff]; simp [Prod.ext_iff, and_assoc])) ?_
    refine s_eq 28 rfl (v' := .bool false) (by simp) ?_
    refine q_pick_f rfl rfl rfl rfl rfl ?_
    refine q_move rfl rfl rfl rfl ?_
    refine q_load_c (j := 0) rfl rfl rfl rfl Try.isAgg23 (by with_reducible (repeat (first | exact Take.here | apply Take.there))) (by first | rfl | exact (Nat.add_zero _).symm) (by rfl) ?_
    refine q_load_c (j := 0) rfl rfl rfl rfl Try.isAgg48 (by with_reducible (repeat (first | exact Take.here | apply Take.there))) (by first | rfl | exact (Nat.add_zero _).symm) (by rfl) ?_
    refine q_nil_p rfl rfl rfl rfl ?_
    refine q_field (k := 0) rfl rfl rfl rfl Try.underlying51 rfl Try.sizeOf49 rfl ?_
    refine q_load_c (j := 0) rfl rfl rfl rfl Try.isAgg49 (by with_reducible (repeat (first | exact Take.here | apply Take.there))) (by first | rfl | exact (Nat.add_zero _).symm) (by rfl) ?_
    refine q_len rfl rfl rfl rfl Try.underlying49 ?_
    have sp_3 := zlen_spec b Lp mq mq
    refine l_call rfl rfl rfl rfl rfl rfl Try.call13 (sp_3) (by (repeat ((with_reducible apply Takes.cons); focus (first | (with_reducible (repeat (first | exact Take.here | apply Take.there)); done) | (repeat (first | exact Take.here | apply Take.there))))); exact Takes.nil) ?_
    rintro ⟨⟩ -
    try simp only [List.cons_append, List.nil_append]
    refine ag_load_c (q := 0) rfl rfl rfl Try.isAgg48 (by with_reducible (repeat (first | exact Take.here | apply Take.there))) (by first | rfl | exact (Nat.add_zero _).symm) (by rfl) ?_
    refine ag_load_c (q := 0) rfl rfl rfl Try.isAgg49 (by with_reducible (repeat (first | exact Take.here | apply Take.there))) (by first | rfl | exact (Nat.add_zero _).symm) (by rfl) ?_
    refine ag_len rfl rfl rfl Try.underlying49 ?_
    refine ag_nil ?_
    refine q_int rfl rfl rfl rfl rfl (b_neq _ _ _ _) ?_
    refine s_eq 38 rfl (v' := .bool false) (by rw [fs_len]; simp) ?_
    refine q_pick_f rfl rfl rfl rfl rfl ?_
    refine r_done ?_
    refine rh_fold (q := q) (fs Lp) (ao := ra) (cap := rc) (by (repeat ((with_reducible apply Takes.cons); focus (first | (with_reducible (repeat (first | exact Take.here | apply Take.there)); done) | (repeat (first | exact Take.here | apply Take.there))))); exact Takes.nil) (by rfl) ?_
    refine s_keep [3, 4, 5, 6, 7, 39] (e' := [(3, _), (4, _), (5, _), (6, _), (7, _), (39, _)]) rfl ?_
    refine k_then_n ?_
    refine c_cond_f rfl ?_
    refine c_skip ?_
    refine k_then_n ?_
    refine c_seq ?_
    refine c_seq ?_
    refine c_draw rfl (.q 0 (.q 1 (.q 2 (.q 3 (.q 4 (.q 5 (.q 6 (.q 7 (.q 8 (.q 9 (.q 10 (.q 11 (.q 12 (.q 13 ((.l 14 [] (.q 15 (.q 16 (.done))))))))))))))))))) (by kernel_rfl) ?_
    refine q_load_c (j := 0) rfl rfl rfl rfl Try.isAgg3 (by with_reducible (repeat (first | exact Take.here | apply Take.there))) (by first | rfl | exact (Nat.add_zero _).symm) (by rfl) ?_
    refine q_field (k := 2) rfl rfl rfl rfl Try.underlying54 rfl Try.sizeOf49 rfl ?_
    refine q_load_c (j := 2) rfl rfl rfl rfl Try.isAgg49 (by with_reducible (repeat (first | exact Take.here | apply Take.there))) (by first | rfl | exact (Nat.add_zero _).symm) (by rfl) ?_
    refine q_len rfl rfl rfl rfl Try.underlying49 ?_
    refine q_int rfl rfl rfl rfl rfl (b_lss _ _ _ _) ?_
    refine q_move rfl rfl rfl rfl ?_
    refine s_bool_p 45 rfl (fun hkn => ?_) (fun hkn => ?_)
    · skip
      refine q_load_c (j := 0) rfl rfl rfl rfl Try.isAgg23 (by with_reducible (repeat (first | exact Take.here | apply Take.there))) (by first | rfl | exact (Nat.add_zero _).symm) (by rfl) ?_
      refine q_load_c (j := 0) rfl rfl rfl rfl Try.isAgg48 (by with_reducible (repeat (first | exact Take.here | apply Take.there))) (by first | rfl | exact (Nat.add_zero _).symm) (by rfl) ?_
      refine q_field (k := 2) rfl rfl rfl rfl Try.underlying54 rfl Try.sizeOf49 rfl ?_
      refine q_load_c (j := 2) rfl rfl rfl rfl Try.isAgg49 (by with_reducible (repeat (first | exact Take.here | apply Take.there))) (by first | rfl | exact (Nat.add_zero _).symm) (by rfl) ?_
      refine q_load_c (j := 0) rfl rfl rfl rfl Try.isAgg3 (by with_reducible (repeat (first | exact Take.here | apply Take.there))) (by first | rfl | exact (Nat.add_zero _).symm) (by rfl) ?_
      refine q_load_c (j := 0) rfl rfl rfl rfl Try.isAgg3 (by with_reducible (repeat (first | exact Take.here | apply Take.there))) (by first | rfl | exact (Nat.add_zero _).symm) (by rfl) ?_
      refine q_int rfl rfl rfl rfl rfl (b_add' _ (by (first | exact fits_i64 (by omega) (by omega) | exact fits_u64 (by omega) (by omega) | exact fits_u32 (by omega) (by omega) | exact fits_u8 (by omega) (by omega)))) ?_
      refine q_cut (h := k) (h' := k + 1) rfl rfl rfl rfl rfl rfl Try.underlying49 Try.sizeOf28 (by first | rfl | omega) (by first | rfl | omega) (by omega) (by omega) ?_
      have sp_4 := pushes_spec b q Lp mq (by omega) (by omega) ((ts.drop k).take 1) (cutA lo lc k 2) (k + 1 - k) (lc - k) A (rds_take (rds_drop hr encT_len k (by omega)) encT_len 1) (by rw [List.length_take, List.length_drop]; omega) (by omega)
      refine l_call rfl rfl rfl rfl rfl rfl Try.call40 (sp_4) (by (repeat ((with_reducible apply Takes.cons); focus (first | (with_reducible (repeat (first | exact Take.here | apply Take.there)); done) | (repeat (first | exact Take.here | apply Take.there))))); exact Takes.nil) ?_
      rintro ⟨⟩ -
      try simp only [List.cons_append, List.nil_append]
      refine ag_nil ?_
      rw [show k + 1 - k = 1 from by omega, ← fs_push Lp ((ts.drop k).take 1) mq]
      have hvl : ((ts.drop k).take 1).length = 1 := by rw [List.length_take, List.length_drop]; omega
      have hNq := nb_push hNp ((ts.drop k).take 1)
      rw [hvl] at hNq
      have hlq : (Lp ++ ((ts.drop k).take 1).zipIdx mq).length = Lp.length + 1 := by rw [nb_len, hvl]
      refine q_not rfl rfl rfl rfl ?_
      refine s_eq 55 rfl (v' := .bool false) rfl ?_
      refine q_pick_t rfl rfl rfl rfl rfl ?_
      refine r_done ?_
      refine s_keep [5, 6, 7, 56] (e' := [(5, _), (6, _), (7, _), (56, _)]) rfl ?_
      refine k_then_n ?_
      refine c_cond_f rfl ?_
      refine c_skip ?_
      refine k_then_n ?_
      refine c_seq ?_
      refine c_plain (.q 0 (.q 1 ((.l 2 [] (.done))))) (by kernel_rfl) ?_
      refine q_load_c (j := 0) rfl rfl rfl rfl Try.isAgg3 (by with_reducible (repeat (first | exact Take.here | apply Take.there))) (by first | rfl | exact (Nat.add_zero _).symm) (by rfl) ?_
      refine q_int rfl rfl rfl rfl rfl (b_add' _ (by (first | exact fits_i64 (by omega) (by omega) | exact fits_u64 (by omega) (by omega) | exact fits_u32 (by omega) (by omega) | exact fits_u8 (by omega) (by omega)))) ?_
      refine l_store (j := 0) rfl rfl rfl rfl Try.sizeOf3 (us := [_]) rfl rfl rfl (by with_reducible (repeat (first | exact Take.here | apply Take.there))) (by first | rfl | exact (Nat.add_zero _).symm) (by first | decide | (simp; done) | omega) ?_
      simp only [setL, List.set]
      refine ag_nil ?_
      refine r_done ?_
      refine k_then_n ?_
      refine c_seq ?_
      refine c_plain (.q 0 (.q 1 (.q 2 (.q 3 (.done))))) (by kernel_rfl) ?_
      refine q_load_c (j := 0) rfl rfl rfl rfl Try.isAgg3 (by with_reducible (repeat (first | exact Take.here | apply Take.there))) (by first | rfl | exact (Nat.add_zero _).symm) (by rfl) ?_
      refine q_field (k := 1) rfl rfl rfl rfl Try.underlying54 rfl Try.sizeOf3 rfl ?_
      refine q_load_c (j := 1) rfl rfl rfl rfl Try.isAgg3 (by with_reducible (repeat (first | exact Take.here | apply Take.there))) (by first | rfl | exact (Nat.add_zero _).symm) (by rfl) ?_
      refine q_int rfl rfl rfl rfl rfl (b_eql _ _ _ _) ?_
      refine r_done ?_
      refine s_keep [6, 62] (e' := [(6, _), (62, _)]) rfl ?_
      refine k_then_n ?_
      refine c_cond_p rfl (fun hlv => ?_) (fun hlv => ?_)
      · skip
        refine c_seq ?_
        refine c_plain ((.l 0 [] (.done))) (by kernel_rfl) ?_
        refine l_store (j := 0) rfl rfl rfl rfl Try.sizeOf4 (us := [_]) rfl rfl rfl (by with_reducible (repeat (first | exact Take.here | apply Take.there))) (by first | rfl | exact (Nat.add_zero _).symm) (by first | decide | (simp; done) | omega) ?_
        simp only [setL, List.set]
        refine ag_nil ?_
        refine r_done ?_
        refine k_then_n ?_
        refine c_ret ?_
        refine k_blk_ret ?_
        refine s_heap (fun _ h => Bun.fold ((by (repeat ((with_reducible apply Takes.cons); focus (first | (with_reducible (repeat (first | exact Take.here | apply Take.there)); done) | (repeat (first | exact Take.here | apply Take.there))))); exact Takes.nil : Takes _ [cells b3 0 [.pointer (some ⟨b, 0, none⟩)], cells b4 0 [.pointer (some ⟨q, 0, none⟩)], cells b5 0 [.int .i64 kd, .int .i64 lv, .slice lo n lc], cells b6 0 [.bool true], cells b7 0 [.int .i64 (((k + 1) : Nat) : Int)], rh q (fs (Lp ++ ((ts.drop k).take 1).zipIdx mq)), A] _) _ h)) ?_
        refine rr_ret ((((Lp ++ ((ts.drop k).take 1).zipIdx mq), (mq + 1), (mq + 1)), (k + 1, fs (Lp ++ ((ts.drop k).take 1).zipIdx mq), true), some .ret)) (by rfl) (by exact ⟨fun h => (by cases h), fun c hc => (by cases hc; exact ⟨rfl, rfl, rfl, rfl, ⟨hNq, (by show k + 1 + ((Lp ++ ((ts.drop k).take 1).zipIdx mq).length + (n - (k + 1))) ≤ _; omega), (by show (mq + 1) + (n - (k + 1)) ≤ _; omega)⟩⟩)⟩) (by with_reducible (repeat (first | exact Take.here | apply Take.there))) ?_
        (try simp only [List.cons_append, List.nil_append]); (repeat ((with_reducible apply Takes.cons); focus (first | (with_reducible (repeat (first | exact Take.here | apply Take.there)); done) | (repeat (first | exact Take.here | apply Take.there))))); (repeat (first | exact Takes.nil | exact Takes.self | refine takes_drop2 ?_))
      · skip
        refine c_skip ?_
        refine k_blk_n ?_
        refine s_heap (fun _ h => Bun.fold ((by (repeat ((with_reducible apply Takes.cons); focus (first | (with_reducible (repeat (first | exact Take.here | apply Take.there)); done) | (repeat (first | exact Take.here | apply Take.there))))); exact Takes.nil : Takes _ [cells b3 0 [.pointer (some ⟨b, 0, none⟩)], cells b4 0 [.pointer (some ⟨q, 0, none⟩)], cells b5 0 [.int .i64 kd, .int .i64 lv, .slice lo n lc], cells b6 0 [.bool false], cells b7 0 [.int .i64 (((k + 1) : Nat) : Int)], rh q (fs (Lp ++ ((ts.drop k).take 1).zipIdx mq)), A] _) _ h)) ?_
        refine rr_n ((((Lp ++ ((ts.drop k).take 1).zipIdx mq), (mq + 1), (mq + 1)), (k + 1, fs (Lp ++ ((ts.drop k).take 1).zipIdx mq), false), none)) (by rfl) (by exact ⟨fun _ => ⟨⟨rfl, rfl, rfl, ⟨hNq, (by show k + 1 + ((Lp ++ ((ts.drop k).take 1).zipIdx mq).length + (n - (k + 1))) ≤ _; omega), (by show (mq + 1) + (n - (k + 1)) ≤ _; omega)⟩⟩, (by show (Lp ++ ((ts.drop k).take 1).zipIdx mq).length + (n - (k + 1)) < _; omega)⟩, fun c hc => (by cases hc)⟩) (by with_reducible (repeat (first | exact Take.here | apply Take.there))) ?_
        (try simp only [List.cons_append, List.nil_append]); (repeat ((with_reducible apply Takes.cons); focus (first | (with_reducible (repeat (first | exact Take.here | apply Take.there)); done) | (repeat (first | exact Take.here | apply Take.there))))); (repeat (first | exact Takes.nil | exact Takes.self | refine takes_drop2 ?_))
    · skip
      refine q_skip rfl rfl rfl rfl ?_
      refine q_skip rfl rfl rfl rfl ?_
      refine q_skip rfl rfl rfl rfl ?_
      refine q_skip rfl rfl rfl rfl ?_
      refine q_skip rfl rfl rfl rfl ?_
      refine q_skip rfl rfl rfl rfl ?_
      refine q_skip rfl rfl rfl rfl ?_
      refine q_skip rfl rfl rfl rfl ?_
      refine l_skip rfl rfl rfl rfl ?_
      refine q_skip rfl rfl rfl rfl ?_
      refine q_pick_f rfl rfl rfl rfl rfl ?_
      refine r_done ?_
      refine s_keep [5, 6, 7, 56] (e' := [(5, _), (6, _), (7, _), (56, _)]) rfl ?_
      refine k_then_n ?_
      refine c_cond_f rfl ?_
      refine c_skip ?_
      refine k_then_n ?_
      refine c_seq ?_
      refine c_plain (.q 0 (.q 1 ((.l 2 [] (.done))))) (by kernel_rfl) ?_
      refine q_load_c (j := 0) rfl rfl rfl rfl Try.isAgg3 (by with_reducible (repeat (first | exact Take.here | apply Take.there))) (by first | rfl | exact (Nat.add_zero _).symm) (by rfl) ?_
      refine q_int rfl rfl rfl rfl rfl (b_add' _ (by (first | exact fits_i64 (by omega) (by omega) | exact fits_u64 (by omega) (by omega) | exact fits_u32 (by omega) (by omega) | exact fits_u8 (by omega) (by omega)))) ?_
      refine l_store (j := 0) rfl rfl rfl rfl Try.sizeOf3 (us := [_]) rfl rfl rfl (by with_reducible (repeat (first | exact Take.here | apply Take.there))) (by first | rfl | exact (Nat.add_zero _).symm) (by first | decide | (simp; done) | omega) ?_
      simp only [setL, List.set]
      refine ag_nil ?_
      refine r_done ?_
      refine k_then_n ?_
      refine c_seq ?_
      refine c_plain (.q 0 (.q 1 (.q 2 (.q 3 (.done))))) (by kernel_rfl) ?_
      refine q_load_c (j := 0) rfl rfl rfl rfl Try.isAgg3 (by with_reducible (repeat (first | exact Take.here | apply Take.there))) (by first | rfl | exact (Nat.add_zero _).symm) (by rfl) ?_
      refine q_field (k := 1) rfl rfl rfl rfl Try.underlying54 rfl Try.sizeOf3 rfl ?_
      refine q_load_c (j := 1) rfl rfl rfl rfl Try.isAgg3 (by with_reducible (repeat (first | exact Take.here | apply Take.there))) (by first | rfl | exact (Nat.add_zero _).symm) (by rfl) ?_
      refine q_int rfl rfl rfl rfl rfl (b_eql _ _ _ _) ?_
      refine r_done ?_
      refine s_keep [6, 62] (e' := [(6, _), (62, _)]) rfl ?_
      refine k_then_n ?_
      refine c_cond_p rfl (fun hlv => ?_) (fun hlv => ?_)
      · skip
        refine c_seq ?_
        refine c_plain ((.l 0 [] (.done))) (by kernel_rfl) ?_
        refine l_store (j := 0) rfl rfl rfl rfl Try.sizeOf4 (us := [_]) rfl rfl rfl (by with_reducible (repeat (first | exact Take.here | apply Take.there))) (by first | rfl | exact (Nat.add_zero _).symm) (by first | decide | (simp; done) | omega) ?_
        simp only [setL, List.set]
        refine ag_nil ?_
        refine r_done ?_
        refine k_then_n ?_
        refine c_ret ?_
        refine k_blk_ret ?_
        refine s_heap (fun _ h => Bun.fold ((by (repeat ((with_reducible apply Takes.cons); focus (first | (with_reducible (repeat (first | exact Take.here | apply Take.there)); done) | (repeat (first | exact Take.here | apply Take.there))))); exact Takes.nil : Takes _ [cells b3 0 [.pointer (some ⟨b, 0, none⟩)], cells b4 0 [.pointer (some ⟨q, 0, none⟩)], cells b5 0 [.int .i64 kd, .int .i64 lv, .slice lo n lc], cells b6 0 [.bool true], cells b7 0 [.int .i64 (((k + 1) : Nat) : Int)], rh q (fs Lp), A] _) _ h)) ?_
        refine rr_ret (((Lp, mq, mq), (k + 1, fs Lp, true), some .ret)) (by rfl) (by exact ⟨fun h => (by cases h), fun c hc => (by cases hc; exact ⟨rfl, rfl, rfl, rfl, ⟨hNp, (by show k + 1 + (Lp.length + (n - (k + 1))) ≤ _; omega), (by show mq + (n - (k + 1)) ≤ _; omega)⟩⟩)⟩) (by with_reducible (repeat (first | exact Take.here | apply Take.there))) ?_
        (try simp only [List.cons_append, List.nil_append]); (repeat ((with_reducible apply Takes.cons); focus (first | (with_reducible (repeat (first | exact Take.here | apply Take.there)); done) | (repeat (first | exact Take.here | apply Take.there))))); (repeat (first | exact Takes.nil | exact Takes.self | refine takes_drop2 ?_))
      · skip
        refine c_skip ?_
        refine k_blk_n ?_
        refine s_heap (fun _ h => Bun.fold ((by (repeat ((with_reducible apply Takes.cons); focus (first | (with_reducible (repeat (first | exact Take.here | apply Take.there)); done) | (repeat (first | exact Take.here | apply Take.there))))); exact Takes.nil : Takes _ [cells b3 0 [.pointer (some ⟨b, 0, none⟩)], cells b4 0 [.pointer (some ⟨q, 0, none⟩)], cells b5 0 [.int .i64 kd, .int .i64 lv, .slice lo n lc], cells b6 0 [.bool false], cells b7 0 [.int .i64 (((k + 1) : Nat) : Int)], rh q (fs Lp), A] _) _ h)) ?_
        refine rr_n (((Lp, mq, mq), (k + 1, fs Lp, false), none)) (by rfl) (by exact ⟨fun _ => ⟨⟨rfl, rfl, rfl, ⟨hNp, (by show k + 1 + (Lp.length + (n - (k + 1))) ≤ _; omega), (by show mq + (n - (k + 1)) ≤ _; omega)⟩⟩, (by show Lp.length + (n - (k + 1)) < _; omega)⟩, fun c hc => (by cases hc)⟩) (by with_reducible (repeat (first | exact Take.here | apply Take.there))) ?_
        (try simp only [List.cons_append, List.nil_append]); (repeat ((with_reducible apply Takes.cons); focus (first | (with_reducible (repeat (first | exact Take.here | apply Take.there)); done) | (repeat (first | exact Take.here | apply Take.there))))); (repeat (first | exact Takes.nil | exact Takes.self | refine takes_drop2 ?_))
  rintro ⟨⟨Lf, mf, Mf⟩, ⟨kf, Lrf, bf⟩, pf⟩ (⟨h1, h2, h3, h4, h5, h6⟩ | ⟨c, h1, h2, h3, h4, h5, h6⟩) blk_5
  try simp only [List.cons_append, List.nil_append]
  · skip
    simp only at h1 h2 h3 h4 h5 h6
    subst h1 h2 h3 h4 h5
    show Le _ _
    try simp only [List.cons_append, List.nil_append]
    refine s_take (A := Bun [cells b3 0 [.pointer (some ⟨b, 0, none⟩)], cells b4 0 [.pointer (some ⟨q, 0, none⟩)], cells b5 0 [.int .i64 kd, .int .i64 lv, .slice lo n lc], cells b6 0 [.bool false], cells b7 0 [.int .i64 ((kf : Nat) : Int)], rh q (fs ([] : List (Th × Nat))), A]) (by with_reducible (repeat (first | exact Take.here | apply Take.there))) ?_
    refine s_bun ?_
    try simp only [List.cons_append, List.nil_append]
    refine k_blk_n ?_
    refine k_then_n ?_
    refine c_seq ?_
    refine s_take (A := rh q (fs ([] : List (Th × Nat)))) (by with_reducible (repeat (first | exact Take.here | apply Take.there))) ?_
    refine rh_open fun ra rc => ?_
    refine s_take (A := own 2 encT ra rc (fs ([] : List (Th × Nat)))) (by with_reducible (repeat (first | exact Take.here | apply Take.there))) ?_
    refine own_fc fun ro1 ro2 ro3 => ?_
    refine c_plain (.q 0 (.q 1 (.q 2 (.q 3 (.q 4 (.q 5 (.q 6 (.q 7 ((.l 8 [] (.q 9 (.q 10 ((.l 11 [] (.done))))))))))))))) (by kernel_rfl) ?_
    refine q_load_c (j := 0) rfl rfl rfl rfl Try.isAgg48 (by with_reducible (repeat (first | exact Take.here | apply Take.there))) (by first | rfl | exact (Nat.add_zero _).symm) (by rfl) ?_
    refine q_nil_p rfl rfl rfl rfl ?_
    refine q_field (k := 0) rfl rfl rfl rfl Try.underlying51 rfl Try.sizeOf49 rfl ?_
    refine q_load_c (j := 0) rfl rfl rfl rfl Try.isAgg49 (by with_reducible (repeat (first | exact Take.here | apply Take.there))) (by first | rfl | exact (Nat.add_zero _).symm) (by rfl) ?_
    refine q_len rfl rfl rfl rfl Try.underlying49 ?_
    refine q_int rfl rfl rfl rfl rfl (b_eql _ _ _ _) ?_
    refine s_eq 68 rfl (v' := .bool true) (by rfl) ?_
    refine rh_fold (q := q) (fs ([] : List (Th × Nat))) (ao := ra) (cap := rc) (by (repeat ((with_reducible apply Takes.cons); focus (first | (with_reducible (repeat (first | exact Take.here | apply Take.there)); done) | (repeat (first | exact Take.here | apply Take.there))))); exact Takes.nil) (by rfl) ?_
    refine q_move rfl rfl rfl rfl ?_
    refine q_load_c (j := 0) rfl rfl rfl rfl Try.isAgg23 (by with_reducible (repeat (first | exact Take.here | apply Take.there))) (by first | rfl | exact (Nat.add_zero _).symm) (by rfl) ?_
    have sp_6 := zlen_spec b [] mf mf
    refine l_call rfl rfl rfl rfl rfl rfl Try.call13 (sp_6) (by (repeat ((with_reducible apply Takes.cons); focus (first | (with_reducible (repeat (first | exact Take.here | apply Take.there)); done) | (repeat (first | exact Take.here | apply Take.there))))); exact Takes.nil) ?_
    rintro ⟨⟩ -
    try simp only [List.cons_append, List.nil_append]
    refine ag_nil ?_
    refine q_int rfl rfl rfl rfl rfl (b_eql _ _ _ _) ?_
    refine s_eq 72 rfl (v' := .bool true) (by rfl) ?_
    refine q_pick_t rfl rfl rfl rfl rfl ?_
    refine l_store (j := 0) rfl rfl rfl rfl Try.sizeOf4 (us := [_]) rfl rfl rfl (by with_reducible (repeat (first | exact Take.here | apply Take.there))) (by first | rfl | exact (Nat.add_zero _).symm) (by first | decide | (simp; done) | omega) ?_
    simp only [setL, List.set]
    refine ag_nil ?_
    refine r_done ?_
    refine s_keep [6] (e' := [(6, _)]) rfl ?_
    refine k_then_n ?_
    refine c_ret ?_
    refine rm_ret ?_
    refine rm_mark (blk := blk_5) (by with_reducible (repeat (first | exact Take.here | apply Take.there))) ?_
    refine rm_done (us := [_]) rfl ⟨rv_cell1 rfl Try.isAgg4 (by with_reducible (repeat (first | exact Take.here | apply Take.there))) (j := 0) rfl rfl, trivial⟩ (([], mf)) (by first | rfl | (first | rfl | (congr 1; done) | (congr 1 <;> first | rfl | omega | (simp; done) | (simp; omega)))) (by exact ⟨h6.nb, Nat.zero_le _, by have := h6.mad; show mf ≤ _; omega⟩) ?_
    (repeat ((with_reducible apply Takes.cons); focus (first | (with_reducible (repeat (first | exact Take.here | apply Take.there)); done) | (repeat (first | exact Take.here | apply Take.there))))); (repeat (first | exact Takes.nil | exact Takes.self | refine takes_drop2 ?_))
  · skip
    simp only at h1 h2 h3 h4 h5 h6
    subst h1
    subst h2 h3 h4 h5
    show Le _ _
    try simp only [List.cons_append, List.nil_append]
    refine s_take (A := Bun [cells b3 0 [.pointer (some ⟨b, 0, none⟩)], cells b4 0 [.pointer (some ⟨q, 0, none⟩)], cells b5 0 [.int .i64 kd, .int .i64 lv, .slice lo n lc], cells b6 0 [.bool true], cells b7 0 [.int .i64 ((kf : Nat) : Int)], rh q (fs Lf), A]) (by with_reducible (repeat (first | exact Take.here | apply Take.there))) ?_
    refine s_bun ?_
    try simp only [List.cons_append, List.nil_append]
    refine c_ret ?_
    refine k_blk_ret ?_
    refine k_then_ret ?_
    refine rm_ret ?_
    refine rm_mark (blk := blk_5) (by with_reducible (repeat (first | exact Take.here | apply Take.there))) ?_
    refine rm_done (us := [_]) rfl ⟨rv_cell1 rfl Try.isAgg4 (by with_reducible (repeat (first | exact Take.here | apply Take.there))) (j := 0) rfl rfl, trivial⟩ ((Lf, Mf)) (by first | rfl | (first | rfl | (congr 1; done) | (congr 1 <;> first | rfl | omega | (simp; done) | (simp; omega)))) (by exact ⟨h6.nb, by have := h6.cnt; show Lf.length ≤ _; omega, by have := h6.mad; show Mf ≤ _; omega⟩) ?_
    (repeat ((with_reducible apply Takes.cons); focus (first | (with_reducible (repeat (first | exact Take.here | apply Take.there)); done) | (repeat (first | exact Take.here | apply Take.there))))); (repeat (first | exact Takes.nil | exact Takes.self | refine takes_drop2 ?_))

theorem plays1_spec (b q : Nat) (Lz : List (Th × Nat)) (m : Nat) (hLl : Lz.length ≤ 4000000) (hml : m ≤ 4000000) (hNb : Nb Lz m) (kd lv : Int) (ts : List Th) (lo : Option Addr) (n lc : Nat) (A : HProp) (hr : RdS A lo (ts.flatMap encT)) (hn : ts.length = n) (hb : n ≤ 1000000) (hlc : n ≤ lc) : Spec Try.prog 22 [.pointer (some ⟨b, 0, none⟩), .pointer (some ⟨q, 0, none⟩), .agg #[.int .i64 kd, .int .i64 lv, .slice lo n lc]] [hpz b Lz m m, rh q (fs Lz), A] (fun (r : List (Th × Nat) × Nat) => .bool true) (fun r => Nb r.1 r.2 ∧ r.1.length ≤ Lz.length + n ∧ r.2 ≤ m + n) (fun r => [hpz b r.1 r.2 r.2, rh q (fs r.1), A]) := by
  refine spec_mk (n := 87) Try.func22 rfl rfl rfl ?_
  intro Γ w0
  simp only [argE, List.cons_append, List.nil_append, Nat.zero_add, Nat.reduceAdd]
  refine c_seq ?_
  refine c_plain ((.l 0 [] (.q 1 (.done)))) (by kernel_rfl) ?_
  refine l_box rfl rfl rfl rfl (us := [_, _, _]) rfl ?_
  intro b5
  refine ag_nil ?_
  refine q_assign rfl rfl rfl rfl ?_
  refine r_done ?_
  refine k_then_n ?_
  refine c_seq ?_
  refine c_seq ?_
  refine c_plain (.q 0 (.q 1 (.done))) (by kernel_rfl) ?_
  refine q_field (k := 0) rfl rfl rfl rfl Try.underlying54 rfl Try.sizeOf3 rfl ?_
  refine q_load_c (j := 0) rfl rfl rfl rfl Try.isAgg3 (by with_reducible (repeat (first | exact Take.here | apply Take.there))) (by first | rfl | exact (Nat.add_zero _).symm) (by rfl) ?_
  refine r_done ?_
  refine k_then_n ?_
  refine c_block ?_
  refine c_seq ?_
  refine c_plain (.q 0 (.q 1 (.done))) (by kernel_rfl) ?_
  refine q_int rfl rfl rfl rfl rfl (b_eql _ _ _ _) ?_
  refine q_assign rfl rfl rfl rfl ?_
  refine r_done ?_
  refine s_keep [0, 1, 5, 16, 17] (e' := [(0, _), (1, _), (5, _), (16, _), (17, _)]) rfl ?_
  refine k_then_n ?_
  refine c_cond_p rfl (fun k1 => ?_) (fun k1 => ?_)
  · skip
    refine c_seq ?_
    refine c_plain (.q 0 (.q 1 (.q 2 (.q 3 ((.l 4 [] (.q 5 (.done)))))))) (by kernel_rfl) ?_
    refine q_move rfl rfl rfl rfl ?_
    refine q_move rfl rfl rfl rfl ?_
    refine q_field (k := 2) rfl rfl rfl rfl Try.underlying54 rfl Try.sizeOf49 rfl ?_
    refine q_load_c (j := 2) rfl rfl rfl rfl Try.isAgg49 (by with_reducible (repeat (first | exact Take.here | apply Take.there))) (by first | rfl | exact (Nat.add_zero _).symm) (by rfl) ?_
    have sp_1 := pushes_spec b q Lz m (by omega) (by omega) ts lo n lc A hr hn (by omega)
    refine l_call rfl rfl rfl rfl rfl rfl Try.call40 (sp_1) (by (repeat ((with_reducible apply Takes.cons); focus (first | (with_reducible (repeat (first | exact Take.here | apply Take.there)); done) | (repeat (first | exact Take.here | apply Take.there))))); exact Takes.nil) ?_
    rintro ⟨⟩ -
    try simp only [List.cons_append, List.nil_append]
    refine ag_nil ?_
    refine q_assign rfl rfl rfl rfl ?_
    refine r_done ?_
    refine s_keep [6] (e' := [(6, _)]) rfl ?_
    refine k_then_n ?_
    refine c_ret ?_
    refine k_blk_ret ?_
    refine k_then_ret ?_
    rw [← fs_push Lz ts m]
    refine ret1 rfl rfl ((Lz ++ ts.zipIdx m, m + n)) (by first | rfl | (first | rfl | (congr 1; done) | (congr 1 <;> first | rfl | omega | (simp; done) | (simp; omega)))) (by exact ⟨hn ▸ nb_push hNb ts, by rw [nb_len, hn]; exact Nat.le_refl _, Nat.le_refl _⟩) ?_
    (repeat ((with_reducible apply Takes.cons); focus (first | (with_reducible (repeat (first | exact Take.here | apply Take.there)); done) | (repeat (first | exact Take.here | apply Take.there))))); (repeat (first | exact Takes.nil | exact Takes.self | refine takes_drop2 ?_))
  · skip
    refine c_seq ?_
    refine c_plain (.q 0 (.q 1 (.done))) (by kernel_rfl) ?_
    refine q_int rfl rfl rfl rfl rfl (b_eql _ _ _ _) ?_
    refine q_assign rfl rfl rfl rfl ?_
    refine r_done ?_
    refine k_then_n ?_
    refine c_cond_p rfl (fun k2 => ?_) (fun k2 => ?_)
    · skip
      refine c_seq ?_
      refine c_plain (.q 0 ((.l 1 [] (.q 2 (.q 3 (.q 4 ((.l 5 [] ((.l 6 [] (.q 7 (.done)))))))))))) (by kernel_rfl) ?_
      refine q_move rfl rfl rfl rfl ?_
      have sp_2 := zpop_spec b Lz m m hNb.rz (by omega)
      refine l_call rfl rfl rfl rfl rfl rfl Try.call12 (sp_2) (by (repeat ((with_reducible apply Takes.cons); focus (first | (with_reducible (repeat (first | exact Take.here | apply Take.there)); done) | (repeat (first | exact Take.here | apply Take.there))))); exact Takes.nil) ?_
      rintro ⟨⟩ -
      try simp only [List.cons_append, List.nil_append]
      refine ag_nil ?_
      refine q_move rfl rfl rfl rfl ?_
      refine q_extract rfl rfl rfl rfl rfl ?_
      refine q_extract rfl rfl rfl rfl rfl ?_
      refine l_alloc rfl rfl rfl Try.zeroValue28 (zs := [.int .i64 0, .int .i64 0]) rfl ?_
      intro b7
      refine ag_nil ?_
      refine l_store (j := 0) rfl rfl rfl rfl Try.sizeOf28 (us := [_, _]) rfl rfl rfl (by with_reducible (repeat (first | exact Take.here | apply Take.there))) (by first | rfl | exact (Nat.add_zero _).symm) (by first | decide | (simp; done) | omega) ?_
      simp only [setL, List.set]
      refine ag_nil ?_
      refine q_assign rfl rfl rfl rfl ?_
      refine r_done ?_
      refine s_keep [1, 7, 8] (e' := [(1, _), (7, _), (8, _)]) rfl ?_
      refine k_then_n ?_
      refine c_seq ?_
      refine c_plain (.q 0 ((.l 1 [] (.q 2 (.q 3 (.q 4 ((.l 5 [] ((.l 6 [] (.q 7 (.done)))))))))))) (by kernel_rfl) ?_
      refine q_move rfl rfl rfl rfl ?_
      have sp_3 := rpop_spec q (fs Lz) (by rw [fs_len]; omega)
      refine l_call rfl rfl rfl rfl rfl rfl Try.call41 (sp_3) (by (repeat ((with_reducible apply Takes.cons); focus (first | (with_reducible (repeat (first | exact Take.here | apply Take.there)); done) | (repeat (first | exact Take.here | apply Take.there))))); exact Takes.nil) ?_
      rintro ⟨⟩ -
      try simp only [List.cons_append, List.nil_append]
      refine ag_nil ?_
      refine q_move rfl rfl rfl rfl ?_
      refine q_extract rfl rfl rfl rfl rfl ?_
      refine q_extract rfl rfl rfl rfl rfl ?_
      refine l_alloc rfl rfl rfl Try.zeroValue28 (zs := [.int .i64 0, .int .i64 0]) rfl ?_
      intro b9
      refine ag_nil ?_
      refine l_store (j := 0) rfl rfl rfl rfl Try.sizeOf28 (us := [_, _]) rfl rfl rfl (by with_reducible (repeat (first | exact Take.here | apply Take.there))) (by first | rfl | exact (Nat.add_zero _).symm) (by first | decide | (simp; done) | omega) ?_
      simp only [setL, List.set]
      refine ag_nil ?_
      refine q_assign rfl rfl rfl rfl ?_
      refine r_done ?_
      refine s_keep [7, 8, 9, 10] (e' := [(7, _), (8, _), (9, _), (10, _)]) rfl ?_
      refine k_then_n ?_
      refine c_seq ?_
      refine c_plain (.q 0 (.q 1 (.q 2 (.q 3 (.q 4 (.q 5 (.q 6 (.q 7 (.q 8 (.done)))))))))) (by kernel_rfl) ?_
      refine q_loadN_c rfl rfl rfl rfl Try.isAgg28 Try.sizeOf28 (by with_reducible (repeat (first | exact Take.here | apply Take.there))) 0 (us := [_, _]) (by first | rfl | exact (Nat.add_zero _).symm) rfl rfl ?_
      refine q_loadN_c rfl rfl rfl rfl Try.isAgg28 Try.sizeOf28 (by with_reducible (repeat (first | exact Take.here | apply Take.there))) 0 (us := [_, _]) (by first | rfl | exact (Nat.add_zero _).symm) rfl rfl ?_
      refine q_eqS rfl rfl rfl rfl rfl (by kernel_rfl) (eqc_struct Try.underlying28 (by kernel_rfl) (eqf_cons rfl Try.isAgg3 rfl rfl (eqc_int Try.underlying3) (eqf_last rfl Try.isAgg3 rfl rfl (eqc_int Try.underlying3)))) ?_
      refine s_eq 38 rfl (v' := .bool (decide (((pkL (fs Lz)).1.1, (pkL (fs Lz)).1.2) = ((pkL (fs Lz)).1.1, (pkL (fs Lz)).1.2)))) (by first | (congr 1; done) | (congr 1; rw [Bool.eq_iff_iff]; simp [Prod.ext_iff, and_assoc])) ?_
      refine s_eq 38 rfl (v' := .bool true) (by simp) ?_
      refine q_move rfl rfl rfl rfl ?_
      refine q_move rfl rfl rfl rfl ?_
      refine q_move rfl rfl rfl rfl ?_
      refine q_eqb rfl rfl rfl rfl rfl Try.underlying4 ?_
      refine s_eq 42 rfl (v' := .bool true) (by simp) ?_
      refine q_pick_t rfl rfl rfl rfl rfl ?_
      refine q_assign rfl rfl rfl rfl ?_
      refine r_done ?_
      refine s_keep [6] (e' := [(6, _)]) rfl ?_
      refine k_then_n ?_
      refine c_ret ?_
      refine k_blk_ret ?_
      refine k_then_ret ?_
      rw [← fs_erase]
      refine ret1 rfl rfl ((Lz.eraseIdx (mI (fs Lz)), m)) (by first | rfl | (first | rfl | (congr 1; done) | (congr 1 <;> first | rfl | omega | (simp; done) | (simp; omega)))) (by exact ⟨nb_erase hNb _, Nat.le_trans (List.length_eraseIdx_le _ _) (Nat.le_add_right _ _), Nat.le_add_right _ _⟩) ?_
      (repeat ((with_reducible apply Takes.cons); focus (first | (with_reducible (repeat (first | exact Take.here | apply Take.there)); done) | (repeat (first | exact Take.here | apply Take.there))))); (repeat (first | exact Takes.nil | exact Takes.self | refine takes_drop2 ?_))
    · skip
      refine c_seq ?_
      refine c_plain (.q 0 (.q 1 (.done))) (by kernel_rfl) ?_
      refine q_int rfl rfl rfl rfl rfl (b_eql _ _ _ _) ?_
      refine q_assign rfl rfl rfl rfl ?_
      refine r_done ?_
      refine s_keep [0, 1, 5, 16, 44] (e' := [(0, _), (1, _), (5, _), (16, _), (44, _)]) rfl ?_
      refine k_then_n ?_
      refine c_cond_p rfl (fun k3 => ?_) (fun k3 => ?_)
      · skip
        refine c_seq ?_
        refine c_plain (.q 0 ((.l 1 [] (.q 2 (.q 3 (.q 4 ((.l 5 [] ((.l 6 [] (.q 7 (.done)))))))))))) (by kernel_rfl) ?_
        refine q_move rfl rfl rfl rfl ?_
        have sp_4 := zpeek_spec b Lz m m hNb.rz
        refine l_call rfl rfl rfl rfl rfl rfl Try.call35 (sp_4) (by (repeat ((with_reducible apply Takes.cons); focus (first | (with_reducible (repeat (first | exact Take.here | apply Take.there)); done) | (repeat (first | exact Take.here | apply Take.there))))); exact Takes.nil) ?_
        rintro ⟨⟩ -
        try simp only [List.cons_append, List.nil_append]
        refine ag_nil ?_
        refine q_move rfl rfl rfl rfl ?_
        refine q_extract rfl rfl rfl rfl rfl ?_
        refine q_extract rfl rfl rfl rfl rfl ?_
        refine l_alloc rfl rfl rfl Try.zeroValue28 (zs := [.int .i64 0, .int .i64 0]) rfl ?_
        intro b11
        refine ag_nil ?_
        refine l_store (j := 0) rfl rfl rfl rfl Try.sizeOf28 (us := [_, _]) rfl rfl rfl (by with_reducible (repeat (first | exact Take.here | apply Take.there))) (by first | rfl | exact (Nat.add_zero _).symm) (by first | decide | (simp; done) | omega) ?_
        simp only [setL, List.set]
        refine ag_nil ?_
        refine q_assign rfl rfl rfl rfl ?_
        refine r_done ?_
        refine s_keep [1, 11, 12] (e' := [(1, _), (11, _), (12, _)]) rfl ?_
        refine k_then_n ?_
        refine c_seq ?_
        refine c_plain (.q 0 ((.l 1 [] (.q 2 (.q 3 (.q 4 ((.l 5 [] ((.l 6 [] (.q 7 (.done)))))))))))) (by kernel_rfl) ?_
        refine q_move rfl rfl rfl rfl ?_
        have sp_5 := rpeek_spec q (fs Lz) (by rw [fs_len]; omega)
        refine l_call rfl rfl rfl rfl rfl rfl Try.call42 (sp_5) (by (repeat ((with_reducible apply Takes.cons); focus (first | (with_reducible (repeat (first | exact Take.here | apply Take.there)); done) | (repeat (first | exact Take.here | apply Take.there))))); exact Takes.nil) ?_
        rintro ⟨⟩ -
        try simp only [List.cons_append, List.nil_append]
        refine ag_nil ?_
        refine q_move rfl rfl rfl rfl ?_
        refine q_extract rfl rfl rfl rfl rfl ?_
        refine q_extract rfl rfl rfl rfl rfl ?_
        refine l_alloc rfl rfl rfl Try.zeroValue28 (zs := [.int .i64 0, .int .i64 0]) rfl ?_
        intro b13
        refine ag_nil ?_
        refine l_store (j := 0) rfl rfl rfl rfl Try.sizeOf28 (us := [_, _]) rfl rfl rfl (by with_reducible (repeat (first | exact Take.here | apply Take.there))) (by first | rfl | exact (Nat.add_zero _).symm) (by first | decide | (simp; done) | omega) ?_
        simp only [setL, List.set]
        refine ag_nil ?_
        refine q_assign rfl rfl rfl rfl ?_
        refine r_done ?_
        refine s_keep [11, 12, 13, 14] (e' := [(11, _), (12, _), (13, _), (14, _)]) rfl ?_
        refine k_then_n ?_
        refine c_seq ?_
        refine c_plain (.q 0 (.q 1 (.q 2 (.q 3 (.q 4 (.q 5 (.q 6 (.q 7 (.q 8 (.done)))))))))) (by kernel_rfl) ?_
        refine q_loadN_c rfl rfl rfl rfl Try.isAgg28 Try.sizeOf28 (by with_reducible (repeat (first | exact Take.here | apply Take.there))) 0 (us := [_, _]) (by first | rfl | exact (Nat.add_zero _).symm) rfl rfl ?_
        refine q_loadN_c rfl rfl rfl rfl Try.isAgg28 Try.sizeOf28 (by with_reducible (repeat (first | exact Take.here | apply Take.there))) 0 (us := [_, _]) (by first | rfl | exact (Nat.add_zero _).symm) rfl rfl ?_
        refine q_eqS rfl rfl rfl rfl rfl (by kernel_rfl) (eqc_struct Try.underlying28 (by kernel_rfl) (eqf_cons rfl Try.isAgg3 rfl rfl (eqc_int Try.underlying3) (eqf_last rfl Try.isAgg3 rfl rfl (eqc_int Try.underlying3)))) ?_
        refine s_eq 58 rfl (v' := .bool (decide (((pkL (fs Lz)).1.1, (pkL (fs Lz)).1.2) = ((pkL (fs Lz)).1.1, (pkL (fs Lz)).1.2)))) (by first | (congr 1; done) | (congr 1; rw [Bool.eq_iff_iff]; simp [Prod.ext_iff, and_assoc])) ?_
        refine s_eq 58 rfl (v' := .bool true) (by simp) ?_
        refine q_move rfl rfl rfl rfl ?_
        refine q_move rfl rfl rfl rfl ?_
        refine q_move rfl rfl rfl rfl ?_
        refine q_eqb rfl rfl rfl rfl rfl Try.underlying4 ?_
        refine s_eq 62 rfl (v' := .bool true) (by simp) ?_
        refine q_pick_t rfl rfl rfl rfl rfl ?_
        refine q_assign rfl rfl rfl rfl ?_
        refine r_done ?_
        refine s_keep [6] (e' := [(6, _)]) rfl ?_
        refine k_then_n ?_
        refine c_ret ?_
        refine k_blk_ret ?_
        refine k_then_ret ?_
        refine ret1 rfl rfl ((Lz, m)) (by first | rfl | (first | rfl | (congr 1; done) | (congr 1 <;> first | rfl | omega | (simp; done) | (simp; omega)))) (by exact ⟨hNb, Nat.le_add_right _ _, Nat.le_add_right _ _⟩) ?_
        (repeat ((with_reducible apply Takes.cons); focus (first | (with_reducible (repeat (first | exact Take.here | apply Take.there)); done) | (repeat (first | exact Take.here | apply Take.there))))); (repeat (first | exact Takes.nil | exact Takes.self | refine takes_drop2 ?_))
      · skip
        refine c_seq ?_
        refine c_plain (.q 0 (.q 1 (.done))) (by kernel_rfl) ?_
        refine q_int rfl rfl rfl rfl rfl (b_eql _ _ _ _) ?_
        refine q_assign rfl rfl rfl rfl ?_
        refine r_done ?_
        refine k_then_n ?_
        refine c_cond_p rfl (fun k4 => ?_) (fun k4 => ?_)
        · skip
          refine c_seq ?_
          refine s_take (A := rh q (fs Lz)) (by with_reducible (repeat (first | exact Take.here | apply Take.there))) ?_
          refine rh_open fun ra rc => ?_
          refine s_take (A := own 2 encT ra rc (fs Lz)) (by with_reducible (repeat (first | exact Take.here | apply Take.there))) ?_
          refine own_fc fun ro1 ro2 ro3 => ?_
          refine c_draw rfl (.q 0 (.q 2 (.q 3 (.q 4 (.q 5 (.q 6 ((.l 1 [5, 6] (.q 7 (.q 8 (.done))))))))))) (by kernel_rfl) ?_
          refine q_move rfl rfl rfl rfl ?_
          refine q_move rfl rfl rfl rfl ?_
          refine q_nil_p rfl rfl rfl rfl ?_
          refine q_field (k := 0) rfl rfl rfl rfl Try.underlying51 rfl Try.sizeOf49 rfl ?_
          refine q_load_c (j := 0) rfl rfl rfl rfl Try.isAgg49 (by with_reducible (repeat (first | exact Take.here | apply Take.there))) (by first | rfl | exact (Nat.add_zero _).symm) (by rfl) ?_
          refine q_len rfl rfl rfl rfl Try.underlying49 ?_
          have sp_6 := zlen_spec b Lz m m
          refine l_call rfl rfl rfl rfl rfl rfl Try.call13 (sp_6) (by (repeat ((with_reducible apply Takes.cons); focus (first | (with_reducible (repeat (first | exact Take.here | apply Take.there)); done) | (repeat (first | exact Take.here | apply Take.there))))); exact Takes.nil) ?_
          rintro ⟨⟩ -
          try simp only [List.cons_append, List.nil_append]
          refine ag_load_c (q := 0) rfl rfl rfl Try.isAgg49 (by with_reducible (repeat (first | exact Take.here | apply Take.there))) (by first | rfl | exact (Nat.add_zero _).symm) (by rfl) ?_
          refine ag_len rfl rfl rfl Try.underlying49 ?_
          refine ag_nil ?_
          refine q_int rfl rfl rfl rfl rfl (b_eql _ _ _ _) ?_
          refine s_eq 73 rfl (v' := .bool true) (by rw [fs_len]; simp) ?_
          refine rh_fold (q := q) (fs Lz) (ao := ra) (cap := rc) (by (repeat ((with_reducible apply Takes.cons); focus (first | (with_reducible (repeat (first | exact Take.here | apply Take.there)); done) | (repeat (first | exact Take.here | apply Take.there))))); exact Takes.nil) (by rfl) ?_
          refine q_assign rfl rfl rfl rfl ?_
          refine r_done ?_
          refine s_keep [6] (e' := [(6, _)]) rfl ?_
          refine k_then_n ?_
          refine c_ret ?_
          refine k_blk_ret ?_
          refine k_then_ret ?_
          refine ret1 rfl rfl ((Lz, m)) (by first | rfl | (first | rfl | (congr 1; done) | (congr 1 <;> first | rfl | omega | (simp; done) | (simp; omega)))) (by exact ⟨hNb, Nat.le_add_right _ _, Nat.le_add_right _ _⟩) ?_
          (repeat ((with_reducible apply Takes.cons); focus (first | (with_reducible (repeat (first | exact Take.here | apply Take.there)); done) | (repeat (first | exact Take.here | apply Take.there))))); (repeat (first | exact Takes.nil | exact Takes.self | refine takes_drop2 ?_))
        · skip
          refine c_seq ?_
          refine c_plain (.q 0 (.q 1 (.done))) (by kernel_rfl) ?_
          refine q_int rfl rfl rfl rfl rfl (b_eql _ _ _ _) ?_
          refine q_assign rfl rfl rfl rfl ?_
          refine r_done ?_
          refine s_keep [0, 1, 5, 16, 74] (e' := [(0, _), (1, _), (5, _), (16, _), (74, _)]) rfl ?_
          refine k_then_n ?_
          refine c_cond_p rfl (fun k5 => ?_) (fun k5 => ?_)
          · skip
            refine c_seq ?_
            refine c_plain (.q 0 (.q 1 (.q 2 (.q 3 ((.l 4 [] (.q 5 (.done)))))))) (by kernel_rfl) ?_
            refine q_move rfl rfl rfl rfl ?_
            refine q_move rfl rfl rfl rfl ?_
            refine q_field (k := 1) rfl rfl rfl rfl Try.underlying54 rfl Try.sizeOf3 rfl ?_
            refine q_load_c (j := 1) rfl rfl rfl rfl Try.isAgg3 (by with_reducible (repeat (first | exact Take.here | apply Take.there))) (by first | rfl | exact (Nat.add_zero _).symm) (by rfl) ?_
            have sp_7 := goes_spec b q Lz m (by omega) hNb.rz (by omega) (by omega) lv
            refine l_call rfl rfl rfl rfl rfl rfl Try.call43 (sp_7) (by (repeat ((with_reducible apply Takes.cons); focus (first | (with_reducible (repeat (first | exact Take.here | apply Take.there)); done) | (repeat (first | exact Take.here | apply Take.there))))); exact Takes.nil) ?_
            rintro ⟨⟩ -
            try simp only [List.cons_append, List.nil_append]
            refine ag_nil ?_
            refine q_assign rfl rfl rfl rfl ?_
            refine r_done ?_
            refine s_keep [6] (e' := [(6, _)]) rfl ?_
            refine k_then_n ?_
            refine c_ret ?_
            refine k_blk_ret ?_
            refine k_then_ret ?_
            refine ret1 rfl rfl ((Lz, m)) (by first | rfl | (first | rfl | (congr 1; done) | (congr 1 <;> first | rfl | omega | (simp; done) | (simp; omega)))) (by exact ⟨hNb, Nat.le_add_right _ _, Nat.le_add_right _ _⟩) ?_
            (repeat ((with_reducible apply Takes.cons); focus (first | (with_reducible (repeat (first | exact Take.here | apply Take.there)); done) | (repeat (first | exact Take.here | apply Take.there))))); (repeat (first | exact Takes.nil | exact Takes.self | refine takes_drop2 ?_))
          · skip
            refine c_seq ?_
            refine c_plain (.q 0 (.q 1 (.done))) (by kernel_rfl) ?_
            refine q_int rfl rfl rfl rfl rfl (b_eql _ _ _ _) ?_
            refine q_assign rfl rfl rfl rfl ?_
            refine r_done ?_
            refine k_then_n ?_
            refine c_cond_p rfl (fun k6 => ?_) (fun k6 => ?_)
            · skip
              refine c_seq ?_
              refine c_plain (.q 0 (.q 1 (.q 2 ((.l 3 [] (.q 4 (.done))))))) (by kernel_rfl) ?_
              refine q_move rfl rfl rfl rfl ?_
              refine q_move rfl rfl rfl rfl ?_
              refine q_loadN_c rfl rfl rfl rfl Try.isAgg54 Try.sizeOf54 (by with_reducible (repeat (first | exact Take.here | apply Take.there))) 0 (us := [_, _, _]) (by first | rfl | exact (Nat.add_zero _).symm) rfl rfl ?_
              have sp_8 := drains_spec b q Lz m hLl hml hNb kd lv ts lo n lc A hr hn hb hlc
              refine l_call rfl rfl rfl rfl rfl rfl Try.call23 (sp_8) (by (repeat ((with_reducible apply Takes.cons); focus (first | (with_reducible (repeat (first | exact Take.here | apply Take.there)); done) | (repeat (first | exact Take.here | apply Take.there))))); exact Takes.nil) ?_
              rintro ⟨Lf, mf⟩ ⟨hf1, hf2, hf3⟩
              try simp only [List.cons_append, List.nil_append]
              refine ag_nil ?_
              refine q_assign rfl rfl rfl rfl ?_
              refine r_done ?_
              refine s_keep [6] (e' := [(6, _)]) rfl ?_
              refine k_then_n ?_
              refine c_ret ?_
              refine k_blk_ret ?_
              refine k_then_ret ?_
              refine ret1 rfl rfl ((Lf, mf)) (by first | rfl | (first | rfl | (congr 1; done) | (congr 1 <;> first | rfl | omega | (simp; done) | (simp; omega)))) (by exact ⟨hf1, hf2, hf3⟩) ?_
              (repeat ((with_reducible apply Takes.cons); focus (first | (with_reducible (repeat (first | exact Take.here | apply Take.there)); done) | (repeat (first | exact Take.here | apply Take.there))))); (repeat (first | exact Takes.nil | exact Takes.self | refine takes_drop2 ?_))
            · skip
              refine c_skip ?_
              refine k_blk_n ?_
              refine k_then_n ?_
              refine c_seq ?_
              refine c_plain (.q 0 (.done)) (by kernel_rfl) ?_
              refine q_assign rfl rfl rfl rfl ?_
              refine r_done ?_
              refine s_keep [6] (e' := [(6, _)]) rfl ?_
              refine k_then_n ?_
              refine c_ret ?_
              refine ret1 rfl rfl ((Lz, m)) (by first | rfl | (first | rfl | (congr 1; done) | (congr 1 <;> first | rfl | omega | (simp; done) | (simp; omega)))) (by exact ⟨hNb, Nat.le_add_right _ _, Nat.le_add_right _ _⟩) ?_
              (repeat ((with_reducible apply Takes.cons); focus (first | (with_reducible (repeat (first | exact Take.here | apply Take.there)); done) | (repeat (first | exact Take.here | apply Take.there))))); (repeat (first | exact Takes.nil | exact Takes.self | refine takes_drop2 ?_))
end Go.Ab.HpT
