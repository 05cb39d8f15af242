/- What the law Pairs rests on, part 5 of 6. -/
import Derived.Test.YtiefkbajaffgcaaPairsD
set_option linter.unusedVariables false
set_option linter.unusedSimpArgs false
set_option maxRecDepth 100000
namespace Go.Ab.Fe
open Go Go.Proofs Go.Ab
theorem rnext_spec (pa : Option Addr) (pc b : Nat) (x : CS) (hx : CInv x) (hn : x.n ≤ 1000000000000000) (pl : List Int) (hpl : x.pa = pl) (k t o : Int) : Spec Try.prog 41 [.pointer (some ⟨b, 0, none⟩), .agg #[.int .i64 k, .int .i64 t, .int .i64 o]] [rk pa pc b x, own 1 encZ pa pc pl] (fun (_ : Unit) => .int .i64 (nxE x k t o)) (fun _ => True) (fun _ => [rk pa pc b (nxF x k t o), own 1 encZ pa pc pl]) := by
 refine spec_mk (n := 123) Try.func41 rfl rfl rfl ?_
 intro Γ w0
 simp only [argE, List.cons_append, List.nil_append, Nat.zero_add, Nat.reduceAdd]
 have hn0 := hx.n0
 have htl := hx.tl
 have hol := hx.ol
 have hbl := hx.bl
 refine c_seq ?_
 refine c_plain ((.l 0 [] (.q 1 (.done)))) (by kernel_rfl) ?_
 refine l_box rfl rfl rfl rfl (us := [_, _, _]) rfl ?_
 intro b3
 refine ag_nil ?_
 refine q_assign rfl rfl rfl rfl ?_
 refine r_done ?_
 refine k_then_n ?_
 refine c_seq ?_
 refine c_seq ?_
 refine c_plain (.q 0 (.q 1 (.done))) (by kernel_rfl) ?_
 refine q_move rfl rfl rfl rfl ?_
 refine q_eq_nil rfl rfl rfl rfl Try.underlying83 ?_
 refine s_eq 8 rfl (v' := .bool false) rfl ?_
 refine r_done ?_
 refine k_then_n ?_
 refine c_cond_f rfl ?_
 refine c_skip ?_
 refine k_then_n ?_
 refine c_seq ?_
 refine c_plain (.q 0 (.q 1 ((.l 2 [] (.q 3 (.done)))))) (by kernel_rfl) ?_
 refine q_move rfl rfl rfl rfl ?_
 refine q_loadN_c rfl rfl rfl rfl Try.isAgg36 Try.sizeOf36 Tk 0 (us := [_, _, _]) (by first | rfl | exact (Nat.add_zero _).symm) rfl rfl ?_
 have sp_1 := rcan_spec pa pc b x hx k t o
 refine l_call rfl rfl rfl rfl rfl rfl Try.call38 (sp_1) Ts ?_
 rintro ⟨⟩ -
 try simp only [List.cons_append, List.nil_append]
 refine ag_nil ?_
 refine q_assign rfl rfl rfl rfl ?_
 refine r_done ?_
 refine s_keep [0, 3, 5] (e' := [(0, _), (3, _), (5, _)]) rfl ?_
 refine k_then_n ?_
 refine c_seq ?_
 refine c_seq ?_
 refine c_plain (.q 0 (.q 1 (.done))) (by kernel_rfl) ?_
 refine q_move rfl rfl rfl rfl ?_
 refine q_not rfl rfl rfl rfl ?_
 refine r_done ?_
 refine k_then_n ?_
 refine c_cond_np rfl (fun hc => ?_) (fun hc => ?_)
 ·
  refine c_seq ?_
  refine c_plain (.q 0 (.done)) (by kernel_rfl) ?_
  refine q_assign rfl rfl rfl rfl ?_
  refine r_done ?_
  refine s_keep [4] (e' := [(4, _)]) rfl ?_
  refine k_then_n ?_
  refine c_ret ?_
  refine k_then_ret ?_
  rw [show nxF x k t o = x from if_neg hc]
  refine ret1 rfl rfl (()) (by rw [show nxE x k t o = 6 from if_neg hc]) (by trivial) ?_
  exact Tf
 ·
  obtain ⟨o5, o7, o9, o10, o11⟩ := can_obj hx hc
  obtain ⟨n5, n6, n7, n9, n10, n11, nn⟩ := nxF_k hc
  obtain ⟨t0, t1, t2⟩ := stF_nz (can_th hc)
  refine c_skip ?_
  refine k_then_n ?_
  refine c_seq ?_
  refine s_take (A := rk pa pc b x) Tk ?_
  refine rk_open fun ta tc oa oc ba bc => ?_
  refine c_plain (.q 0 (.q 1 (.q 2 (.q 3 (.q 4 (.q 5 (.q 6 ((.l 7 [] (.done)))))))))) (by kernel_rfl) ?_
  refine q_move rfl rfl rfl rfl ?_
  refine q_nil_p rfl rfl rfl rfl ?_
  refine q_field (k := 8) rfl rfl rfl rfl Try.underlying133 rfl Try.sizeOf3 rfl ?_
  refine q_load_c (j := 8) rfl rfl rfl rfl Try.isAgg3 Tk (by first | rfl | exact (Nat.add_zero _).symm) (by rfl) ?_
  refine q_int rfl rfl rfl rfl rfl (b_add' _ (by exact fits_i64 (by omega) (by omega))) ?_
  refine q_nil_p rfl rfl rfl rfl ?_
  refine q_field (k := 8) rfl rfl rfl rfl Try.underlying133 rfl Try.sizeOf3 rfl ?_
  refine l_store (j := 8) rfl rfl rfl rfl Try.sizeOf3 (us := [_]) rfl rfl rfl Tk (by first | rfl | exact (Nat.add_zero _).symm) (by first | decide | (simp; done) | omega) ?_
  simp only [setL, List.set]
  refine ag_nil ?_
  refine r_done ?_
  refine s_keep [0, 3] (e' := [(0, _), (3, _)]) rfl ?_
  refine k_then_n ?_
  refine c_seq ?_
  refine c_seq ?_
  refine c_plain (.q 0 (.q 1 (.done))) (by kernel_rfl) ?_
  refine q_field (k := 0) rfl rfl rfl rfl Try.underlying36 rfl Try.sizeOf34 rfl ?_
  refine q_load_c (j := 0) rfl rfl rfl rfl Try.isAgg34 Tk (by first | rfl | exact (Nat.add_zero _).symm) (by rfl) ?_
  refine r_done ?_
  refine k_then_n ?_
  refine c_block ?_
  refine c_seq ?_
  refine c_plain (.q 0 (.q 1 (.done))) (by kernel_rfl) ?_
  refine q_int rfl rfl rfl rfl rfl (b_eql _ _ _ _) ?_
  refine q_assign rfl rfl rfl rfl ?_
  refine r_done ?_
  refine k_then_n ?_
  refine c_cond_p rfl (fun k5 => ?_) (fun k5 => ?_)
  ·
   have hel := owV_at (x := x) (l := o) (o5 (.inl k5)).1 (by have := (o5 (.inl k5)).2; omega)
   have q5 := o5 (.inl k5)
   refine c_draw rfl (.q 0 (.q 1 (.q 2 (.q 3 (.q 4 (.q 5 (.q 6 (.q 7 (.q 8 ((.l 9 [] (.done)))))))))))) (by kernel_rfl) ?_
   refine q_move rfl rfl rfl rfl ?_
   refine q_nil_p rfl rfl rfl rfl ?_
   refine q_field (k := 6) rfl rfl rfl rfl Try.underlying133 rfl Try.sizeOf23 rfl ?_
   refine q_load_c (j := 6) rfl rfl rfl rfl Try.isAgg23 Tk (by first | rfl | exact (Nat.add_zero _).symm) (by rfl) ?_
   refine q_field (k := 2) rfl rfl rfl rfl Try.underlying36 rfl Try.sizeOf3 rfl ?_
   refine q_load_c (j := 2) rfl rfl rfl rfl Try.isAgg3 Tk (by first | rfl | exact (Nat.add_zero _).symm) (by rfl) ?_
   refine q_field (k := 1) rfl rfl rfl rfl Try.underlying36 rfl Try.sizeOf3 rfl ?_
   refine q_load_c (j := 1) rfl rfl rfl rfl Try.isAgg3 Tk (by first | rfl | exact (Nat.add_zero _).symm) (by rfl) ?_
   refine q_idxO (sz := 0) (k := o.toNat) (enc := encZ) (xs := x.O) rfl rfl rfl rfl rfl Try.underlying23 Try.sizeOf3 hel (by first | rfl | omega) (by omega) Tk ?_
   intro ib33 io33 ha33 hl33 hc33
   refine l_store_O (j := 0) (k := o.toNat) (q := t) (enc := encZ) (off := io33) rfl rfl rfl rfl Try.sizeOf3 (us := [_]) rfl rfl rfl ha33 encZ_len hel Tk (by first | rfl | exact (Nat.add_zero _).symm | omega) (by first | decide | exact Nat.le_of_ble_eq_true rfl) (by rfl) ?_
   refine ag_nil ?_
   refine r_done ?_
   refine s_keep [] (e' := []) rfl ?_
   refine k_blk_n ?_
   refine k_then_n ?_
   refine c_seq ?_
   refine c_plain (.q 0 (.done)) (by kernel_rfl) ?_
   refine q_assign rfl rfl rfl rfl ?_
   refine r_done ?_
   refine k_then_n ?_
   refine c_ret ?_
   rw [n5 k5]
   refine rk_fold (b := b) (⟨x.th, x.va, x.vo, x.lk, x.pa, x.T, x.O.set o.toNat t, x.B, x.n + 1⟩) (pa := pa) (pc := pc) (ta := ta) (tc := tc) (oa := oa) (oc := oc) (ba := ba) (bc := bc) Ts (by rfl) (by rfl) (by simp) (by rfl) ?_
   refine ret1 rfl rfl (()) (by rw [show nxE x k t o = 0 from if_pos hc]) (by trivial) ?_
   exact Tf
  ·
   refine c_seq ?_
   refine c_plain (.q 0 (.q 1 (.done))) (by kernel_rfl) ?_
   refine q_int rfl rfl rfl rfl rfl (b_eql _ _ _ _) ?_
   refine q_assign rfl rfl rfl rfl ?_
   refine r_done ?_
   refine s_keep [0, 3, 22, 34] (e' := [(0, _), (3, _), (22, _), (34, _)]) rfl ?_
   refine k_then_n ?_
   refine c_cond_p rfl (fun k6 => ?_) (fun k6 => ?_)
   ·
    have hel := owV_at (x := x) (l := o) (o5 (.inr k6)).1 (by have := (o5 (.inr k6)).2; omega)
    have q5 := o5 (.inr k6)
    refine c_draw rfl (.q 0 (.q 1 (.q 2 (.q 3 (.q 4 (.q 5 (.q 6 ((.l 7 [] (.done)))))))))) (by kernel_rfl) ?_
    refine q_move rfl rfl rfl rfl ?_
    refine q_nil_p rfl rfl rfl rfl ?_
    refine q_field (k := 6) rfl rfl rfl rfl Try.underlying133 rfl Try.sizeOf23 rfl ?_
    refine q_load_c (j := 6) rfl rfl rfl rfl Try.isAgg23 Tk (by first | rfl | exact (Nat.add_zero _).symm) (by rfl) ?_
    refine q_field (k := 2) rfl rfl rfl rfl Try.underlying36 rfl Try.sizeOf3 rfl ?_
    refine q_load_c (j := 2) rfl rfl rfl rfl Try.isAgg3 Tk (by first | rfl | exact (Nat.add_zero _).symm) (by rfl) ?_
    refine q_idxO (sz := 0) (k := o.toNat) (enc := encZ) (xs := x.O) rfl rfl rfl rfl rfl Try.underlying23 Try.sizeOf3 hel (by first | rfl | omega) (by omega) Tk ?_
    intro ib42 io42 ha42 hl42 hc42
    refine l_store_O (j := 0) (k := o.toNat) (q := (-1)) (enc := encZ) (off := io42) rfl rfl rfl rfl Try.sizeOf3 (us := [_]) rfl rfl rfl ha42 encZ_len hel Tk (by first | rfl | exact (Nat.add_zero _).symm | omega) (by first | decide | exact Nat.le_of_ble_eq_true rfl) (by rfl) ?_
    refine ag_nil ?_
    refine r_done ?_
    refine s_keep [] (e' := []) rfl ?_
    refine k_blk_n ?_
    refine k_then_n ?_
    refine c_seq ?_
    refine c_plain (.q 0 (.done)) (by kernel_rfl) ?_
    refine q_assign rfl rfl rfl rfl ?_
    refine r_done ?_
    refine k_then_n ?_
    refine c_ret ?_
    rw [n6 k6]
    refine rk_fold (b := b) (⟨x.th, x.va, x.vo, x.lk, x.pa, x.T, x.O.set o.toNat (-1), x.B, x.n + 1⟩) (pa := pa) (pc := pc) (ta := ta) (tc := tc) (oa := oa) (oc := oc) (ba := ba) (bc := bc) Ts (by rfl) (by rfl) (by simp) (by rfl) ?_
    refine ret1 rfl rfl (()) (by rw [show nxE x k t o = 0 from if_pos hc]) (by trivial) ?_
    exact Tf
   ·
    refine c_seq ?_
    refine c_plain (.q 0 (.q 1 (.done))) (by kernel_rfl) ?_
    refine q_int rfl rfl rfl rfl rfl (b_eql _ _ _ _) ?_
    refine q_assign rfl rfl rfl rfl ?_
    refine r_done ?_
    refine k_then_n ?_
    refine c_cond_p rfl (fun k7 => ?_) (fun k7 => ?_)
    ·
     have q7 := o7 k7
     have hel := stF_at (x := x) (t := o) q7.1 (by omega)
     have hz : (stF x o).2 = (0, 0) := (stF_inv hx o).2.2.2 (by rw [q7.2.2]; decide)
     refine c_draw rfl (.q 0 (.q 1 (.q 2 (.q 3 (.q 4 (.q 5 (.q 6 (.q 7 ((.l 8 [] (.done))))))))))) (by kernel_rfl) ?_
     refine q_move rfl rfl rfl rfl ?_
     refine q_nil_p rfl rfl rfl rfl ?_
     refine q_field (k := 5) rfl rfl rfl rfl Try.underlying133 rfl Try.sizeOf131 rfl ?_
     refine q_load_c (j := 5) rfl rfl rfl rfl Try.isAgg131 Tk (by first | rfl | exact (Nat.add_zero _).symm) (by rfl) ?_
     refine q_field (k := 2) rfl rfl rfl rfl Try.underlying36 rfl Try.sizeOf3 rfl ?_
     refine q_load_c (j := 2) rfl rfl rfl rfl Try.isAgg3 Tk (by first | rfl | exact (Nat.add_zero _).symm) (by rfl) ?_
     refine q_idxO (sz := 2) (k := o.toNat) (enc := enc3) (xs := x.T) rfl rfl rfl rfl rfl Try.underlying131 Try.sizeOf95 hel (by first | rfl | omega) (by omega) Tk ?_
     intro ib51 io51 ha51 hl51 hc51
     refine q_field (k := 0) rfl rfl rfl rfl Try.underlying95 rfl Try.sizeOf93 rfl ?_
     refine l_store_O (j := 0) (k := o.toNat) (q := (1, 0, 0)) (enc := enc3) (off := io51) rfl rfl rfl rfl Try.sizeOf93 (us := [_]) rfl rfl rfl ha51 enc3_len hel Tk (by first | rfl | exact (Nat.add_zero _).symm | omega) (by first | decide | exact Nat.le_of_ble_eq_true rfl) (by show [Value.int .i64 1, .int .i64 0, .int .i64 0] = [Value.int .i64 1, .int .i64 (stF x o).2.1, .int .i64 (stF x o).2.2]; rw [hz]) ?_
     refine ag_nil ?_
     refine r_done ?_
     refine s_keep [] (e' := []) rfl ?_
     refine k_blk_n ?_
     refine k_then_n ?_
     refine c_seq ?_
     refine c_plain (.q 0 (.done)) (by kernel_rfl) ?_
     refine q_assign rfl rfl rfl rfl ?_
     refine r_done ?_
     refine k_then_n ?_
     refine c_ret ?_
     rw [n7 k7]
     refine rk_fold (b := b) (⟨x.th, x.va, x.vo, x.lk, x.pa, x.T.set o.toNat (1, 0, 0), x.O, x.B, x.n + 1⟩) (pa := pa) (pc := pc) (ta := ta) (tc := tc) (oa := oa) (oc := oc) (ba := ba) (bc := bc) Ts (by rfl) (by simp) (by rfl) (by rfl) ?_
     refine ret1 rfl rfl (()) (by rw [show nxE x k t o = 0 from if_pos hc]) (by trivial) ?_
     exact Tf
    ·
     refine c_seq ?_
     refine c_plain (.q 0 (.q 1 (.done))) (by kernel_rfl) ?_
     refine q_int rfl rfl rfl rfl rfl (b_eql _ _ _ _) ?_
     refine q_assign rfl rfl rfl rfl ?_
     refine r_done ?_
     refine s_keep [0, 3, 22, 53] (e' := [(0, _), (3, _), (22, _), (53, _)]) rfl ?_
     refine k_then_n ?_
     refine c_cond_p rfl (fun k9 => ?_) (fun k9 => ?_)
     ·
      refine c_seq ?_
      obtain ⟨p0, p1, p2, p3⟩ := o9 k9
      have hop := opF_at (x := x) (b := o) p0 (by omega)
      obtain ⟨pp, hpp⟩ := get_lt p2
      have hbp := hx.op _ _ _ hop hpp
      have hpr := hx.sh.pa pp (List.mem_of_getElem? hpp)
      refine c_draw rfl (.q 0 (.q 1 (.q 2 (.q 3 (.q 4 (.q 5 (.q 6 (.q 7 ((.l 8 [3, 5, 7] ((.l 9 [] (.done))))))))))))) (by kernel_rfl) ?_
      refine q_move rfl rfl rfl rfl ?_
      refine q_nil_p rfl rfl rfl rfl ?_
      refine q_field (k := 7) rfl rfl rfl rfl Try.underlying133 rfl Try.sizeOf126 rfl ?_
      refine q_load_c (j := 7) rfl rfl rfl rfl Try.isAgg126 Tk (by first | rfl | exact (Nat.add_zero _).symm) (by rfl) ?_
      refine q_field (k := 2) rfl rfl rfl rfl Try.underlying36 rfl Try.sizeOf3 rfl ?_
      refine q_load_c (j := 2) rfl rfl rfl rfl Try.isAgg3 Tk (by first | rfl | exact (Nat.add_zero _).symm) (by rfl) ?_
      refine q_idxO (sz := 1) (k := o.toNat) (enc := enc2) (xs := x.B) rfl rfl rfl rfl rfl Try.underlying126 Try.sizeOf90 hop (by first | rfl | omega) (by omega) Tk ?_
      intro ib61 io61 ha61 hl61 hc61
      refine q_loadN_O (j := 0) (k' := o.toNat) (us := [_, _]) (enc := enc2) (off := io61) rfl rfl rfl rfl Try.isAgg90 Try.sizeOf90 ha61 enc2_len hop Tk (by first | rfl | exact (Nat.add_zero _).symm | omega) (by rfl) rfl ?_
      refine l_alloc rfl rfl rfl Try.zeroValue90 (zs := [.int .i64 0, .int .i64 0]) rfl ?_
      intro b6
      refine ag_load_c (q := 7) rfl rfl rfl Try.isAgg126 Tk (by first | rfl | exact (Nat.add_zero _).symm) (by rfl) ?_
      refine ag_load_c (q := 2) rfl rfl rfl Try.isAgg3 Tk (by first | rfl | exact (Nat.add_zero _).symm) (by rfl) ?_
      refine ag_loadN_O (j := 0) (k' := o.toNat) (us := [_, _]) (enc := enc2) (off := io61) rfl rfl rfl Try.isAgg90 Try.sizeOf90 ha61 enc2_len hop Tk (by first | rfl | exact (Nat.add_zero _).symm | omega) (by rfl) rfl ?_
      refine ag_nil ?_
      refine l_store (j := 0) rfl rfl rfl rfl Try.sizeOf90 (us := [_, _]) rfl rfl rfl Tk (by first | rfl | exact (Nat.add_zero _).symm) (by first | decide | (simp; done) | omega) ?_
      simp only [setL, List.set]
      refine ag_nil ?_
      refine r_done ?_
      refine s_keep [0, 3, 6] (e' := [(0, _), (3, _), (6, _)]) rfl ?_
      refine k_then_n ?_
      refine c_seq ?_
      refine c_draw rfl (.q 0 (.q 1 (.q 2 (.q 3 (.q 4 (.q 5 (.q 6 (.q 7 (.q 8 (.q 9 (.q 10 (.q 11 ((.l 12 [] (.done))))))))))))))) (by kernel_rfl) ?_
      refine q_move rfl rfl rfl rfl ?_
      refine q_nil_p rfl rfl rfl rfl ?_
      refine q_field (k := 5) rfl rfl rfl rfl Try.underlying133 rfl Try.sizeOf131 rfl ?_
      refine q_load_c (j := 5) rfl rfl rfl rfl Try.isAgg131 Tk (by first | rfl | exact (Nat.add_zero _).symm) (by rfl) ?_
      refine q_field (k := 1) rfl rfl rfl rfl Try.underlying36 rfl Try.sizeOf3 rfl ?_
      refine q_load_c (j := 1) rfl rfl rfl rfl Try.isAgg3 Tk (by first | rfl | exact (Nat.add_zero _).symm) (by rfl) ?_
      refine q_field (k := 2) rfl rfl rfl rfl Try.underlying36 rfl Try.sizeOf3 rfl ?_
      refine q_load_c (j := 2) rfl rfl rfl rfl Try.isAgg3 Tk (by first | rfl | exact (Nat.add_zero _).symm) (by rfl) ?_
      refine q_field (k := 0) rfl rfl rfl rfl Try.underlying90 rfl Try.sizeOf3 rfl ?_
      refine q_load_c (j := 0) rfl rfl rfl rfl Try.isAgg3 Tk (by first | rfl | exact (Nat.add_zero _).symm) (by rfl) ?_
      refine q_build rfl rfl rfl rfl (vs := [_, _, _]) (run_buildS Try.underlying95 Try.zeroValue95 (ps := [(0, 1), (1, 1), (2, 1)]) ⟨rfl, Try.sizeOf93, rfl, Try.sizeOf3, rfl, Try.sizeOf3, trivial⟩ rfl) ?_
      refine q_idxO (sz := 2) (k := t.toNat) (enc := enc3) (xs := x.T) rfl rfl rfl rfl rfl Try.underlying131 Try.sizeOf95 t2 (by first | rfl | omega) (by omega) Tk ?_
      intro ib74 io74 ha74 hl74 hc74
      refine l_store_O (j := 0) (k := t.toNat) (q := (2, o, (opF x o).1)) (enc := enc3) (off := io74) rfl rfl rfl rfl Try.sizeOf95 (us := [_, _, _]) rfl rfl rfl ha74 enc3_len t2 Tk (by first | rfl | exact (Nat.add_zero _).symm | omega) (by first | decide | exact Nat.le_of_ble_eq_true rfl) (by rfl) ?_
      refine ag_nil ?_
      refine r_done ?_
      refine s_keep [0, 3, 6] (e' := [(0, _), (3, _), (6, _)]) rfl ?_
      refine k_then_n ?_
      refine c_seq ?_
      refine c_plain (.q 0 (.q 1 (.q 2 (.q 3 ((.l 4 [] (.done))))))) (by kernel_rfl) ?_
      refine q_field (k := 1) rfl rfl rfl rfl Try.underlying90 rfl Try.sizeOf3 rfl ?_
      refine q_load_c (j := 1) rfl rfl rfl rfl Try.isAgg3 Tk (by first | rfl | exact (Nat.add_zero _).symm) (by rfl) ?_
      refine q_int rfl rfl rfl rfl rfl (b_add' _ (by exact fits_i64 (by omega) (by omega))) ?_
      refine q_field (k := 1) rfl rfl rfl rfl Try.underlying90 rfl Try.sizeOf3 rfl ?_
      refine l_store (j := 1) rfl rfl rfl rfl Try.sizeOf3 (us := [_]) rfl rfl rfl Tk (by first | rfl | exact (Nat.add_zero _).symm) (by first | decide | (simp; done) | omega) ?_
      simp only [setL, List.set]
      refine ag_nil ?_
      refine r_done ?_
      refine s_keep [0, 3, 6] (e' := [(0, _), (3, _), (6, _)]) rfl ?_
      refine k_then_n ?_
      refine c_seq ?_
      refine c_seq ?_
      rw [hpl] at hpp p2
      refine c_draw rfl (.q 0 (.q 1 (.q 2 (.q 3 (.q 4 (.q 5 (.q 6 (.q 7 (.q 8 (.q 9 (.q 10 (.q 11 (.done))))))))))))) (by kernel_rfl) ?_
      refine q_field (k := 1) rfl rfl rfl rfl Try.underlying90 rfl Try.sizeOf3 rfl ?_
      refine q_load_c (j := 1) rfl rfl rfl rfl Try.isAgg3 Tk (by first | rfl | exact (Nat.add_zero _).symm) (by rfl) ?_
      refine q_move rfl rfl rfl rfl ?_
      refine q_nil_p rfl rfl rfl rfl ?_
      refine q_field (k := 0) rfl rfl rfl rfl Try.underlying133 rfl Try.sizeOf25 rfl ?_
      refine q_field (k := 4) rfl rfl rfl rfl Try.underlying25 rfl Try.sizeOf23 rfl ?_
      refine q_load_c (j := 4) rfl rfl rfl rfl Try.isAgg23 Tk (by first | rfl | exact (Nat.add_zero _).symm) (by rfl) ?_
      refine q_field (k := 2) rfl rfl rfl rfl Try.underlying36 rfl Try.sizeOf3 rfl ?_
      refine q_load_c (j := 2) rfl rfl rfl rfl Try.isAgg3 Tk (by first | rfl | exact (Nat.add_zero _).symm) (by rfl) ?_
      refine q_idxO (sz := 0) (k := o.toNat) (enc := encZ) (xs := pl) rfl rfl rfl rfl rfl Try.underlying23 Try.sizeOf3 hpp (by omega) (by rw [hpl]; omega) Tk ?_
      intro ib88 io88 ha88 hl88 hc88
      refine q_load_O (v := (.int .i64 pp)) (j := 0) (k' := o.toNat) (enc := encZ) (off := io88) rfl rfl rfl rfl Try.isAgg3 ha88 encZ_len hpp Tk (by first | rfl | exact (Nat.add_zero _).symm | omega) (by rfl) ?_
      refine q_int rfl rfl rfl rfl rfl (b_eql _ _ _ _) ?_
      refine r_done ?_
      refine s_keep [0, 3, 6, 90] (e' := [(0, _), (3, _), (6, _), (90, _)]) rfl ?_
      refine k_then_n ?_
      refine c_cond_p rfl (fun hful => ?_) (fun hful => ?_)
      ·
       refine c_plain (.q 0 (.q 1 (.q 2 (.q 3 ((.l 4 [] (.done))))))) (by kernel_rfl) ?_
       refine q_field (k := 0) rfl rfl rfl rfl Try.underlying90 rfl Try.sizeOf3 rfl ?_
       refine q_load_c (j := 0) rfl rfl rfl rfl Try.isAgg3 Tk (by first | rfl | exact (Nat.add_zero _).symm) (by rfl) ?_
       refine q_int rfl rfl rfl rfl rfl (b_add' _ (by exact fits_i64 (by omega) (by omega))) ?_
       refine q_build rfl rfl rfl rfl (vs := [_, _]) (run_buildS Try.underlying90 Try.zeroValue90 (ps := [(0, 1), (1, 1)]) ⟨rfl, Try.sizeOf3, rfl, Try.sizeOf3, trivial⟩ rfl) ?_
       refine l_store (j := 0) rfl rfl rfl rfl Try.sizeOf90 (us := [_, _]) rfl rfl rfl Tk (by first | rfl | exact (Nat.add_zero _).symm) (by first | decide | (simp; done) | omega) ?_
       simp only [setL, List.set]
       refine ag_nil ?_
       refine r_done ?_
       refine s_keep [0, 3, 6] (e' := [(0, _), (3, _), (6, _)]) rfl ?_
       refine k_then_n ?_
       refine c_draw rfl (.q 0 (.q 1 (.q 2 (.q 3 (.q 4 (.q 5 (.q 6 (.q 7 ((.l 8 [] (.done))))))))))) (by kernel_rfl) ?_
       refine q_move rfl rfl rfl rfl ?_
       refine q_nil_p rfl rfl rfl rfl ?_
       refine q_field (k := 7) rfl rfl rfl rfl Try.underlying133 rfl Try.sizeOf126 rfl ?_
       refine q_load_c (j := 7) rfl rfl rfl rfl Try.isAgg126 Tk (by first | rfl | exact (Nat.add_zero _).symm) (by rfl) ?_
       refine q_field (k := 2) rfl rfl rfl rfl Try.underlying36 rfl Try.sizeOf3 rfl ?_
       refine q_load_c (j := 2) rfl rfl rfl rfl Try.isAgg3 Tk (by first | rfl | exact (Nat.add_zero _).symm) (by rfl) ?_
       refine q_loadN_c rfl rfl rfl rfl Try.isAgg90 Try.sizeOf90 Tk 0 (us := [_, _]) (by first | rfl | exact (Nat.add_zero _).symm) rfl rfl ?_
       refine q_idxO (sz := 1) (k := o.toNat) (enc := enc2) (xs := x.B) rfl rfl rfl rfl rfl Try.underlying126 Try.sizeOf90 hop (by first | rfl | omega) (by omega) Tk ?_
       intro ib102 io102 ha102 hl102 hc102
       refine l_store_O (j := 0) (k := o.toNat) (q := (((opF x o).1) + 1, 0)) (enc := enc2) (off := io102) rfl rfl rfl rfl Try.sizeOf90 (us := [_, _]) rfl rfl rfl ha102 enc2_len hop Tk (by first | rfl | exact (Nat.add_zero _).symm | omega) (by first | decide | exact Nat.le_of_ble_eq_true rfl) (by rfl) ?_
       refine ag_nil ?_
       refine r_done ?_
       refine s_keep [] (e' := []) rfl ?_
       refine k_blk_n ?_
       refine k_then_n ?_
       refine c_seq ?_
       refine c_plain (.q 0 (.done)) (by kernel_rfl) ?_
       refine q_assign rfl rfl rfl rfl ?_
       refine r_done ?_
       refine k_then_n ?_
       refine c_ret ?_
       rw [n9 k9, hpl, getD_some hpp, ← hpl, show arrF (opF x o) pp = ((opF x o).1 + 1, 0) from if_pos hful]
       refine rk_fold (b := b) (⟨x.th, x.va, x.vo, x.lk, x.pa, x.T.set t.toNat (2, o, (opF x o).1), x.O, x.B.set o.toNat ((opF x o).1 + 1, 0), x.n + 1⟩) (pa := pa) (pc := pc) (ta := ta) (tc := tc) (oa := oa) (oc := oc) (ba := ba) (bc := bc) Ts (by rfl) (by simp) (by rfl) (by simp) ?_
       refine ret1 rfl rfl (()) (by rw [show nxE x k t o = 0 from if_pos hc]) (by trivial) ?_
       exact Tf
      ·
       refine c_skip ?_
       refine k_then_n ?_
       refine c_draw rfl (.q 0 (.q 1 (.q 2 (.q 3 (.q 4 (.q 5 (.q 6 (.q 7 ((.l 8 [] (.done))))))))))) (by kernel_rfl) ?_
       refine q_move rfl rfl rfl rfl ?_
       refine q_nil_p rfl rfl rfl rfl ?_
       refine q_field (k := 7) rfl rfl rfl rfl Try.underlying133 rfl Try.sizeOf126 rfl ?_
       refine q_load_c (j := 7) rfl rfl rfl rfl Try.isAgg126 Tk (by first | rfl | exact (Nat.add_zero _).symm) (by rfl) ?_
       refine q_field (k := 2) rfl rfl rfl rfl Try.underlying36 rfl Try.sizeOf3 rfl ?_
       refine q_load_c (j := 2) rfl rfl rfl rfl Try.isAgg3 Tk (by first | rfl | exact (Nat.add_zero _).symm) (by rfl) ?_
       refine q_loadN_c rfl rfl rfl rfl Try.isAgg90 Try.sizeOf90 Tk 0 (us := [_, _]) (by first | rfl | exact (Nat.add_zero _).symm) rfl rfl ?_
       refine q_idxO (sz := 1) (k := o.toNat) (enc := enc2) (xs := x.B) rfl rfl rfl rfl rfl Try.underlying126 Try.sizeOf90 hop (by first | rfl | omega) (by omega) Tk ?_
       intro ib102 io102 ha102 hl102 hc102
       refine l_store_O (j := 0) (k := o.toNat) (q := ((opF x o).1, ((opF x o).2) + 1)) (enc := enc2) (off := io102) rfl rfl rfl rfl Try.sizeOf90 (us := [_, _]) rfl rfl rfl ha102 enc2_len hop Tk (by first | rfl | exact (Nat.add_zero _).symm | omega) (by first | decide | exact Nat.le_of_ble_eq_true rfl) (by rfl) ?_
       refine ag_nil ?_
       refine r_done ?_
       refine s_keep [] (e' := []) rfl ?_
       refine k_blk_n ?_
       refine k_then_n ?_
       refine c_seq ?_
       refine c_plain (.q 0 (.done)) (by kernel_rfl) ?_
       refine q_assign rfl rfl rfl rfl ?_
       refine r_done ?_
       refine k_then_n ?_
       refine c_ret ?_
       rw [n9 k9, hpl, getD_some hpp, ← hpl, show arrF (opF x o) pp = ((opF x o).1, (opF x o).2 + 1) from if_neg hful]
       refine rk_fold (b := b) (⟨x.th, x.va, x.vo, x.lk, x.pa, x.T.set t.toNat (2, o, (opF x o).1), x.O, x.B.set o.toNat ((opF x o).1, (opF x o).2 + 1), x.n + 1⟩) (pa := pa) (pc := pc) (ta := ta) (tc := tc) (oa := oa) (oc := oc) (ba := ba) (bc := bc) Ts (by rfl) (by simp) (by rfl) (by simp) ?_
       refine ret1 rfl rfl (()) (by rw [show nxE x k t o = 0 from if_pos hc]) (by trivial) ?_
       exact Tf
     ·
      refine c_seq ?_
      refine c_plain (.q 0 (.q 1 (.done))) (by kernel_rfl) ?_
      refine q_int rfl rfl rfl rfl rfl (b_eql _ _ _ _) ?_
      refine q_assign rfl rfl rfl rfl ?_
      refine r_done ?_
      refine k_then_n ?_
      refine c_cond_p rfl (fun k10 => ?_) (fun k10 => ?_)
      ·
       refine c_draw rfl (.q 0 (.q 1 (.q 2 (.q 3 (.q 4 (.q 5 (.q 6 (.q 7 ((.l 8 [] (.done))))))))))) (by kernel_rfl) ?_
       refine q_move rfl rfl rfl rfl ?_
       refine q_nil_p rfl rfl rfl rfl ?_
       refine q_field (k := 5) rfl rfl rfl rfl Try.underlying133 rfl Try.sizeOf131 rfl ?_
       refine q_load_c (j := 5) rfl rfl rfl rfl Try.isAgg131 Tk (by first | rfl | exact (Nat.add_zero _).symm) (by rfl) ?_
       refine q_field (k := 1) rfl rfl rfl rfl Try.underlying36 rfl Try.sizeOf3 rfl ?_
       refine q_load_c (j := 1) rfl rfl rfl rfl Try.isAgg3 Tk (by first | rfl | exact (Nat.add_zero _).symm) (by rfl) ?_
       refine q_build rfl rfl rfl rfl (vs := [_, _, _]) (run_buildS Try.underlying95 Try.zeroValue95 (ps := [(0, 1), (1, 1), (2, 1)]) ⟨rfl, Try.sizeOf93, rfl, Try.sizeOf3, rfl, Try.sizeOf3, trivial⟩ rfl) ?_
       refine q_idxO (sz := 2) (k := t.toNat) (enc := enc3) (xs := x.T) rfl rfl rfl rfl rfl Try.underlying131 Try.sizeOf95 t2 (by first | rfl | omega) (by omega) Tk ?_
       intro ib112 io112 ha112 hl112 hc112
       refine l_store_O (j := 0) (k := t.toNat) (q := (1, 0, 0)) (enc := enc3) (off := io112) rfl rfl rfl rfl Try.sizeOf95 (us := [_, _, _]) rfl rfl rfl ha112 enc3_len t2 Tk (by first | rfl | exact (Nat.add_zero _).symm | omega) (by first | decide | exact Nat.le_of_ble_eq_true rfl) (by rfl) ?_
       refine ag_nil ?_
       refine r_done ?_
       refine s_keep [] (e' := []) rfl ?_
       refine k_blk_n ?_
       refine k_then_n ?_
       refine c_seq ?_
       refine c_plain (.q 0 (.done)) (by kernel_rfl) ?_
       refine q_assign rfl rfl rfl rfl ?_
       refine r_done ?_
       refine k_then_n ?_
       refine c_ret ?_
       rw [n10 k10]
       refine rk_fold (b := b) (⟨x.th, x.va, x.vo, x.lk, x.pa, x.T.set t.toNat (1, 0, 0), x.O, x.B, x.n + 1⟩) (pa := pa) (pc := pc) (ta := ta) (tc := tc) (oa := oa) (oc := oc) (ba := ba) (bc := bc) Ts (by rfl) (by simp) (by rfl) (by rfl) ?_
       refine ret1 rfl rfl (()) (by rw [show nxE x k t o = 0 from if_pos hc]) (by trivial) ?_
       exact Tf
      ·
       refine c_seq ?_
       refine c_plain (.q 0 (.q 1 (.done))) (by kernel_rfl) ?_
       refine q_int rfl rfl rfl rfl rfl (b_eql _ _ _ _) ?_
       refine q_assign rfl rfl rfl rfl ?_
       refine r_done ?_
       refine s_keep [0, 3, 113] (e' := [(0, _), (3, _), (113, _)]) rfl ?_
       refine k_then_n ?_
       refine c_cond_p rfl (fun k11 => ?_) (fun k11 => ?_)
       ·
        refine c_draw rfl (.q 0 (.q 1 (.q 2 (.q 3 (.q 4 (.q 5 (.q 6 (.q 7 ((.l 8 [] (.done))))))))))) (by kernel_rfl) ?_
        refine q_move rfl rfl rfl rfl ?_
        refine q_nil_p rfl rfl rfl rfl ?_
        refine q_field (k := 5) rfl rfl rfl rfl Try.underlying133 rfl Try.sizeOf131 rfl ?_
        refine q_load_c (j := 5) rfl rfl rfl rfl Try.isAgg131 Tk (by first | rfl | exact (Nat.add_zero _).symm) (by rfl) ?_
        refine q_field (k := 1) rfl rfl rfl rfl Try.underlying36 rfl Try.sizeOf3 rfl ?_
        refine q_load_c (j := 1) rfl rfl rfl rfl Try.isAgg3 Tk (by first | rfl | exact (Nat.add_zero _).symm) (by rfl) ?_
        refine q_build rfl rfl rfl rfl (vs := [_, _, _]) (run_buildS Try.underlying95 Try.zeroValue95 (ps := [(0, 1), (1, 1), (2, 1)]) ⟨rfl, Try.sizeOf93, rfl, Try.sizeOf3, rfl, Try.sizeOf3, trivial⟩ rfl) ?_
        refine q_idxO (sz := 2) (k := t.toNat) (enc := enc3) (xs := x.T) rfl rfl rfl rfl rfl Try.underlying131 Try.sizeOf95 t2 (by first | rfl | omega) (by omega) Tk ?_
        intro ib122 io122 ha122 hl122 hc122
        refine l_store_O (j := 0) (k := t.toNat) (q := (3, 0, 0)) (enc := enc3) (off := io122) rfl rfl rfl rfl Try.sizeOf95 (us := [_, _, _]) rfl rfl rfl ha122 enc3_len t2 Tk (by first | rfl | exact (Nat.add_zero _).symm | omega) (by first | decide | exact Nat.le_of_ble_eq_true rfl) (by rfl) ?_
        refine ag_nil ?_
        refine r_done ?_
        refine s_keep [] (e' := []) rfl ?_
        refine k_blk_n ?_
        refine k_then_n ?_
        refine c_seq ?_
        refine c_plain (.q 0 (.done)) (by kernel_rfl) ?_
        refine q_assign rfl rfl rfl rfl ?_
        refine r_done ?_
        refine k_then_n ?_
        refine c_ret ?_
        rw [n11 k11]
        refine rk_fold (b := b) (⟨x.th, x.va, x.vo, x.lk, x.pa, x.T.set t.toNat (3, 0, 0), x.O, x.B, x.n + 1⟩) (pa := pa) (pc := pc) (ta := ta) (tc := tc) (oa := oa) (oc := oc) (ba := ba) (bc := bc) Ts (by rfl) (by simp) (by rfl) (by rfl) ?_
        refine ret1 rfl rfl (()) (by rw [show nxE x k t o = 0 from if_pos hc]) (by trivial) ?_
        exact Tf
       ·
        refine c_skip ?_
        refine k_blk_n ?_
        refine k_then_n ?_
        refine c_seq ?_
        refine c_plain (.q 0 (.done)) (by kernel_rfl) ?_
        refine q_assign rfl rfl rfl rfl ?_
        refine r_done ?_
        refine k_then_n ?_
        refine c_ret ?_
        rw [nn k5 k6 k7 k9 k10 k11]
        refine rk_fold (b := b) (⟨x.th, x.va, x.vo, x.lk, x.pa, x.T, x.O, x.B, x.n + 1⟩) (pa := pa) (pc := pc) (ta := ta) (tc := tc) (oa := oa) (oc := oc) (ba := ba) (bc := bc) Ts (by rfl) (by rfl) (by rfl) (by rfl) ?_
        refine ret1 rfl rfl (()) (by rw [show nxE x k t o = 0 from if_pos hc]) (by trivial) ?_
        exact Tf
theorem rstand_spec (pa : Option Addr) (pc b : Nat) (x : CS) (hx : CInv x) (t : Int) : Spec Try.prog 40 [.pointer (some ⟨b, 0, none⟩), .int .i64 t] [rk pa pc b x] (fun (_ : Unit) => .tuple #[ev3 (stF x t), .int .i64 (if 0 ≤ t ∧ t < x.th then 0 else 2)]) (fun _ => True) (fun _ => [rk pa pc b x]) := by
 refine spec_mk (n := 25) Try.func40 rfl rfl rfl ?_
 intro Γ w0
 simp only [argE, List.cons_append, List.nil_append, Nat.zero_add, Nat.reduceAdd]
 have htl := hx.tl
 have hol := hx.ol
 have hbl := hx.bl
 refine c_seq ?_
 refine c_plain ((.l 0 [] (.q 1 (.done)))) (by kernel_rfl) ?_
 refine l_alloc rfl rfl rfl Try.zeroValue95 (zs := [.int .i64 0, .int .i64 0, .int .i64 0]) rfl ?_
 intro b4
 refine ag_nil ?_
 refine q_assign rfl rfl rfl rfl ?_
 refine r_done ?_
 refine k_then_n ?_
 refine c_seq ?_
 refine c_seq ?_
 refine c_plain (.q 0 (.q 1 (.done))) (by kernel_rfl) ?_
 refine q_move rfl rfl rfl rfl ?_
 refine q_eq_nil rfl rfl rfl rfl Try.underlying83 ?_
 refine s_eq 7 rfl (v' := .bool false) rfl ?_
 refine r_done ?_
 refine k_then_n ?_
 refine c_cond_f rfl ?_
 refine c_skip ?_
 refine k_then_n ?_
 refine c_seq ?_
 refine c_seq ?_
 refine s_take (A := rk pa pc b x) Tk ?_
 refine rk_open fun ta tc oa oc ba bc => ?_
 refine c_plain (.q 0 (.q 1 (.q 2 (.q 3 (.q 4 (.q 5 ((.l 6 [] (.q 7 (.done)))))))))) (by kernel_rfl) ?_
 refine q_move rfl rfl rfl rfl ?_
 refine q_move rfl rfl rfl rfl ?_
 refine q_nil_p rfl rfl rfl rfl ?_
 refine q_field (k := 5) rfl rfl rfl rfl Try.underlying133 rfl Try.sizeOf131 rfl ?_
 refine q_load_c (j := 5) rfl rfl rfl rfl Try.isAgg131 Tk (by first | rfl | exact (Nat.add_zero _).symm) (by rfl) ?_
 refine q_len rfl rfl rfl rfl Try.underlying131 ?_
 have sp_1 := below_spec t ((x.T.length : Nat) : Int)
 refine l_call rfl rfl rfl rfl rfl rfl Try.call63 (sp_1) Ts ?_
 rintro ⟨⟩ -
 try simp only [List.cons_append, List.nil_append]
 refine ag_nil ?_
 refine q_not rfl rfl rfl rfl ?_
 refine r_done ?_
 refine s_keep [0, 1, 4, 16] (e' := [(0, _), (1, _), (4, _), (16, _)]) rfl ?_
 refine k_then_n ?_
 refine c_cond_np rfl (fun hin => ?_) (fun hin => ?_)
 ·
  have hno : ¬ (0 ≤ t ∧ t < x.th) := fun h => hin (by omega)
  refine c_seq ?_
  refine c_plain (.q 0 ((.l 1 [] (.q 2 (.done))))) (by kernel_rfl) ?_
  refine q_build rfl rfl rfl rfl (vs := [_, _, _]) (run_buildS Try.underlying95 Try.zeroValue95 (ps := [(0, 1), (1, 1), (2, 1)]) ⟨rfl, Try.sizeOf93, rfl, Try.sizeOf3, rfl, Try.sizeOf3, trivial⟩ rfl) ?_
  refine l_store (j := 0) rfl rfl rfl rfl Try.sizeOf95 (us := [_, _, _]) rfl rfl rfl Tk (by first | rfl | exact (Nat.add_zero _).symm) (by first | decide | (simp; done) | omega) ?_
  simp only [setL, List.set]
  refine ag_nil ?_
  refine q_assign rfl rfl rfl rfl ?_
  refine r_done ?_
  refine s_keep [4, 5] (e' := [(4, _), (5, _)]) rfl ?_
  refine k_then_n ?_
  refine c_ret ?_
  refine k_then_ret ?_
  refine rk_fold (b := b) x (pa := pa) (pc := pc) (ta := ta) (tc := tc) (oa := oa) (oc := oc) (ba := ba) (bc := bc) Ts (by rfl) (by rfl) (by rfl) (by rfl) ?_
  refine retL (us := [_, _]) rfl ⟨rv_cellN rfl Try.isAgg95 Try.sizeOf95 Tk 0 rfl (us := [_, _, _]) rfl rfl, rv_tmp rfl, trivial⟩ (()) (by rw [if_neg hno, stF_out (by omega)]; rfl) (by trivial) ?_
  exact Tf
 ·
  have hyes : 0 ≤ t ∧ t < x.th := by omega
  have hel := stF_at (x := x) (t := t) hin.1 hin.2
  refine c_skip ?_
  refine k_then_n ?_
  refine c_seq ?_
  refine c_plain (.q 0 (.q 1 (.q 2 (.q 3 (.q 4 (.q 5 (.q 6 ((.l 7 [] (.q 8 (.done))))))))))) (by kernel_rfl) ?_
  refine q_move rfl rfl rfl rfl ?_
  refine q_nil_p rfl rfl rfl rfl ?_
  refine q_field (k := 5) rfl rfl rfl rfl Try.underlying133 rfl Try.sizeOf131 rfl ?_
  refine q_load_c (j := 5) rfl rfl rfl rfl Try.isAgg131 Tk (by first | rfl | exact (Nat.add_zero _).symm) (by rfl) ?_
  refine q_move rfl rfl rfl rfl ?_
  refine q_idxO (sz := 2) (k := t.toNat) (enc := enc3) (xs := x.T) rfl rfl rfl rfl rfl Try.underlying131 Try.sizeOf95 hel (by first | rfl | omega) (by omega) Tk ?_
  intro ib23 io23 ha23 hl23 hc23
  refine q_loadN_O (j := 0) (k' := t.toNat) (us := [_, _, _]) (enc := enc3) (off := io23) rfl rfl rfl rfl Try.isAgg95 Try.sizeOf95 ha23 enc3_len hel Tk (by first | rfl | exact (Nat.add_zero _).symm | omega) (by rfl) rfl ?_
  refine l_store (j := 0) rfl rfl rfl rfl Try.sizeOf95 (us := [_, _, _]) rfl rfl rfl Tk (by first | rfl | exact (Nat.add_zero _).symm) (by first | decide | (simp; done) | omega) ?_
  simp only [setL, List.set]
  refine ag_nil ?_
  refine q_assign rfl rfl rfl rfl ?_
  refine r_done ?_
  refine s_keep [4, 5] (e' := [(4, _), (5, _)]) rfl ?_
  refine k_then_n ?_
  refine c_ret ?_
  refine rk_fold (b := b) x (pa := pa) (pc := pc) (ta := ta) (tc := tc) (oa := oa) (oc := oc) (ba := ba) (bc := bc) Ts (by rfl) (by rfl) (by rfl) (by rfl) ?_
  refine retL (us := [_, _]) rfl ⟨rv_cellN rfl Try.isAgg95 Try.sizeOf95 Tk 0 rfl (us := [_, _, _]) rfl rfl, rv_tmp rfl, trivial⟩ (()) (by rw [if_pos hyes]; rfl) (by trivial) ?_
  exact Tf
theorem rround_spec (pa : Option Addr) (pc b : Nat) (x : CS) (l : Int) : Spec Try.prog 39 [.pointer (some ⟨b, 0, none⟩), .int .i64 l] [rk pa pc b x] (fun (_ : Unit) => .tuple #[ev2 (if 0 ≤ l ∧ l < (x.B.length : Int) then opF x l else (0, 0)), .int .i64 (if 0 ≤ l ∧ l < (x.B.length : Int) then 0 else 2)]) (fun _ => True) (fun _ => [rk pa pc b x]) := by
 refine spec_mk (n := 25) Try.func39 rfl rfl rfl ?_
 intro Γ w0
 simp only [argE, List.cons_append, List.nil_append, Nat.zero_add, Nat.reduceAdd]
 refine c_seq ?_
 refine c_plain ((.l 0 [] (.q 1 (.done)))) (by kernel_rfl) ?_
 refine l_alloc rfl rfl rfl Try.zeroValue90 (zs := [.int .i64 0, .int .i64 0]) rfl ?_
 intro b4
 refine ag_nil ?_
 refine q_assign rfl rfl rfl rfl ?_
 refine r_done ?_
 refine k_then_n ?_
 refine c_seq ?_
 refine c_seq ?_
 refine c_plain (.q 0 (.q 1 (.done))) (by kernel_rfl) ?_
 refine q_move rfl rfl rfl rfl ?_
 refine q_eq_nil rfl rfl rfl rfl Try.underlying83 ?_
 refine s_eq 7 rfl (v' := .bool false) rfl ?_
 refine r_done ?_
 refine k_then_n ?_
 refine c_cond_f rfl ?_
 refine c_skip ?_
 refine k_then_n ?_
 refine c_seq ?_
 refine c_seq ?_
 refine s_take (A := rk pa pc b x) Tk ?_
 refine rk_open fun ta tc oa oc ba bc => ?_
 refine c_plain (.q 0 (.q 1 (.q 2 (.q 3 (.q 4 (.q 5 ((.l 6 [] (.q 7 (.done)))))))))) (by kernel_rfl) ?_
 refine q_move rfl rfl rfl rfl ?_
 refine q_move rfl rfl rfl rfl ?_
 refine q_nil_p rfl rfl rfl rfl ?_
 refine q_field (k := 7) rfl rfl rfl rfl Try.underlying133 rfl Try.sizeOf126 rfl ?_
 refine q_load_c (j := 7) rfl rfl rfl rfl Try.isAgg126 Tk (by first | rfl | exact (Nat.add_zero _).symm) (by rfl) ?_
 refine q_len rfl rfl rfl rfl Try.underlying126 ?_
 have sp_1 := below_spec l ((x.B.length : Nat) : Int)
 refine l_call rfl rfl rfl rfl rfl rfl Try.call63 (sp_1) Ts ?_
 rintro ⟨⟩ -
 try simp only [List.cons_append, List.nil_append]
 refine ag_nil ?_
 refine q_not rfl rfl rfl rfl ?_
 refine r_done ?_
 refine s_keep [0, 1, 4, 16] (e' := [(0, _), (1, _), (4, _), (16, _)]) rfl ?_
 refine k_then_n ?_
 refine c_cond_np rfl (fun hin => ?_) (fun hin => ?_)
 ·
  have hno : ¬ (0 ≤ l ∧ l < (x.B.length : Int)) := fun h => hin (by omega)
  refine c_seq ?_
  refine c_plain (.q 0 ((.l 1 [] (.q 2 (.done))))) (by kernel_rfl) ?_
  refine q_build rfl rfl rfl rfl (vs := [_, _]) (run_buildS Try.underlying90 Try.zeroValue90 (ps := [(0, 1), (1, 1)]) ⟨rfl, Try.sizeOf3, rfl, Try.sizeOf3, trivial⟩ rfl) ?_
  refine l_store (j := 0) rfl rfl rfl rfl Try.sizeOf90 (us := [_, _]) rfl rfl rfl Tk (by first | rfl | exact (Nat.add_zero _).symm) (by first | decide | (simp; done) | omega) ?_
  simp only [setL, List.set]
  refine ag_nil ?_
  refine q_assign rfl rfl rfl rfl ?_
  refine r_done ?_
  refine s_keep [4, 5] (e' := [(4, _), (5, _)]) rfl ?_
  refine k_then_n ?_
  refine c_ret ?_
  refine k_then_ret ?_
  refine rk_fold (b := b) x (pa := pa) (pc := pc) (ta := ta) (tc := tc) (oa := oa) (oc := oc) (ba := ba) (bc := bc) Ts (by rfl) (by rfl) (by rfl) (by rfl) ?_
  refine retL (us := [_, _]) rfl ⟨rv_cellN rfl Try.isAgg90 Try.sizeOf90 Tk 0 rfl (us := [_, _]) rfl rfl, rv_tmp rfl, trivial⟩ (()) (by rw [if_neg hno, if_neg hno]; rfl) (by trivial) ?_
  exact Tf
 ·
  have hyes : 0 ≤ l ∧ l < (x.B.length : Int) := by omega
  have hel := opF_at (x := x) (b := l) hin.1 hin.2
  refine c_skip ?_
  refine k_then_n ?_
  refine c_seq ?_
  refine c_plain (.q 0 (.q 1 (.q 2 (.q 3 (.q 4 (.q 5 (.q 6 ((.l 7 [] (.q 8 (.done))))))))))) (by kernel_rfl) ?_
  refine q_move rfl rfl rfl rfl ?_
  refine q_nil_p rfl rfl rfl rfl ?_
  refine q_field (k := 7) rfl rfl rfl rfl Try.underlying133 rfl Try.sizeOf126 rfl ?_
  refine q_load_c (j := 7) rfl rfl rfl rfl Try.isAgg126 Tk (by first | rfl | exact (Nat.add_zero _).symm) (by rfl) ?_
  refine q_move rfl rfl rfl rfl ?_
  refine q_idxO (sz := 1) (k := l.toNat) (enc := enc2) (xs := x.B) rfl rfl rfl rfl rfl Try.underlying126 Try.sizeOf90 hel (by first | rfl | omega) (by omega) Tk ?_
  intro ib23 io23 ha23 hl23 hc23
  refine q_loadN_O (j := 0) (k' := l.toNat) (us := [_, _]) (enc := enc2) (off := io23) rfl rfl rfl rfl Try.isAgg90 Try.sizeOf90 ha23 enc2_len hel Tk (by first | rfl | exact (Nat.add_zero _).symm | omega) (by rfl) rfl ?_
  refine l_store (j := 0) rfl rfl rfl rfl Try.sizeOf90 (us := [_, _]) rfl rfl rfl Tk (by first | rfl | exact (Nat.add_zero _).symm) (by first | decide | (simp; done) | omega) ?_
  simp only [setL, List.set]
  refine ag_nil ?_
  refine q_assign rfl rfl rfl rfl ?_
  refine r_done ?_
  refine s_keep [4, 5] (e' := [(4, _), (5, _)]) rfl ?_
  refine k_then_n ?_
  refine c_ret ?_
  refine rk_fold (b := b) x (pa := pa) (pc := pc) (ta := ta) (tc := tc) (oa := oa) (oc := oc) (ba := ba) (bc := bc) Ts (by rfl) (by rfl) (by rfl) (by rfl) ?_
  refine retL (us := [_, _]) rfl ⟨rv_cellN rfl Try.isAgg90 Try.sizeOf90 Tk 0 rfl (us := [_, _]) rfl rfl, rv_tmp rfl, trivial⟩ (()) (by rw [if_pos hyes, if_pos hyes]; rfl) (by trivial) ?_
  exact Tf
end Go.Ab.Fe
set_option linter.unusedVariables false
set_option linter.unusedSimpArgs false
set_option maxRecDepth 100000
namespace Go.Ab.Fe
open Go Go.Proofs Go.Ab
abbrev nxT (x : CS) (e : T3) : CS := nxF x e.1 e.2.1 e.2.2
abbrev canT (x : CS) (e : T3) : Prop := canF x e.1 e.2.1 e.2.2
/-- Behind the first i events, those that cannot be next left out. -/
def sN (x : CS) (es : List T3) (i : Nat) : CS := (es.take i).foldl nxT x
theorem sN_zero (x : CS) (es : List T3) : sN x es 0 = x := rfl
theorem sN_next {x : CS} {es : List T3} {i : Nat} {e : T3} (h : es[i]? = some e) : sN x es (i + 1) = nxF (sN x es i) e.1 e.2.1 e.2.2 := by
  unfold sN; rw [take_next h, List.foldl_append]; rfl
theorem nxF_pa (x : CS) (k t o : Int) : (nxF x k t o).pa = x.pa ∧ (nxF x k t o).th = x.th ∧ (nxF x k t o).va = x.va ∧ (nxF x k t o).vo = x.vo ∧ (nxF x k t o).lk = x.lk := by
  unfold nxF nextF; split
  · repeat' split
    all_goals exact ⟨rfl, rfl, rfl, rfl, rfl⟩
  · exact ⟨rfl, rfl, rfl, rfl, rfl⟩
theorem nxF_n (x : CS) (k t o : Int) : (nxF x k t o).n = x.n ∨ (nxF x k t o).n = x.n + 1 := by
  unfold nxF nextF; split
  · repeat' split
    all_goals exact .inr rfl
  · exact .inl rfl
theorem sN_inv {x : CS} (hx : CInv x) (es : List T3) : ∀ i, CInv (sN x es i) := by
  intro i
  induction i with
  | zero => exact hx
  | succ i ih =>
    rcases Nat.lt_or_ge i es.length with h | h
    · obtain ⟨e, he⟩ := get_lt h
      rw [sN_next he]; exact next_inv ih _ _ _
    · have : sN x es (i + 1) = sN x es i := by unfold sN; rw [List.take_of_length_le (by omega), List.take_of_length_le h]
      rw [this]; exact ih
theorem sN_sh (x : CS) (es : List T3) : ∀ i, (sN x es i).pa = x.pa ∧ (sN x es i).th = x.th ∧ (sN x es i).va = x.va ∧ (sN x es i).vo = x.vo ∧ (sN x es i).lk = x.lk := by
  intro i
  induction i with
  | zero => exact ⟨rfl, rfl, rfl, rfl, rfl⟩
  | succ i ih =>
    rcases Nat.lt_or_ge i es.length with h | h
    · obtain ⟨e, he⟩ := get_lt h
      rw [sN_next he]
      obtain ⟨a, b, c, d, f⟩ := nxF_pa (sN x es i) e.1 e.2.1 e.2.2
      rw [a, b, c, d, f]; exact ih
    · have : sN x es (i + 1) = sN x es i := by unfold sN; rw [List.take_of_length_le (by omega), List.take_of_length_le h]
      rw [this]; exact ih
theorem sN_n (x : CS) (es : List T3) : ∀ i, x.n ≤ (sN x es i).n ∧ (sN x es i).n ≤ x.n + i := by
  intro i
  induction i with
  | zero => rw [sN_zero]; omega
  | succ i ih =>
    rcases Nat.lt_or_ge i es.length with h | h
    · obtain ⟨e, he⟩ := get_lt h
      rw [sN_next he]
      rcases nxF_n (sN x es i) e.1 e.2.1 e.2.2 with h | h <;> rw [h] <;> omega
    · have : sN x es (i + 1) = sN x es i := by unfold sN; rw [List.take_of_length_le (by omega), List.take_of_length_le h]
      rw [this]; omega
/-- All of the first i events can be. -/
def allC (x : CS) (es : List T3) (i : Nat) : Prop := ∀ (j : Nat) (e : T3), j < i → es[j]? = some e → canT (sN x es j) e
theorem allC_zero (x : CS) (es : List T3) : allC x es 0 := fun j e h => by omega
theorem allC_next {x : CS} {es : List T3} {i : Nat} {e : T3} (h : allC x es i) (he : es[i]? = some e) (hc : canT (sN x es i) e) : allC x es (i + 1) := fun j q hj hq => by
  by_cases hji : j = i
  · subst hji; rw [he] at hq; cases hq; exact hc
  · exact h j q (by omega) hq
def leastN : CS → List T3 → Nat
  | _, [] => 0
  | x, e :: es => if canT x e then leastN (nxT x e) es + 1 else 0
def lsR (th va vo lk : Int) (pl : List Int) (es : List T3) : Int := if OkS th va vo lk pl then ((leastN (newF th va vo lk pl) es : Nat) : Int) else 0
theorem rnew_spec (th va vo lk : Int) (pl : List Int) (ao : Option Addr) (n c : Nat) (A : HProp) (hr : RdS A ao (pl.flatMap encZ)) (hn : pl.length = n) (hb : n ≤ 4000000) (hok : OkS th va vo lk pl) : Spec Try.prog 37 [.agg #[.int .i64 th, .int .i64 va, .int .i64 vo, .int .i64 lk, .slice ao n c]] [A] (fun (r : Nat × Option Addr × Nat) => .tuple #[.pointer (some ⟨r.1, 0, none⟩), .int .i64 0]) (fun r => True) (fun r => [A, own 1 encZ r.2.1 r.2.2 pl, rk r.2.1 r.2.2 r.1 (newF th va vo lk pl)]) := by
 refine spec_mk (n := 92) Try.func37 rfl rfl rfl ?_
 intro Γ w0
 simp only [argE, List.cons_append, List.nil_append, Nat.zero_add, Nat.reduceAdd]
 have h1_ := hok.th
 have h2_ := hok.lk
 have h3_ := hok.pl
 refine c_seq ?_
 refine c_plain ((.l 0 [] (.q 1 (.q 2 (.done))))) (by kernel_rfl) ?_
 refine l_box rfl rfl rfl rfl (us := [_, _, _, _, _]) rfl ?_
 intro b1
 refine ag_nil ?_
 refine q_assign rfl rfl rfl rfl ?_
 refine q_assign rfl rfl rfl rfl ?_
 refine r_done ?_
 refine k_then_n ?_
 refine c_seq ?_
 refine c_plain (.q 0 ((.l 1 [] (.q 2 (.done))))) (by kernel_rfl) ?_
 refine q_loadN_c rfl rfl rfl rfl Try.isAgg25 Try.sizeOf25 Tk 0 (us := [_, _, _, _, _]) (by first | rfl | exact (Nat.add_zero _).symm) rfl rfl ?_
 have sp_1 := rshape_spec th va vo lk pl ao n c A (hr) (by first | rfl | assumption | omega | (simp; done) | (simp; omega)) (by omega)
 refine l_call rfl rfl rfl rfl rfl rfl Try.call36 (sp_1) Ts ?_
 rintro ⟨⟩ -
 try simp only [List.cons_append, List.nil_append]
 refine ag_nil ?_
 refine s_eq 10 rfl (v' := .int .i64 0) (by rw [if_pos hok]) ?_
 refine q_assign rfl rfl rfl rfl ?_
 refine r_done ?_
 refine s_keep [1, 4] (e' := [(1, _), (4, _)]) rfl ?_
 refine k_then_n ?_
 refine c_seq ?_
 refine c_seq ?_
 refine c_plain (.q 0 (.q 1 (.done))) (by kernel_rfl) ?_
 refine q_move rfl rfl rfl rfl ?_
 refine q_int rfl rfl rfl rfl rfl (b_neq _ _ _ _) ?_
 refine s_eq 12 rfl (v' := .bool false) (by first | rfl | simp) ?_
 refine r_done ?_
 refine k_then_n ?_
 refine c_cond_f rfl ?_
 refine c_skip ?_
 refine k_then_n ?_
 refine c_seq ?_
 refine c_plain (.q 0 (.q 1 ((.l 2 [] (.q 3 (.done)))))) (by kernel_rfl) ?_
 refine q_loadN_c rfl rfl rfl rfl Try.isAgg25 Try.sizeOf25 Tk 0 (us := [_, _, _, _, _]) (by first | rfl | exact (Nat.add_zero _).symm) rfl rfl ?_
 refine q_build rfl rfl rfl rfl (vs := [_, _, _, _, _, _, _, _, _]) (run_buildS Try.underlying133 Try.zeroValue133 (ps := [(0, 5), (5, 1), (6, 1), (7, 1), (8, 1)]) ⟨rfl, Try.sizeOf25, rfl, Try.sizeOf131, rfl, Try.sizeOf23, rfl, Try.sizeOf126, rfl, Try.sizeOf3, trivial⟩ rfl) ?_
 refine l_box rfl rfl rfl rfl (us := [_, _, _, _, _, _, _, _, _]) rfl ?_
 intro b16
 refine ag_nil ?_
 refine q_assign rfl rfl rfl rfl ?_
 refine r_done ?_
 refine s_keep [1, 5] (e' := [(1, _), (5, _)]) rfl ?_
 refine k_then_n ?_
 refine c_seq ?_
 refine c_plain (.q 0 (.q 1 (.q 2 (.q 3 ((.l 4 [] (.done))))))) (by kernel_rfl) ?_
 refine q_move rfl rfl rfl rfl ?_
 refine q_nil_p rfl rfl rfl rfl ?_
 refine q_field (k := 0) rfl rfl rfl rfl Try.underlying133 rfl Try.sizeOf25 rfl ?_
 refine q_field (k := 4) rfl rfl rfl rfl Try.underlying25 rfl Try.sizeOf23 rfl ?_
 refine l_store (j := 4) rfl rfl rfl rfl Try.sizeOf23 (us := [_]) rfl rfl rfl Tk (by first | rfl | exact (Nat.add_zero _).symm) (by first | decide | (simp; done) | omega) ?_
 simp only [setL, List.set]
 refine ag_nil ?_
 refine r_done ?_
 refine s_keep [1, 5] (e' := [(1, _), (5, _)]) rfl ?_
 refine k_then_n ?_
 refine c_seq ?_
 refine c_seq ?_
 refine c_plain (.q 0 (.done)) (by kernel_rfl) ?_
 refine q_assign rfl rfl rfl rfl ?_
 refine r_done ?_
 refine k_then_n ?_
 refine c_block ?_
 refine s_heap (fun _ h => own_nil (sz := 1) (enc := encZ) h) ?_
 refine s_heap (fun _ h => own_nil (sz := 2) (enc := enc2) h) ?_
 refine c_loop2 (α := Nat × Option Addr × Nat × Option Addr × Nat) (fun (x_ : Nat × Option Addr × Nat × Option Addr × Nat) => match x_ with | (i, ai, ci, bi, di) => i ≤ n ∧ True) (fun (x_ : Nat × Option Addr × Nat × Option Addr × Nat) => match x_ with | (i, ai, ci, bi, di) => [(6, .int .i64 ((i : Nat) : Int))]) (fun (x_ : Nat × Option Addr × Nat × Option Addr × Nat) => match x_ with | (i, ai, ci, bi, di) => [cells b16 0 [.int .i64 th, .int .i64 va, .int .i64 vo, .int .i64 lk, .slice ai i ci, .slice none 0 0, .slice none 0 0, .slice bi i di, .int .i64 0], own 1 encZ ai ci (pl.take i), own 2 enc2 bi di (List.replicate i ((0 : Int), (0 : Int)))]) (fun (x_ : Nat × Option Addr × Nat × Option Addr × Nat) => match x_ with | (i, ai, ci, bi, di) => n - i) [1, 5] (er := [(1, _), (5, _)]) rfl (0, none, 0, none, 0) ?_ (by exact ⟨rfl, trivial⟩) (by (try dsimp only); (try simp only [Nat.add_zero, Nat.zero_add]); (repeat ((with_reducible apply Z2); focus (first | (with_reducible (repeat (first | exact Z0 | apply Z1)); done) | (repeat (first | exact Z0 | apply Z1))))); exact Z3) ?_
 · exact ⟨Nat.zero_le _, trivial⟩
 rintro ⟨i, ai, ci, bi, di⟩ ⟨hle_i, hz1⟩
 try simp only [List.cons_append, List.nil_append]
 refine c_seq ?_
 refine c_seq ?_
 refine c_plain (.q 0 (.q 1 (.q 2 (.q 3 (.q 4 (.done)))))) (by kernel_rfl) ?_
 refine q_move rfl rfl rfl rfl ?_
 refine q_field (k := 4) rfl rfl rfl rfl Try.underlying25 rfl Try.sizeOf23 rfl ?_
 refine q_load_c (j := 4) rfl rfl rfl rfl Try.isAgg23 Tk (by first | rfl | exact (Nat.add_zero _).symm) (by rfl) ?_
 refine q_len rfl rfl rfl rfl Try.underlying23 ?_
 refine q_int rfl rfl rfl rfl rfl (b_lss _ _ _ _) ?_
 refine r_done ?_
 refine s_keep [1, 5, 6, 25] (e' := [(1, _), (5, _), (6, _), (25, _)]) rfl ?_
 refine k_then_n ?_
 refine c_cond_p rfl (fun hlt1 => ?_) (fun hlt1 => ?_)
 ·
  refine c_skip ?_
  refine k_then_n ?_
  refine c_seq ?_
  refine c_block ?_
  refine c_seq ?_
  refine c_draw rfl (.q 0 (.q 1 (.q 2 (.q 3 (.q 4 (.q 5 (.q 6 (.q 7 (.q 8 (.q 9 (.q 10 ((.l 11 [5] ((.l 12 [] (.q 13 (.q 14 (.q 15 ((.l 16 [] (.done))))))))))))))))))))) (by kernel_rfl) ?_
  refine q_move rfl rfl rfl rfl ?_
  refine q_move rfl rfl rfl rfl ?_
  refine q_nil_p rfl rfl rfl rfl ?_
  refine q_field (k := 0) rfl rfl rfl rfl Try.underlying133 rfl Try.sizeOf25 rfl ?_
  refine q_field (k := 4) rfl rfl rfl rfl Try.underlying25 rfl Try.sizeOf23 rfl ?_
  refine q_load_c (j := 4) rfl rfl rfl rfl Try.isAgg23 Tk (by first | rfl | exact (Nat.add_zero _).symm) (by rfl) ?_
  refine q_field (k := 4) rfl rfl rfl rfl Try.underlying25 rfl Try.sizeOf23 rfl ?_
  refine q_load_c (j := 4) rfl rfl rfl rfl Try.isAgg23 Tk (by first | rfl | exact (Nat.add_zero _).symm) (by rfl) ?_
  refine q_move rfl rfl rfl rfl ?_
  obtain ⟨p, hp⟩ := get_lt (l := pl) (i := i) (by first | omega | (simp; done) | (simp; omega))
  refine q_idxR (sz := 0) (k := i) rfl rfl rfl rfl rfl Try.underlying23 Try.sizeOf3 (hr) hp encZ_len (by first | rfl | omega) (by omega) ?_
  intro ib37 io37 _ hd37
  refine q_load rfl rfl rfl rfl Try.isAgg3 Tk (hd37 0 (.int .i64 p) rfl) ?_
  refine l_buildSlice rfl rfl rfl rfl (run_build1 (us := [_]) Try.underlying23 Try.sizeOf3 rfl Try.zeroValue3 rfl rfl rfl) ?_
  intro b39
  refine ag_load_c (q := 4) rfl rfl rfl Try.isAgg23 Tk (by first | rfl | exact (Nat.add_zero _).symm) (by rfl) ?_
  refine ag_nil ?_
  refine l_append (sz := 1) (enc := encZ) (xs := (pl.take i)) rfl rfl rfl rfl rfl Try.underlying23 Try.typeInfo3 rfl rfl rfl (by decide) Tk Tk (by first | rfl | omega | (simp; done) | (simp; omega)) (ys := [p]) (rds_some rdn_cells) (by rfl) (by first | rfl | omega) (encZ_len) (encZ_one) (by omega) (by show _ * 8 ≤ _; omega) ?_
  intro ao40 cp40
  refine ag_nil ?_
  refine q_nil_p rfl rfl rfl rfl ?_
  refine q_field (k := 0) rfl rfl rfl rfl Try.underlying133 rfl Try.sizeOf25 rfl ?_
  refine q_field (k := 4) rfl rfl rfl rfl Try.underlying25 rfl Try.sizeOf23 rfl ?_
  refine l_store (j := 4) rfl rfl rfl rfl Try.sizeOf23 (us := [_]) rfl rfl rfl Tk (by first | rfl | exact (Nat.add_zero _).symm) (by first | decide | (simp; done) | omega) ?_
  simp only [setL, List.set]
  refine ag_nil ?_
  refine r_done ?_
  refine s_keep [1, 5, 6] (e' := [(1, _), (5, _), (6, _)]) rfl ?_
  refine k_then_n ?_
  refine c_plain (.q 0 (.q 1 (.q 2 (.q 3 (.q 4 (.q 5 ((.l 6 [] ((.l 7 [] (.q 8 (.q 9 ((.l 10 [] (.done))))))))))))))) (by kernel_rfl) ?_
  refine q_move rfl rfl rfl rfl ?_
  refine q_move rfl rfl rfl rfl ?_
  refine q_nil_p rfl rfl rfl rfl ?_
  refine q_field (k := 7) rfl rfl rfl rfl Try.underlying133 rfl Try.sizeOf126 rfl ?_
  refine q_load_c (j := 7) rfl rfl rfl rfl Try.isAgg126 Tk (by first | rfl | exact (Nat.add_zero _).symm) (by rfl) ?_
  refine q_build rfl rfl rfl rfl (vs := [_, _]) (run_buildS Try.underlying90 Try.zeroValue90 (ps := [(0, 1), (1, 1)]) ⟨rfl, Try.sizeOf3, rfl, Try.sizeOf3, trivial⟩ rfl) ?_
  refine l_buildSlice rfl rfl rfl rfl (run_build1 (us := [_, _]) Try.underlying126 Try.sizeOf90 rfl Try.zeroValue90 rfl rfl rfl) ?_
  intro b50
  refine ag_nil ?_
  refine l_append (sz := 2) (enc := enc2) (xs := (List.replicate i ((0 : Int), (0 : Int)))) rfl rfl rfl rfl rfl Try.underlying126 Try.typeInfo90 rfl rfl rfl (by decide) Tk Tk (by first | rfl | omega | (simp; done) | (simp; omega)) (ys := [(0, 0)]) (rds_some rdn_cells) (by rfl) (by first | rfl | omega) (enc2_len) (enc2_one) (by omega) (by show _ * 16 ≤ _; omega) ?_
  intro ao51 cp51
  refine ag_nil ?_
  refine q_nil_p rfl rfl rfl rfl ?_
  refine q_field (k := 7) rfl rfl rfl rfl Try.underlying133 rfl Try.sizeOf126 rfl ?_
  refine l_store (j := 7) rfl rfl rfl rfl Try.sizeOf126 (us := [_]) rfl rfl rfl Tk (by first | rfl | exact (Nat.add_zero _).symm) (by first | decide | (simp; done) | omega) ?_
  simp only [setL, List.set]
  refine ag_nil ?_
  refine r_done ?_
  refine s_keep [1, 5, 6] (e' := [(1, _), (5, _), (6, _)]) rfl ?_
  refine k_blk_n ?_
  refine k_then_n ?_
  refine c_plain (.q 0 (.q 1 (.q 2 (.done)))) (by kernel_rfl) ?_
  refine q_move rfl rfl rfl rfl ?_
  refine q_int rfl rfl rfl rfl rfl (b_add' _ (by exact fits_i64 (by omega) (by omega))) ?_
  refine q_assign rfl rfl rfl rfl ?_
  refine r_done ?_
  refine k_then_n ?_
  rw [← take_next hp, ← List.replicate_succ']
  refine loop_next (x := (i, ai, ci, bi, di)) ((i + 1, ao40, cp40, ao51, cp51)) ?_ ?_ ?_ ?_
  · try dsimp only
    exact ⟨by omega, trivial⟩
  · show n - (i + 1) < n - i; omega
  · exact ⟨rfl, rfl, rfl, trivial⟩
  · (try simp only [List.cons_append, List.nil_append]); exact Tf
 ·
  refine c_exit ?_
  refine k_then_exit ?_
  refine k_then_exit ?_
  refine k_blk_here ?_
  refine k_then_n ?_
  refine c_seq ?_
  refine c_seq ?_
  refine c_plain (.q 0 (.done)) (by kernel_rfl) ?_
  refine q_assign rfl rfl rfl rfl ?_
  refine r_done ?_
  refine k_then_n ?_
  refine c_block ?_
  refine s_heap (fun _ h => own_nil (sz := 3) (enc := enc3) h) ?_
  refine c_loop2 (α := Nat × Option Addr × Nat) (fun (x_ : Nat × Option Addr × Nat) => match x_ with | (j, aj, cj) => j ≤ th.toNat ∧ True) (fun (x_ : Nat × Option Addr × Nat) => match x_ with | (j, aj, cj) => [(7, .int .i64 ((j : Nat) : Int))]) (fun (x_ : Nat × Option Addr × Nat) => match x_ with | (j, aj, cj) => [cells b16 0 [.int .i64 th, .int .i64 va, .int .i64 vo, .int .i64 lk, .slice ai i ci, .slice aj j cj, .slice none 0 0, .slice bi i di, .int .i64 0], own 1 encZ ai ci (pl.take i), own 3 enc3 aj cj (List.replicate j ((0 : Int), (0 : Int), (0 : Int))), own 2 enc2 bi di (List.replicate i ((0 : Int), (0 : Int)))]) (fun (x_ : Nat × Option Addr × Nat) => match x_ with | (j, aj, cj) => th.toNat - j) [1, 5] (er := [(1, _), (5, _)]) rfl (0, none, 0) ?_ (by exact ⟨rfl, trivial⟩) (by (try dsimp only); (try simp only [Nat.add_zero, Nat.zero_add]); (repeat ((with_reducible apply Z2); focus (first | (with_reducible (repeat (first | exact Z0 | apply Z1)); done) | (repeat (first | exact Z0 | apply Z1))))); exact Z3) ?_
  · exact ⟨Nat.zero_le _, trivial⟩
  rintro ⟨j, aj, cj⟩ ⟨hle_j, hz2⟩
  try simp only [List.cons_append, List.nil_append]
  refine c_seq ?_
  refine c_seq ?_
  refine c_plain (.q 0 (.q 1 (.q 2 (.q 3 (.done))))) (by kernel_rfl) ?_
  refine q_move rfl rfl rfl rfl ?_
  refine q_field (k := 0) rfl rfl rfl rfl Try.underlying25 rfl Try.sizeOf3 rfl ?_
  refine q_load_c (j := 0) rfl rfl rfl rfl Try.isAgg3 Tk (by first | rfl | exact (Nat.add_zero _).symm) (by rfl) ?_
  refine q_int rfl rfl rfl rfl rfl (b_lss _ _ _ _) ?_
  refine r_done ?_
  refine k_then_n ?_
  refine c_cond_p rfl (fun hlt2 => ?_) (fun hlt2 => ?_)
  ·
   refine c_skip ?_
   refine k_then_n ?_
   refine c_seq ?_
   refine c_block ?_
   refine c_plain (.q 0 (.q 1 (.q 2 (.q 3 (.q 4 (.q 5 ((.l 6 [] ((.l 7 [] (.q 8 (.q 9 ((.l 10 [] (.done))))))))))))))) (by kernel_rfl) ?_
   refine q_move rfl rfl rfl rfl ?_
   refine q_move rfl rfl rfl rfl ?_
   refine q_nil_p rfl rfl rfl rfl ?_
   refine q_field (k := 5) rfl rfl rfl rfl Try.underlying133 rfl Try.sizeOf131 rfl ?_
   refine q_load_c (j := 5) rfl rfl rfl rfl Try.isAgg131 Tk (by first | rfl | exact (Nat.add_zero _).symm) (by rfl) ?_
   refine q_build rfl rfl rfl rfl (vs := [_, _, _]) (run_buildS Try.underlying95 Try.zeroValue95 (ps := [(0, 1), (1, 1), (2, 1)]) ⟨rfl, Try.sizeOf93, rfl, Try.sizeOf3, rfl, Try.sizeOf3, trivial⟩ rfl) ?_
   refine l_buildSlice rfl rfl rfl rfl (run_build1 (us := [_, _, _]) Try.underlying131 Try.sizeOf95 rfl Try.zeroValue95 rfl rfl rfl) ?_
   intro b66
   refine ag_nil ?_
   refine l_append (sz := 3) (enc := enc3) (xs := (List.replicate j ((0 : Int), (0 : Int), (0 : Int)))) rfl rfl rfl rfl rfl Try.underlying131 Try.typeInfo95 rfl rfl rfl (by decide) Tk Tk (by first | rfl | omega | (simp; done) | (simp; omega)) (ys := [(0, 0, 0)]) (rds_some rdn_cells) (by rfl) (by first | rfl | omega) (enc3_len) (enc3_one) (by omega) (by show _ * 24 ≤ _; omega) ?_
   intro ao67 cp67
   refine ag_nil ?_
   refine q_nil_p rfl rfl rfl rfl ?_
   refine q_field (k := 5) rfl rfl rfl rfl Try.underlying133 rfl Try.sizeOf131 rfl ?_
   refine l_store (j := 5) rfl rfl rfl rfl Try.sizeOf131 (us := [_]) rfl rfl rfl Tk (by first | rfl | exact (Nat.add_zero _).symm) (by first | decide | (simp; done) | omega) ?_
   simp only [setL, List.set]
   refine ag_nil ?_
   refine r_done ?_
   refine s_keep [1, 5, 7] (e' := [(1, _), (5, _), (7, _)]) rfl ?_
   refine k_blk_n ?_
   refine k_then_n ?_
   refine c_plain (.q 0 (.q 1 (.q 2 (.done)))) (by kernel_rfl) ?_
   refine q_move rfl rfl rfl rfl ?_
   refine q_int rfl rfl rfl rfl rfl (b_add' _ (by exact fits_i64 (by omega) (by omega))) ?_
   refine q_assign rfl rfl rfl rfl ?_
   refine r_done ?_
   refine k_then_n ?_
   rw [← List.replicate_succ']
   refine loop_next (x := (j, aj, cj)) ((j + 1, ao67, cp67)) ?_ ?_ ?_ ?_
   · try dsimp only
     exact ⟨by omega, trivial⟩
   · show th.toNat - (j + 1) < th.toNat - j; omega
   · exact ⟨rfl, rfl, rfl, trivial⟩
   · (try simp only [List.cons_append, List.nil_append]); exact Tf
  ·
   refine c_exit ?_
   refine k_then_exit ?_
   refine k_then_exit ?_
   refine k_blk_here ?_
   refine k_then_n ?_
   refine c_seq ?_
   have hj0 : j = th.toNat := by omega
   obtain ⟨z0, hz0⟩ := get_lt (l := List.replicate j ((0 : Int), (0 : Int), (0 : Int))) (i := 0) (by simp; omega)
   obtain rfl : z0 = (0, 0, 0) := (List.mem_replicate.1 (List.mem_of_getElem? hz0)).2
   refine c_plain (.q 0 (.q 1 (.q 2 (.q 3 (.q 4 (.q 5 ((.l 6 [] (.done))))))))) (by kernel_rfl) ?_
   refine q_move rfl rfl rfl rfl ?_
   refine q_nil_p rfl rfl rfl rfl ?_
   refine q_field (k := 5) rfl rfl rfl rfl Try.underlying133 rfl Try.sizeOf131 rfl ?_
   refine q_load_c (j := 5) rfl rfl rfl rfl Try.isAgg131 Tk (by first | rfl | exact (Nat.add_zero _).symm) (by rfl) ?_
   refine q_idxO (sz := 2) (k := 0) (enc := enc3) (xs := (List.replicate j ((0 : Int), (0 : Int), (0 : Int)))) rfl rfl rfl rfl rfl Try.underlying131 Try.sizeOf95 hz0 (by first | rfl | omega) (by omega) Tk ?_
   intro ib74 io74 ha74 hl74 hc74
   refine q_field (k := 0) rfl rfl rfl rfl Try.underlying95 rfl Try.sizeOf93 rfl ?_
   refine l_store_O (j := 0) (k := 0) (q := (1, 0, 0)) (enc := enc3) (off := io74) rfl rfl rfl rfl Try.sizeOf93 (us := [_]) rfl rfl rfl ha74 enc3_len hz0 Tk (by first | rfl | exact (Nat.add_zero _).symm | omega) (by first | decide | exact Nat.le_of_ble_eq_true rfl) (by rfl) ?_
   refine ag_nil ?_
   refine r_done ?_
   refine s_keep [1, 5] (e' := [(1, _), (5, _)]) rfl ?_
   refine k_then_n ?_
   refine c_seq ?_
   refine c_seq ?_
   refine c_plain (.q 0 (.done)) (by kernel_rfl) ?_
   refine q_assign rfl rfl rfl rfl ?_
   refine r_done ?_
   refine k_then_n ?_
   refine c_block ?_
   refine s_heap (fun _ h => own_nil (sz := 1) (enc := encZ) h) ?_
   refine c_loop2 (α := Nat × Option Addr × Nat) (fun (x_ : Nat × Option Addr × Nat) => match x_ with | (m, am, cm) => m ≤ lk.toNat ∧ True) (fun (x_ : Nat × Option Addr × Nat) => match x_ with | (m, am, cm) => [(8, .int .i64 ((m : Nat) : Int))]) (fun (x_ : Nat × Option Addr × Nat) => match x_ with | (m, am, cm) => [cells b16 0 [.int .i64 th, .int .i64 va, .int .i64 vo, .int .i64 lk, .slice ai i ci, .slice aj j cj, .slice am m cm, .slice bi i di, .int .i64 0], own 1 encZ ai ci (pl.take i), own 3 enc3 aj cj ((List.replicate j ((0 : Int), (0 : Int), (0 : Int))).set 0 (1, 0, 0)), own 1 encZ am cm (List.replicate m (-1 : Int)), own 2 enc2 bi di (List.replicate i ((0 : Int), (0 : Int)))]) (fun (x_ : Nat × Option Addr × Nat) => match x_ with | (m, am, cm) => lk.toNat - m) [1, 5] (er := [(1, _), (5, _)]) rfl (0, none, 0) ?_ (by exact ⟨rfl, trivial⟩) (by (try dsimp only); (try simp only [Nat.add_zero, Nat.zero_add]); (repeat ((with_reducible apply Z2); focus (first | (with_reducible (repeat (first | exact Z0 | apply Z1)); done) | (repeat (first | exact Z0 | apply Z1))))); exact Z3) ?_
   · exact ⟨Nat.zero_le _, trivial⟩
   rintro ⟨m, am, cm⟩ ⟨hle_m, hz3⟩
   try simp only [List.cons_append, List.nil_append]
   refine c_seq ?_
   refine c_seq ?_
   refine c_plain (.q 0 (.q 1 (.q 2 (.q 3 (.done))))) (by kernel_rfl) ?_
   refine q_move rfl rfl rfl rfl ?_
   refine q_field (k := 3) rfl rfl rfl rfl Try.underlying25 rfl Try.sizeOf3 rfl ?_
   refine q_load_c (j := 3) rfl rfl rfl rfl Try.isAgg3 Tk (by first | rfl | exact (Nat.add_zero _).symm) (by rfl) ?_
   refine q_int rfl rfl rfl rfl rfl (b_lss _ _ _ _) ?_
   refine r_done ?_
   refine k_then_n ?_
   refine c_cond_p rfl (fun hlt3 => ?_) (fun hlt3 => ?_)
   ·
    refine c_skip ?_
    refine k_then_n ?_
    refine c_seq ?_
    refine c_block ?_
    refine c_plain (.q 0 (.q 1 (.q 2 (.q 3 (.q 4 ((.l 5 [] ((.l 6 [] (.q 7 (.q 8 ((.l 9 [] (.done)))))))))))))) (by kernel_rfl) ?_
    refine q_move rfl rfl rfl rfl ?_
    refine q_move rfl rfl rfl rfl ?_
    refine q_nil_p rfl rfl rfl rfl ?_
    refine q_field (k := 6) rfl rfl rfl rfl Try.underlying133 rfl Try.sizeOf23 rfl ?_
    refine q_load_c (j := 6) rfl rfl rfl rfl Try.isAgg23 Tk (by first | rfl | exact (Nat.add_zero _).symm) (by rfl) ?_
    refine l_buildSlice rfl rfl rfl rfl (run_build1 (us := [_]) Try.underlying23 Try.sizeOf3 rfl Try.zeroValue3 rfl rfl rfl) ?_
    intro b87
    refine ag_nil ?_
    refine l_append (sz := 1) (enc := encZ) (xs := (List.replicate m (-1 : Int))) rfl rfl rfl rfl rfl Try.underlying23 Try.typeInfo3 rfl rfl rfl (by decide) Tk Tk (by first | rfl | omega | (simp; done) | (simp; omega)) (ys := [(-1)]) (rds_some rdn_cells) (by rfl) (by first | rfl | omega) (encZ_len) (encZ_one) (by omega) (by show _ * 8 ≤ _; omega) ?_
    intro ao88 cp88
    refine ag_nil ?_
    refine q_nil_p rfl rfl rfl rfl ?_
    refine q_field (k := 6) rfl rfl rfl rfl Try.underlying133 rfl Try.sizeOf23 rfl ?_
    refine l_store (j := 6) rfl rfl rfl rfl Try.sizeOf23 (us := [_]) rfl rfl rfl Tk (by first | rfl | exact (Nat.add_zero _).symm) (by first | decide | (simp; done) | omega) ?_
    simp only [setL, List.set]
    refine ag_nil ?_
    refine r_done ?_
    refine s_keep [1, 5, 8] (e' := [(1, _), (5, _), (8, _)]) rfl ?_
    refine k_blk_n ?_
    refine k_then_n ?_
    refine c_plain (.q 0 (.q 1 (.q 2 (.done)))) (by kernel_rfl) ?_
    refine q_move rfl rfl rfl rfl ?_
    refine q_int rfl rfl rfl rfl rfl (b_add' _ (by exact fits_i64 (by omega) (by omega))) ?_
    refine q_assign rfl rfl rfl rfl ?_
    refine r_done ?_
    refine k_then_n ?_
    rw [← List.replicate_succ']
    refine loop_next (x := (m, am, cm)) ((m + 1, ao88, cp88)) ?_ ?_ ?_ ?_
    · try dsimp only
      exact ⟨by omega, trivial⟩
    · show lk.toNat - (m + 1) < lk.toNat - m; omega
    · exact ⟨rfl, rfl, rfl, trivial⟩
    · (try simp only [List.cons_append, List.nil_append]); exact Tf
   ·
    refine c_exit ?_
    refine k_then_exit ?_
    refine k_then_exit ?_
    refine k_blk_here ?_
    refine k_then_n ?_
    refine c_seq ?_
    refine c_plain (.q 0 (.q 1 (.q 2 (.done)))) (by kernel_rfl) ?_
    refine q_move rfl rfl rfl rfl ?_
    refine q_assign rfl rfl rfl rfl ?_
    refine q_assign rfl rfl rfl rfl ?_
    refine r_done ?_
    refine s_keep [2, 3] (e' := [(2, _), (3, _)]) rfl ?_
    refine k_then_n ?_
    refine c_ret ?_
    obtain rfl : i = n := by omega
    obtain rfl : j = th.toNat := hj0
    obtain rfl : m = lk.toNat := by omega
    subst hn
    rw [List.take_length]
    refine rk_fold (b := b16) (newF th va vo lk pl) (pa := ai) (pc := ci) (ta := aj) (tc := cj) (oa := am) (oc := cm) (ba := bi) (bc := di) Ts (by rfl) (by simp [newF]) (by simp [newF]) (by simp [newF]) ?_
    refine ret2 rfl rfl rfl ((b16, ai, ci)) (by first | rfl | (first | rfl | (congr 1; done) | (congr 1 <;> first | rfl | omega | (simp; done) | (simp; omega)))) (by trivial) ?_
    exact Tf
end Go.Ab.Fe
set_option linter.unusedVariables false
set_option linter.unusedSimpArgs false
namespace Go.Ab.Ord
open Go Go.Ab
def edgeB (es : List Ev) (R : Nat → Int) (i j : Nat) : Bool := decide (i < j) && match es[i]?, es[j]? with | some a, some b => decide (ruleE a b (R i) (R j)) | _, _ => false
section
variable {es : List Ev} {R : Nat → Int} {i j k n : Nat}
theorem edgeB_iff : edgeB es R i j = true ↔ edge es R i j := by
  unfold edgeB edge
  cases ha : es[i]? with
  | none => simp
  | some a => cases hb : es[j]? with
    | none => simp
    | some b => simp
theorem edgeB_at {a b : Ev} (ha : es[i]? = some a) (hb : es[j]? = some b) (h : i < j) : edgeB es R i j = decide (ruleE a b (R i) (R j)) := by
  unfold edgeB; rw [ha, hb]; simp [h]
def hbN (es : List Ev) (R : Nat → Int) : Nat → Nat → Nat → Bool
  | 0, _, _ => false
  | f + 1, i, j => edgeB es R i j || (List.range j).any (fun m => edgeB es R i m && hbN es R f m j)
theorem hbN_hb : ∀ {f i}, hbN es R f i j = true → HB es R i j
  | 0, i, h => by cases h
  | f + 1, i, h => by
    unfold hbN at h
    rw [Bool.or_eq_true, List.any_eq_true] at h
    rcases h with h | ⟨m, _, h⟩
    · exact .one (edgeB_iff.1 h)
    · rw [Bool.and_eq_true] at h
      exact .more (edgeB_iff.1 h.1) (hbN_hb h.2)
theorem hb_hbN (h : HB es R i j) : ∀ f, j ≤ i + f → hbN es R f i j = true := by
  induction h with
  | one h =>
    intro f hf
    have := h.1
    cases f with
    | zero => omega
    | succ f => unfold hbN; rw [edgeB_iff.2 h]; rfl
  | @more i m j h h2 ih =>
    intro f hf
    have h3 := h.1
    have h4 := h2.lt
    cases f with
    | zero => omega
    | succ f =>
      unfold hbN
      rw [Bool.or_eq_true, List.any_eq_true]
      exact .inr ⟨m, List.mem_range.2 h4, by rw [edgeB_iff.2 h, ih f (by omega)]; rfl⟩
/-- Does event i happen before event j? -/
def hbF (es : List Ev) (R : Nat → Int) (i j : Nat) : Bool := hbN es R es.length i j
theorem hbF_iff : hbF es R i j = true ↔ HB es R i j := ⟨hbN_hb, fun h => hb_hbN h _ (by have := h.bound; omega)⟩
theorem hbF_lt (h : ¬ i < j) : hbF es R i j = false := by
  cases e : hbF es R i j with
  | false => rfl
  | true => exact absurd (hbF_iff.1 e).lt h
/-- The row of event i, the events up to j taken in. -/
def rowF (es : List Ev) (R : Nat → Int) (i j q : Nat) : Bool := (List.range j).any (fun m => edgeB es R i m && (decide (q = m) || hbF es R m q))
theorem rowF_iff {q : Nat} : rowF es R i j q = true ↔ ∃ m, m < j ∧ edge es R i m ∧ (q = m ∨ HB es R m q) := by
  unfold rowF
  rw [List.any_eq_true]
  constructor
  · rintro ⟨m, h1, h2⟩
    rw [Bool.and_eq_true, Bool.or_eq_true, decide_eq_true_eq, hbF_iff, edgeB_iff] at h2
    exact ⟨m, List.mem_range.1 h1, h2⟩
  · rintro ⟨m, h1, h2⟩
    exact ⟨m, List.mem_range.2 h1, by rw [Bool.and_eq_true, Bool.or_eq_true, decide_eq_true_eq, hbF_iff, edgeB_iff]; exact h2⟩
theorem rowF_start {q : Nat} : rowF es R i (i + 1) q = false := by
  cases e : rowF es R i (i + 1) q with
  | false => rfl
  | true => obtain ⟨m, h1, h2, _⟩ := rowF_iff.1 e; have := h2.1; omega
theorem rowF_end (h : es.length ≤ n) {q : Nat} : rowF es R i n q = hbF es R i q := by
  rw [Bool.eq_iff_iff, rowF_iff, hbF_iff, HB.first]
  constructor
  · rintro ⟨m, _, h1, h2⟩; exact ⟨m, h1, h2.imp Eq.symm id⟩
  · rintro ⟨m, h1, h2⟩
    refine ⟨m, ?_, h1, h2.imp Eq.symm id⟩
    have := (HB.bound (HB.one h1)).2; omega
theorem rowF_next {q : Nat} : rowF es R i (j + 1) q = (rowF es R i j q || (edgeB es R i j && (decide (q = j) || hbF es R j q))) := by
  unfold rowF; rw [List.range_succ, List.any_append]; simp
theorem rowF_skip (h : rowF es R i j j = true ∨ edgeB es R i j = false) {q : Nat} : rowF es R i (j + 1) q = rowF es R i j q := by
  rw [rowF_next]
  cases e : edgeB es R i j && (decide (q = j) || hbF es R j q) with
  | false => rw [Bool.or_false]
  | true =>
    rw [Bool.or_true]
    rw [Bool.and_eq_true, Bool.or_eq_true, decide_eq_true_eq, hbF_iff] at e
    rcases h with h | h
    · symm
      rw [rowF_iff] at h ⊢
      obtain ⟨m, h1, h2, h3⟩ := h
      refine ⟨m, h1, h2, ?_⟩
      rcases h3 with rfl | h3
      · omega
      · rcases e.2 with rfl | e
        · exact .inr h3
        · exact .inr (h3.trans e)
    · rw [h] at e; cases e.1
theorem rowF_add (h : edgeB es R i j = true) {q : Nat} (hq : j < q) : rowF es R i (j + 1) q = (rowF es R i j q || hbF es R j q) := by
  rw [rowF_next, h, decide_eq_false (by omega)]; simp
theorem rowF_at (h : edgeB es R i j = true) : rowF es R i (j + 1) j = true := by
  rw [rowF_next, h, decide_eq_true rfl]; simp
theorem rowF_lo (h : j ≤ i ∨ True) {q : Nat} (hq : q < j) : rowF es R i (j + 1) q = rowF es R i j q := by
  rw [rowF_next, decide_eq_false (by omega), hbF_lt (by omega)]; simp
end
section
variable {α : Type} {w0 : World} {ds : List Deferred} {n : Nat} {e : Env} {Γ : List HProp} {X : Act → World → Prop}
theorem s_big_rep {sz : Nat} {enc : α → List Value} (m : Nat) (k : Le (St w0 ds n e (bigS (owA sz enc) (List.replicate m ((none, 0, []) : LstA α)) :: Γ)) X) : Le (St w0 ds n e Γ) X := by
  induction m with
  | zero => exact s_big_nil k
  | succ m ih =>
    refine ih ?_
    refine s_heap (fun _ h => own_nil (sz := sz) (enc := enc) h) ?_
    refine s_heap (fun h s => big_push (f := owA sz enc) (x := ((none, 0, []) : LstA α)) (Sat.swap s)) ?_
    rw [← List.replicate_succ']; exact k
end
end Go.Ab.Ord
set_option linter.unusedVariables false
set_option linter.unusedSimpArgs false
set_option maxRecDepth 100000
namespace Go.Ab.Ord
open Go Go.Proofs Go.Ab Go.Ab.Fe
def encB (x : Bool) : List Value := [.bool x]
theorem encB_len : ∀ x, (encB x).length = 1 := fun _ => rfl
abbrev RowB := LstA Bool
def rf (rs : List Int) (k : Nat) : Int := rs.getD k 0
/-- An order at b: its events, its rounds, who happens before whom. -/
def ordR (b : Nat) (es : List T3) (rs : List Int) : HProp := fun h => ∃ ea ec ra rc ba bc G, G.length = es.length ∧ (∀ (q : Nat) (x : RowB), G[q]? = some x → x.2.2 = mks (hbF es (rf rs) q) es.length) ∧
  Sat [cells b 0 [.slice ea es.length ec, .slice ra es.length rc, .slice ba es.length bc], own 3 enc3 ea ec es, own 1 encZ ra rc rs, own 1 encH ba bc G, bigS (owA 1 encB) G] h
section
variable {w0 : World} {ds : List Deferred} {n : Nat} {e : Env} {Γ Γ' : List HProp} {X : Act → World → Prop}
theorem ord_open {b : Nat} {es : List T3} {rs : List Int} (k : ∀ ea ec ra rc ba bc G, G.length = es.length → (∀ (q : Nat) (x : RowB), G[q]? = some x → x.2.2 = mks (hbF es (rf rs) q) es.length) →
    Le (St w0 ds n e (cells b 0 [.slice ea es.length ec, .slice ra es.length rc, .slice ba es.length bc] :: own 3 enc3 ea ec es :: own 1 encZ ra rc rs :: own 1 encH ba bc G :: bigS (owA 1 encB) G :: Γ)) X) : Le (St w0 ds n e (ordR b es rs :: Γ)) X := fun a w s => by
  obtain ⟨h1, l1, ⟨ea, ec, ra, rc, ba, bc, G, hG, hq, a1⟩, s1⟩ := s.heap
  exact k ea ec ra rc ba bc G hG hq a w ⟨s.defers, s.size, s.env, Bun.unfold ⟨h1, l1, a1, s1⟩, s.amb⟩
theorem ord_fold {b : Nat} {es : List T3} {rs : List Int} {ea ra ba : Option Addr} {ec rc bc n1 n2 n3 : Nat} {G : List RowB}
    (tk : Takes Γ [cells b 0 [.slice ea n1 ec, .slice ra n2 rc, .slice ba n3 bc], own 3 enc3 ea ec es, own 1 encZ ra rc rs, own 1 encH ba bc G, bigS (owA 1 encB) G] Γ') (h1 : n1 = es.length) (h2 : n2 = es.length) (h3 : n3 = es.length) (hG : G.length = es.length)
    (hq : ∀ (q : Nat) (x : RowB), G[q]? = some x → x.2.2 = mks (hbF es (rf rs) q) es.length) (k : Le (St w0 ds n e (ordR b es rs :: Γ')) X) : Le (St w0 ds n e Γ) X := s_heap (fun h s => by
  subst h1 h2 h3
  obtain ⟨h1, l1, a1, s1⟩ := Bun.fold (tk h s)
  exact ⟨h1, l1, ⟨ea, ec, ra, rc, ba, bc, G, hG, hq, a1⟩, s1⟩) k
end
/-- Why an event is directly before another one. -/
def whyC (a b : T3) (ra rb : Int) : Int :=
  if a.2.1 = b.2.1 then 1 else if a.1 = 6 ∧ b.1 = 5 ∧ a.2.2 = b.2.2 then 2 else if a.1 = 4 ∧ b.1 = 3 ∧ a.2.2 = b.2.2 then 3 else if a.1 = 7 ∧ a.2.2 = b.2.1 then 4 else if b.1 = 8 ∧ b.2.2 = a.2.1 then 5 else if a.1 = 9 ∧ b.1 = 10 ∧ a.2.2 = b.2.2 ∧ ra = rb then 6 else 0
theorem whyC_zero {a b : T3} {ra rb : Int} : whyC a b ra rb = 0 ↔ ¬ ruleE a b ra rb := by
  unfold whyC ruleE
  constructor
  · intro h
    repeat (split at h; · exact absurd h (by decide))
    rintro (h1 | h1 | h1 | h1 | h1 | h1) <;> contradiction
  · intro h
    rw [if_neg (fun q => h (.inl q)), if_neg (fun q => h (.inr (.inl q))), if_neg (fun q => h (.inr (.inr (.inl q)))), if_neg (fun q => h (.inr (.inr (.inr (.inl q))))), if_neg (fun q => h (.inr (.inr (.inr (.inr (.inl q)))))), if_neg (fun q => h (.inr (.inr (.inr (.inr (.inr q))))))]
theorem rf_at {rs : List Int} {i : Nat} {r : Int} (h : rs[i]? = some r) : rf rs i = r := getD_some h
theorem mks_ext {α : Type} {f g : Nat → α} {n : Nat} (h : ∀ q, q < n → f q = g q) : mks f n = mks g n := by
  unfold mks
  exact List.map_congr_left fun q hq => h q (List.mem_range.1 hq)
theorem mks_set {α : Type} {f : Nat → α} {n j : Nat} {v : α} (h : j < n) : (mks f n).set j v = mks (fun q => if q = j then v else f q) n := by
  refine mks_of (by rw [List.length_set, mks_len]) fun q hq => ?_
  by_cases e : q = j
  · subst e; rw [List.getElem?_set_self (by rw [mks_len]; exact h), if_pos rfl]
  · rw [List.getElem?_set_ne (Ne.symm e), mks_get f hq, if_neg e]
theorem rep_mks {α : Type} {f : Nat → α} {n : Nat} {v : α} (h : ∀ q, q < n → f q = v) : List.replicate n v = mks f n := by
  refine mks_of List.length_replicate fun q hq => ?_
  rw [List.getElem?_replicate, if_pos hq, h q hq]
/-- A row, the events up to k of event j's taken in. -/
def midF (es : List T3) (R : Nat → Int) (i j k q : Nat) : Bool := if q < k then rowF es R i (j + 1) q else rowF es R i j q
theorem mid_start {es : List T3} {R : Nat → Int} {i j n : Nat} (h : edgeB es R i j = true) (hj : j < n) : (mks (rowF es R i j) n).set j true = mks (midF es R i j (j + 1)) n := by
  rw [mks_set hj]
  refine mks_ext fun q hq => ?_
  unfold midF
  by_cases e : q = j
  · subst e; rw [if_pos rfl, if_pos (Nat.lt_succ_self _), rowF_at h]
  · rw [if_neg e]
    split
    · rw [rowF_lo (.inr trivial) (by omega)]
    · rfl
theorem mid_next {es : List T3} {R : Nat → Int} {i j n k : Nat} (h : edgeB es R i j = true) (hk : j < k) (hn : k < n) : (mks (midF es R i j k) n).set k (rowF es R i j k || hbF es R j k) = mks (midF es R i j (k + 1)) n := by
  rw [mks_set hn]
  refine mks_ext fun q hq => ?_
  unfold midF
  by_cases e : q = k
  · subst e; rw [if_pos rfl, if_pos (Nat.lt_succ_self _), rowF_add h hk]
  · rw [if_neg e]
    split
    · rw [if_pos (by omega)]
    · rw [if_neg (by omega)]
theorem mid_at {es : List T3} {R : Nat → Int} {i j k : Nat} : midF es R i j k k = rowF es R i j k := if_neg (Nat.lt_irrefl _)
theorem mid_end {es : List T3} {R : Nat → Int} {i j n : Nat} : mks (midF es R i j n) n = mks (rowF es R i (j + 1)) n := mks_ext fun q hq => if_pos hq
theorem olen_spec (b n ec : Nat) (ea : Option Addr) (v1 v2 : Value) : Spec Try.prog 66 [.pointer (some ⟨b, 0, none⟩)] [cells b 0 [.slice ea n ec, v1, v2]] (fun (_ : Unit) => .int .i64 ((n : Nat) : Int)) (fun _ => True) (fun _ => [cells b 0 [.slice ea n ec, v1, v2]]) := by
 refine spec_mk (n := 10) Try.func66 rfl rfl rfl ?_
 intro Γ w0
 simp only [argE, List.cons_append, List.nil_append, Nat.zero_add, Nat.reduceAdd]
 refine c_seq ?_
 refine c_plain (.q 0 (.done)) (by kernel_rfl) ?_
 refine q_assign rfl rfl rfl rfl ?_
 refine r_done ?_
 refine k_then_n ?_
 refine c_seq ?_
 refine c_seq ?_
 refine c_plain (.q 0 (.q 1 (.done))) (by kernel_rfl) ?_
 refine q_move rfl rfl rfl rfl ?_
 refine q_eq_nil rfl rfl rfl rfl Try.underlying45 ?_
 refine s_eq 4 rfl (v' := .bool false) rfl ?_
 refine r_done ?_
 refine k_then_n ?_
 refine c_cond_f rfl ?_
 refine c_skip ?_
 refine k_then_n ?_
 refine c_seq ?_
 refine c_plain (.q 0 (.q 1 (.q 2 (.q 3 (.q 4 (.q 5 (.done))))))) (by kernel_rfl) ?_
 refine q_move rfl rfl rfl rfl ?_
 refine q_nil_p rfl rfl rfl rfl ?_
 refine q_field (k := 0) rfl rfl rfl rfl Try.underlying88 rfl Try.sizeOf26 rfl ?_
 refine q_load_c (j := 0) rfl rfl rfl rfl Try.isAgg26 Tk (by first | rfl | exact (Nat.add_zero _).symm) (by rfl) ?_
 refine q_len rfl rfl rfl rfl Try.underlying26 ?_
 refine q_assign rfl rfl rfl rfl ?_
 refine r_done ?_
 refine s_keep [2] (e' := [(2, _)]) rfl ?_
 refine k_then_n ?_
 refine c_ret ?_
 refine ret1 rfl rfl (()) (by first | rfl | (first | rfl | (congr 1; done) | (congr 1 <;> first | rfl | omega | (simp; done) | (simp; omega)))) (by trivial) ?_
 exact Tf
theorem ois_spec (b n ec : Nat) (ea : Option Addr) (v1 v2 : Value) (z : Int) : Spec Try.prog 44 [.pointer (some ⟨b, 0, none⟩), .int .i64 z] [cells b 0 [.slice ea n ec, v1, v2]] (fun (_ : Unit) => .bool (decide (0 ≤ z ∧ z < (n : Int)))) (fun _ => True) (fun _ => [cells b 0 [.slice ea n ec, v1, v2]]) := by
 refine spec_mk (n := 13) Try.func44 rfl rfl rfl ?_
 intro Γ w0
 simp only [argE, List.cons_append, List.nil_append, Nat.zero_add, Nat.reduceAdd]
 refine c_seq ?_
 refine c_plain (.q 0 (.done)) (by kernel_rfl) ?_
 refine q_assign rfl rfl rfl rfl ?_
 refine r_done ?_
 refine k_then_n ?_
 refine c_seq ?_
 refine c_plain (.q 0 (.q 1 (.q 2 (.q 3 (.q 4 ((.l 5 [] (.q 6 (.q 7 (.q 8 (.done))))))))))) (by kernel_rfl) ?_
 refine q_move rfl rfl rfl rfl ?_
 refine q_int rfl rfl rfl rfl rfl (b_geq _ _ _ _) ?_
 refine q_move rfl rfl rfl rfl ?_
 refine s_bool_p 7 rfl (fun hz => ?_) (fun hz => ?_)
 ·
  refine q_move rfl rfl rfl rfl ?_
  refine q_move rfl rfl rfl rfl ?_
  have sp_1 := olen_spec b n ec ea v1 v2
  refine l_call rfl rfl rfl rfl rfl rfl Try.call66 (sp_1) Ts ?_
  rintro ⟨⟩ -
  try simp only [List.cons_append, List.nil_append]
  refine ag_nil ?_
  refine q_int rfl rfl rfl rfl rfl (b_lss _ _ _ _) ?_
  refine q_pick_t rfl rfl rfl rfl rfl ?_
  refine q_assign rfl rfl rfl rfl ?_
  refine r_done ?_
  refine s_keep [4] (e' := [(4, _)]) rfl ?_
  refine k_then_n ?_
  refine c_ret ?_
  refine ret1 rfl rfl (()) (by congr 1; first | (rw [decide_eq_decide]; omega) | (symm; rw [decide_eq_false_iff_not]; omega)) (by trivial) ?_
  exact Tf
 ·
  refine q_skip rfl rfl rfl rfl ?_
  refine q_skip rfl rfl rfl rfl ?_
  refine l_skip rfl rfl rfl rfl ?_
  refine q_skip rfl rfl rfl rfl ?_
  refine q_pick_f rfl rfl rfl rfl rfl ?_
  refine q_assign rfl rfl rfl rfl ?_
  refine r_done ?_
  refine s_keep [4] (e' := [(4, _)]) rfl ?_
  refine k_then_n ?_
  refine c_ret ?_
  refine ret1 rfl rfl (()) (by congr 1; first | (rw [decide_eq_decide]; omega) | (symm; rw [decide_eq_false_iff_not]; omega)) (by trivial) ?_
  exact Tf
theorem owhy_spec (b n ec rc : Nat) (ea ra : Option Addr) (v2 : Value) (es : List T3) (rs : List Int) (hn : es.length = n) (hr : rs.length = n) (hb : n ≤ 4000000) (i j : Nat) (hij : i < j) (hj : j < n) (x y : T3) (p q : Int) (hx : es[i]? = some x) (hy : es[j]? = some y) (hp : rs[i]? = some p) (hq : rs[j]? = some q) : Spec Try.prog 65 [.pointer (some ⟨b, 0, none⟩), .int .i64 ((i : Nat) : Int), .int .i64 ((j : Nat) : Int)] [cells b 0 [.slice ea n ec, .slice ra n rc, v2], own 3 enc3 ea ec es, own 1 encZ ra rc rs] (fun (_ : Unit) => .int .i64 (whyC x y p q)) (fun _ => True) (fun _ => [cells b 0 [.slice ea n ec, .slice ra n rc, v2], own 3 enc3 ea ec es, own 1 encZ ra rc rs]) := by
 refine spec_mk (n := 131) Try.func65 rfl rfl rfl ?_
 intro Γ w0
 simp only [argE, List.cons_append, List.nil_append, Nat.zero_add, Nat.reduceAdd]
 refine c_seq ?_
 refine c_plain (.q 0 (.done)) (by kernel_rfl) ?_
 refine q_assign rfl rfl rfl rfl ?_
 refine r_done ?_
 refine k_then_n ?_
 refine c_seq ?_
 refine c_seq ?_
 refine c_plain (.q 0 (.q 1 ((.l 2 [] (.q 3 (.q 4 (.q 5 (.q 6 ((.l 7 [] (.q 8 (.q 9 (.q 10 (.q 11 (.q 12 (.q 13 (.q 14 (.done)))))))))))))))))) (by kernel_rfl) ?_
 refine q_move rfl rfl rfl rfl ?_
 refine q_move rfl rfl rfl rfl ?_
 have sp_1 := ois_spec b n ec ea (.slice ra n rc) v2 ((i : Nat) : Int)
 refine l_call rfl rfl rfl rfl rfl rfl Try.call44 (sp_1) Ts ?_
 rintro ⟨⟩ -
 try simp only [List.cons_append, List.nil_append]
 refine ag_nil ?_
 refine q_not rfl rfl rfl rfl ?_
 refine q_move rfl rfl rfl rfl ?_
 refine s_bool_np 13 rfl (fun hg => by exfalso; omega) (fun hg => ?_)
 refine q_move rfl rfl rfl rfl ?_
 refine q_move rfl rfl rfl rfl ?_
 have sp_2 := ois_spec b n ec ea (.slice ra n rc) v2 ((j : Nat) : Int)
 refine l_call rfl rfl rfl rfl rfl rfl Try.call44 (sp_2) Ts ?_
 rintro ⟨⟩ -
 try simp only [List.cons_append, List.nil_append]
 refine ag_nil ?_
 refine q_not rfl rfl rfl rfl ?_
 refine q_pick_f rfl rfl rfl rfl rfl ?_
 refine q_move rfl rfl rfl rfl ?_
 refine s_bool_np 19 rfl (fun hg => by exfalso; omega) (fun hg => ?_)
 refine q_move rfl rfl rfl rfl ?_
 refine q_move rfl rfl rfl rfl ?_
 refine q_int rfl rfl rfl rfl rfl (b_geq _ _ _ _) ?_
 refine q_pick_f rfl rfl rfl rfl rfl ?_
 refine r_done ?_
 refine s_keep [0, 1, 2, 23] (e' := [(0, _), (1, _), (2, _), (23, _)]) rfl ?_
 refine k_then_n ?_
 refine c_cond_p rfl (fun hg => by exfalso; omega) (fun hg => ?_)
 refine c_skip ?_
 refine k_then_n ?_
 refine c_seq ?_
 refine c_plain (.q 0 (.q 1 (.q 2 (.q 3 (.q 4 (.q 5 (.q 6 ((.l 7 [] ((.l 8 [] (.done)))))))))))) (by kernel_rfl) ?_
 refine q_move rfl rfl rfl rfl ?_
 refine q_nil_p rfl rfl rfl rfl ?_
 refine q_field (k := 0) rfl rfl rfl rfl Try.underlying88 rfl Try.sizeOf26 rfl ?_
 refine q_load_c (j := 0) rfl rfl rfl rfl Try.isAgg26 Tk (by first | rfl | exact (Nat.add_zero _).symm) (by rfl) ?_
 refine q_move rfl rfl rfl rfl ?_
 refine q_idxO (sz := 2) (k := i) (enc := enc3) (xs := es) rfl rfl rfl rfl rfl Try.underlying26 Try.sizeOf36 hx (by first | rfl | omega) (by omega) Tk ?_
 intro ib29 io29 ha29 hl29 hc29
 refine q_loadN_O (j := 0) (k' := i) (us := [_, _, _]) (enc := enc3) (off := io29) rfl rfl rfl rfl Try.isAgg36 Try.sizeOf36 ha29 enc3_len hx Tk (by first | rfl | exact (Nat.add_zero _).symm | omega) (by rfl) rfl ?_
 refine l_alloc rfl rfl rfl Try.zeroValue36 (zs := [.int .i64 0, .int .i64 0, .int .i64 0]) rfl ?_
 intro b7
 refine ag_nil ?_
 refine l_store (j := 0) rfl rfl rfl rfl Try.sizeOf36 (us := [_, _, _]) rfl rfl rfl Tk (by first | rfl | exact (Nat.add_zero _).symm) (by first | decide | (simp; done) | omega) ?_
 simp only [setL, List.set]
 refine ag_nil ?_
 refine r_done ?_
 refine s_keep [0, 1, 2, 7] (e' := [(0, _), (1, _), (2, _), (7, _)]) rfl ?_
 refine k_then_n ?_
 refine c_seq ?_
 refine c_plain (.q 0 (.q 1 (.q 2 (.q 3 (.q 4 (.q 5 (.q 6 ((.l 7 [] ((.l 8 [] (.done)))))))))))) (by kernel_rfl) ?_
 refine q_move rfl rfl rfl rfl ?_
 refine q_nil_p rfl rfl rfl rfl ?_
 refine q_field (k := 0) rfl rfl rfl rfl Try.underlying88 rfl Try.sizeOf26 rfl ?_
 refine q_load_c (j := 0) rfl rfl rfl rfl Try.isAgg26 Tk (by first | rfl | exact (Nat.add_zero _).symm) (by rfl) ?_
 refine q_move rfl rfl rfl rfl ?_
 refine q_idxO (sz := 2) (k := j) (enc := enc3) (xs := es) rfl rfl rfl rfl rfl Try.underlying26 Try.sizeOf36 hy (by first | rfl | omega) (by omega) Tk ?_
 intro ib36 io36 ha36 hl36 hc36
 refine q_loadN_O (j := 0) (k' := j) (us := [_, _, _]) (enc := enc3) (off := io36) rfl rfl rfl rfl Try.isAgg36 Try.sizeOf36 ha36 enc3_len hy Tk (by first | rfl | exact (Nat.add_zero _).symm | omega) (by rfl) rfl ?_
 refine l_alloc rfl rfl rfl Try.zeroValue36 (zs := [.int .i64 0, .int .i64 0, .int .i64 0]) rfl ?_
 intro b8
 refine ag_nil ?_
 refine l_store (j := 0) rfl rfl rfl rfl Try.sizeOf36 (us := [_, _, _]) rfl rfl rfl Tk (by first | rfl | exact (Nat.add_zero _).symm) (by first | decide | (simp; done) | omega) ?_
 simp only [setL, List.set]
 refine ag_nil ?_
 refine r_done ?_
 refine s_keep [0, 1, 2, 7, 8] (e' := [(0, _), (1, _), (2, _), (7, _), (8, _)]) rfl ?_
 refine k_then_n ?_
 refine c_seq ?_
 refine c_block ?_
 refine c_seq ?_
 refine c_plain (.q 0 (.q 1 (.q 2 (.q 3 (.q 4 (.q 5 (.done))))))) (by kernel_rfl) ?_
 refine q_field (k := 1) rfl rfl rfl rfl Try.underlying36 rfl Try.sizeOf3 rfl ?_
 refine q_load_c (j := 1) rfl rfl rfl rfl Try.isAgg3 Tk (by first | rfl | exact (Nat.add_zero _).symm) (by rfl) ?_
 refine q_field (k := 1) rfl rfl rfl rfl Try.underlying36 rfl Try.sizeOf3 rfl ?_
 refine q_load_c (j := 1) rfl rfl rfl rfl Try.isAgg3 Tk (by first | rfl | exact (Nat.add_zero _).symm) (by rfl) ?_
 refine q_int rfl rfl rfl rfl rfl (b_eql _ _ _ _) ?_
 refine q_assign rfl rfl rfl rfl ?_
 refine r_done ?_
 refine s_keep [0, 1, 2, 7, 8, 38] (e' := [(0, _), (1, _), (2, _), (7, _), (8, _), (38, _)]) rfl ?_
 refine k_then_n ?_
 refine c_cond_p rfl (fun w1 => ?_) (fun w1 => ?_)
 ·
  refine c_seq ?_
  refine c_plain (.q 0 (.done)) (by kernel_rfl) ?_
  refine q_assign rfl rfl rfl rfl ?_
  refine r_done ?_
  refine s_keep [6] (e' := [(6, _)]) rfl ?_
  refine k_then_n ?_
  refine c_ret ?_
  refine k_blk_ret ?_
  refine k_then_ret ?_
  refine ret1 rfl rfl (()) (by unfold whyC; rw [if_pos w1]) (by trivial) ?_
  exact Tf
 ·
  refine c_seqJ (α := Unit) (fun (z_ : Unit) => True) (fun (z_ : Unit) => [(44, .bool (decide (x.1 = 6 ∧ y.1 = 5 ∧ x.2.2 = y.2.2)))]) (fun (z_ : Unit) => []) [0, 1, 2, 7, 8] (er := [(0, _), (1, _), (2, _), (7, _), (8, _)]) rfl [] Ts ?_ ?_
  ·
   refine c_plain (.q 0 (.q 1 (.q 2 (.q 3 (.q 4 (.q 5 (.q 6 (.q 7 (.q 8 (.q 9 (.q 10 (.q 11 (.q 12 (.q 13 (.q 14 (.q 15 (.done))))))))))))))))) (by kernel_rfl) ?_
   refine q_field (k := 0) rfl rfl rfl rfl Try.underlying36 rfl Try.sizeOf34 rfl ?_
   refine q_load_c (j := 0) rfl rfl rfl rfl Try.isAgg34 Tk (by first | rfl | exact (Nat.add_zero _).symm) (by rfl) ?_
   refine q_int rfl rfl rfl rfl rfl (b_eql _ _ _ _) ?_
   refine q_move rfl rfl rfl rfl ?_
   refine s_bool_p 48 rfl (fun g_3 => ?_) (fun g_3 => ?_)
   ·
    refine q_field (k := 0) rfl rfl rfl rfl Try.underlying36 rfl Try.sizeOf34 rfl ?_
    refine q_load_c (j := 0) rfl rfl rfl rfl Try.isAgg34 Tk (by first | rfl | exact (Nat.add_zero _).symm) (by rfl) ?_
    refine q_int rfl rfl rfl rfl rfl (b_eql _ _ _ _) ?_
    refine q_pick_t rfl rfl rfl rfl rfl ?_
    refine q_move rfl rfl rfl rfl ?_
    refine s_bool_p 53 rfl (fun g_4 => ?_) (fun g_4 => ?_)
    ·
     refine q_field (k := 2) rfl rfl rfl rfl Try.underlying36 rfl Try.sizeOf3 rfl ?_
     refine q_load_c (j := 2) rfl rfl rfl rfl Try.isAgg3 Tk (by first | rfl | exact (Nat.add_zero _).symm) (by rfl) ?_
     refine q_field (k := 2) rfl rfl rfl rfl Try.underlying36 rfl Try.sizeOf3 rfl ?_
     refine q_load_c (j := 2) rfl rfl rfl rfl Try.isAgg3 Tk (by first | rfl | exact (Nat.add_zero _).symm) (by rfl) ?_
     refine q_int rfl rfl rfl rfl rfl (b_eql _ _ _ _) ?_
     refine q_pick_t rfl rfl rfl rfl rfl ?_
     refine q_assign rfl rfl rfl rfl ?_
     refine r_done ?_
     refine s_keep [0, 1, 2, 7, 8, 44] (e' := [(0, _), (1, _), (2, _), (7, _), (8, _), (44, _)]) rfl ?_
     refine k_then_n ?_
     refine s_eq 44 rfl (v' := .bool (decide (x.1 = 6 ∧ y.1 = 5 ∧ x.2.2 = y.2.2))) (by congr 1; first | (symm; rw [decide_eq_false_iff_not]; omega) | (rw [decide_eq_decide]; omega)) ?_
     refine join_next (()) (by trivial) (by exact ⟨rfl, rfl, rfl, rfl, rfl, rfl, trivial⟩) (by (try simp only [List.cons_append, List.nil_append]); (repeat ((with_reducible apply Z2); focus (first | (with_reducible (repeat (first | exact Z0 | apply Z1)); done) | (repeat (first | exact Z0 | apply Z1))))); (repeat (first | exact Z3 | exact Takes.self | refine takes_drop2 ?_)))
    ·
     refine q_skip rfl rfl rfl rfl ?_
     refine q_skip rfl rfl rfl rfl ?_
     refine q_skip rfl rfl rfl rfl ?_
     refine q_skip rfl rfl rfl rfl ?_
     refine q_skip rfl rfl rfl rfl ?_
     refine q_pick_f rfl rfl rfl rfl rfl ?_
     refine q_assign rfl rfl rfl rfl ?_
     refine r_done ?_
     refine s_keep [0, 1, 2, 7, 8, 44] (e' := [(0, _), (1, _), (2, _), (7, _), (8, _), (44, _)]) rfl ?_
     refine k_then_n ?_
     refine s_eq 44 rfl (v' := .bool (decide (x.1 = 6 ∧ y.1 = 5 ∧ x.2.2 = y.2.2))) (by congr 1; first | (symm; rw [decide_eq_false_iff_not]; omega) | (rw [decide_eq_decide]; omega)) ?_
     refine join_next (()) (by trivial) (by exact ⟨rfl, rfl, rfl, rfl, rfl, rfl, trivial⟩) (by (try simp only [List.cons_append, List.nil_append]); (repeat ((with_reducible apply Z2); focus (first | (with_reducible (repeat (first | exact Z0 | apply Z1)); done) | (repeat (first | exact Z0 | apply Z1))))); (repeat (first | exact Z3 | exact Takes.self | refine takes_drop2 ?_)))
   ·
    refine q_skip rfl rfl rfl rfl ?_
    refine q_skip rfl rfl rfl rfl ?_
    refine q_skip rfl rfl rfl rfl ?_
    refine q_pick_f rfl rfl rfl rfl rfl ?_
    refine q_move rfl rfl rfl rfl ?_
    refine q_skip rfl rfl rfl rfl ?_
    refine q_skip rfl rfl rfl rfl ?_
    refine q_skip rfl rfl rfl rfl ?_
    refine q_skip rfl rfl rfl rfl ?_
    refine q_skip rfl rfl rfl rfl ?_
    refine q_pick_f rfl rfl rfl rfl rfl ?_
    refine q_assign rfl rfl rfl rfl ?_
    refine r_done ?_
    refine s_keep [0, 1, 2, 7, 8, 44] (e' := [(0, _), (1, _), (2, _), (7, _), (8, _), (44, _)]) rfl ?_
    refine k_then_n ?_
    refine s_eq 44 rfl (v' := .bool (decide (x.1 = 6 ∧ y.1 = 5 ∧ x.2.2 = y.2.2))) (by congr 1; first | (symm; rw [decide_eq_false_iff_not]; omega) | (rw [decide_eq_decide]; omega)) ?_
    refine join_next (()) (by trivial) (by exact ⟨rfl, rfl, rfl, rfl, rfl, rfl, trivial⟩) (by (try simp only [List.cons_append, List.nil_append]); (repeat ((with_reducible apply Z2); focus (first | (with_reducible (repeat (first | exact Z0 | apply Z1)); done) | (repeat (first | exact Z0 | apply Z1))))); (repeat (first | exact Z3 | exact Takes.self | refine takes_drop2 ?_)))
  ·
   rintro ⟨⟩ -
   try simp only [List.cons_append, List.nil_append]
   refine c_cond_p rfl (fun w2 => ?_) (fun w2 => ?_)
   ·
    refine c_seq ?_
    refine c_plain (.q 0 (.done)) (by kernel_rfl) ?_
    refine q_assign rfl rfl rfl rfl ?_
    refine r_done ?_
    refine s_keep [6] (e' := [(6, _)]) rfl ?_
    refine k_then_n ?_
    refine c_ret ?_
    refine k_blk_ret ?_
    refine k_then_ret ?_
    refine ret1 rfl rfl (()) (by unfold whyC; rw [if_neg w1, if_pos w2]) (by trivial) ?_
    exact Tf
   ·
    refine c_seqJ (α := Unit) (fun (z_ : Unit) => True) (fun (z_ : Unit) => [(60, .bool (decide (x.1 = 4 ∧ y.1 = 3 ∧ x.2.2 = y.2.2)))]) (fun (z_ : Unit) => []) [0, 1, 2, 7, 8] (er := [(0, _), (1, _), (2, _), (7, _), (8, _)]) rfl [] Ts ?_ ?_
    ·
     refine c_plain (.q 0 (.q 1 (.q 2 (.q 3 (.q 4 (.q 5 (.q 6 (.q 7 (.q 8 (.q 9 (.q 10 (.q 11 (.q 12 (.q 13 (.q 14 (.q 15 (.done))))))))))))))))) (by kernel_rfl) ?_
     refine q_field (k := 0) rfl rfl rfl rfl Try.underlying36 rfl Try.sizeOf34 rfl ?_
     refine q_load_c (j := 0) rfl rfl rfl rfl Try.isAgg34 Tk (by first | rfl | exact (Nat.add_zero _).symm) (by rfl) ?_
     refine q_int rfl rfl rfl rfl rfl (b_eql _ _ _ _) ?_
     refine q_move rfl rfl rfl rfl ?_
     refine s_bool_p 64 rfl (fun g_5 => ?_) (fun g_5 => ?_)
     ·
      refine q_field (k := 0) rfl rfl rfl rfl Try.underlying36 rfl Try.sizeOf34 rfl ?_
      refine q_load_c (j := 0) rfl rfl rfl rfl Try.isAgg34 Tk (by first | rfl | exact (Nat.add_zero _).symm) (by rfl) ?_
      refine q_int rfl rfl rfl rfl rfl (b_eql _ _ _ _) ?_
      refine q_pick_t rfl rfl rfl rfl rfl ?_
      refine q_move rfl rfl rfl rfl ?_
      refine s_bool_p 69 rfl (fun g_6 => ?_) (fun g_6 => ?_)
      ·
       refine q_field (k := 2) rfl rfl rfl rfl Try.underlying36 rfl Try.sizeOf3 rfl ?_
       refine q_load_c (j := 2) rfl rfl rfl rfl Try.isAgg3 Tk (by first | rfl | exact (Nat.add_zero _).symm) (by rfl) ?_
       refine q_field (k := 2) rfl rfl rfl rfl Try.underlying36 rfl Try.sizeOf3 rfl ?_
       refine q_load_c (j := 2) rfl rfl rfl rfl Try.isAgg3 Tk (by first | rfl | exact (Nat.add_zero _).symm) (by rfl) ?_
       refine q_int rfl rfl rfl rfl rfl (b_eql _ _ _ _) ?_
       refine q_pick_t rfl rfl rfl rfl rfl ?_
       refine q_assign rfl rfl rfl rfl ?_
       refine r_done ?_
       refine s_keep [0, 1, 2, 7, 8, 60] (e' := [(0, _), (1, _), (2, _), (7, _), (8, _), (60, _)]) rfl ?_
       refine k_then_n ?_
       refine s_eq 60 rfl (v' := .bool (decide (x.1 = 4 ∧ y.1 = 3 ∧ x.2.2 = y.2.2))) (by congr 1; first | (symm; rw [decide_eq_false_iff_not]; omega) | (rw [decide_eq_decide]; omega)) ?_
       refine join_next (()) (by trivial) (by exact ⟨rfl, rfl, rfl, rfl, rfl, rfl, trivial⟩) (by (try simp only [List.cons_append, List.nil_append]); (repeat ((with_reducible apply Z2); focus (first | (with_reducible (repeat (first | exact Z0 | apply Z1)); done) | (repeat (first | exact Z0 | apply Z1))))); (repeat (first | exact Z3 | exact Takes.self | refine takes_drop2 ?_)))
      ·
       refine q_skip rfl rfl rfl rfl ?_
       refine q_skip rfl rfl rfl rfl ?_
       refine q_skip rfl rfl rfl rfl ?_
       refine q_skip rfl rfl rfl rfl ?_
       refine q_skip rfl rfl rfl rfl ?_
       refine q_pick_f rfl rfl rfl rfl rfl ?_
       refine q_assign rfl rfl rfl rfl ?_
       refine r_done ?_
       refine s_keep [0, 1, 2, 7, 8, 60] (e' := [(0, _), (1, _), (2, _), (7, _), (8, _), (60, _)]) rfl ?_
       refine k_then_n ?_
       refine s_eq 60 rfl (v' := .bool (decide (x.1 = 4 ∧ y.1 = 3 ∧ x.2.2 = y.2.2))) (by congr 1; first | (symm; rw [decide_eq_false_iff_not]; omega) | (rw [decide_eq_decide]; omega)) ?_
       refine join_next (()) (by trivial) (by exact ⟨rfl, rfl, rfl, rfl, rfl, rfl, trivial⟩) (by (try simp only [List.cons_append, List.nil_append]); (repeat ((with_reducible apply Z2); focus (first | (with_reducible (repeat (first | exact Z0 | apply Z1)); done) | (repeat (first | exact Z0 | apply Z1))))); (repeat (first | exact Z3 | exact Takes.self | refine takes_drop2 ?_)))
     ·
      refine q_skip rfl rfl rfl rfl ?_
      refine q_skip rfl rfl rfl rfl ?_
      refine q_skip rfl rfl rfl rfl ?_
      refine q_pick_f rfl rfl rfl rfl rfl ?_
      refine q_move rfl rfl rfl rfl ?_
      refine q_skip rfl rfl rfl rfl ?_
      refine q_skip rfl rfl rfl rfl ?_
      refine q_skip rfl rfl rfl rfl ?_
      refine q_skip rfl rfl rfl rfl ?_
      refine q_skip rfl rfl rfl rfl ?_
      refine q_pick_f rfl rfl rfl rfl rfl ?_
      refine q_assign rfl rfl rfl rfl ?_
      refine r_done ?_
      refine s_keep [0, 1, 2, 7, 8, 60] (e' := [(0, _), (1, _), (2, _), (7, _), (8, _), (60, _)]) rfl ?_
      refine k_then_n ?_
      refine s_eq 60 rfl (v' := .bool (decide (x.1 = 4 ∧ y.1 = 3 ∧ x.2.2 = y.2.2))) (by congr 1; first | (symm; rw [decide_eq_false_iff_not]; omega) | (rw [decide_eq_decide]; omega)) ?_
      refine join_next (()) (by trivial) (by exact ⟨rfl, rfl, rfl, rfl, rfl, rfl, trivial⟩) (by (try simp only [List.cons_append, List.nil_append]); (repeat ((with_reducible apply Z2); focus (first | (with_reducible (repeat (first | exact Z0 | apply Z1)); done) | (repeat (first | exact Z0 | apply Z1))))); (repeat (first | exact Z3 | exact Takes.self | refine takes_drop2 ?_)))
    ·
     rintro ⟨⟩ -
     try simp only [List.cons_append, List.nil_append]
     refine c_cond_p rfl (fun w3 => ?_) (fun w3 => ?_)
     ·
      refine c_seq ?_
      refine c_plain (.q 0 (.done)) (by kernel_rfl) ?_
      refine q_assign rfl rfl rfl rfl ?_
      refine r_done ?_
      refine s_keep [6] (e' := [(6, _)]) rfl ?_
      refine k_then_n ?_
      refine c_ret ?_
      refine k_blk_ret ?_
      refine k_then_ret ?_
      refine ret1 rfl rfl (()) (by unfold whyC; rw [if_neg w1, if_neg w2, if_pos w3]) (by trivial) ?_
      exact Tf
     ·
      refine c_seqJ (α := Unit) (fun (z_ : Unit) => True) (fun (z_ : Unit) => [(76, .bool (decide (x.1 = 7 ∧ x.2.2 = y.2.1)))]) (fun (z_ : Unit) => []) [0, 1, 2, 7, 8] (er := [(0, _), (1, _), (2, _), (7, _), (8, _)]) rfl [] Ts ?_ ?_
      ·
       refine c_plain (.q 0 (.q 1 (.q 2 (.q 3 (.q 4 (.q 5 (.q 6 (.q 7 (.q 8 (.q 9 (.q 10 (.done)))))))))))) (by kernel_rfl) ?_
       refine q_field (k := 0) rfl rfl rfl rfl Try.underlying36 rfl Try.sizeOf34 rfl ?_
       refine q_load_c (j := 0) rfl rfl rfl rfl Try.isAgg34 Tk (by first | rfl | exact (Nat.add_zero _).symm) (by rfl) ?_
       refine q_int rfl rfl rfl rfl rfl (b_eql _ _ _ _) ?_
       refine q_move rfl rfl rfl rfl ?_
       refine s_bool_p 80 rfl (fun g_7 => ?_) (fun g_7 => ?_)
       ·
        refine q_field (k := 2) rfl rfl rfl rfl Try.underlying36 rfl Try.sizeOf3 rfl ?_
        refine q_load_c (j := 2) rfl rfl rfl rfl Try.isAgg3 Tk (by first | rfl | exact (Nat.add_zero _).symm) (by rfl) ?_
        refine q_field (k := 1) rfl rfl rfl rfl Try.underlying36 rfl Try.sizeOf3 rfl ?_
        refine q_load_c (j := 1) rfl rfl rfl rfl Try.isAgg3 Tk (by first | rfl | exact (Nat.add_zero _).symm) (by rfl) ?_
        refine q_int rfl rfl rfl rfl rfl (b_eql _ _ _ _) ?_
        refine q_pick_t rfl rfl rfl rfl rfl ?_
        refine q_assign rfl rfl rfl rfl ?_
        refine r_done ?_
        refine s_keep [0, 1, 2, 7, 8, 76] (e' := [(0, _), (1, _), (2, _), (7, _), (8, _), (76, _)]) rfl ?_
        refine k_then_n ?_
        refine s_eq 76 rfl (v' := .bool (decide (x.1 = 7 ∧ x.2.2 = y.2.1))) (by congr 1; first | (symm; rw [decide_eq_false_iff_not]; omega) | (rw [decide_eq_decide]; omega)) ?_
        refine join_next (()) (by trivial) (by exact ⟨rfl, rfl, rfl, rfl, rfl, rfl, trivial⟩) (by (try simp only [List.cons_append, List.nil_append]); (repeat ((with_reducible apply Z2); focus (first | (with_reducible (repeat (first | exact Z0 | apply Z1)); done) | (repeat (first | exact Z0 | apply Z1))))); (repeat (first | exact Z3 | exact Takes.self | refine takes_drop2 ?_)))
       ·
        refine q_skip rfl rfl rfl rfl ?_
        refine q_skip rfl rfl rfl rfl ?_
        refine q_skip rfl rfl rfl rfl ?_
        refine q_skip rfl rfl rfl rfl ?_
        refine q_skip rfl rfl rfl rfl ?_
        refine q_pick_f rfl rfl rfl rfl rfl ?_
        refine q_assign rfl rfl rfl rfl ?_
        refine r_done ?_
        refine s_keep [0, 1, 2, 7, 8, 76] (e' := [(0, _), (1, _), (2, _), (7, _), (8, _), (76, _)]) rfl ?_
        refine k_then_n ?_
        refine s_eq 76 rfl (v' := .bool (decide (x.1 = 7 ∧ x.2.2 = y.2.1))) (by congr 1; first | (symm; rw [decide_eq_false_iff_not]; omega) | (rw [decide_eq_decide]; omega)) ?_
        refine join_next (()) (by trivial) (by exact ⟨rfl, rfl, rfl, rfl, rfl, rfl, trivial⟩) (by (try simp only [List.cons_append, List.nil_append]); (repeat ((with_reducible apply Z2); focus (first | (with_reducible (repeat (first | exact Z0 | apply Z1)); done) | (repeat (first | exact Z0 | apply Z1))))); (repeat (first | exact Z3 | exact Takes.self | refine takes_drop2 ?_)))
      ·
       rintro ⟨⟩ -
       try simp only [List.cons_append, List.nil_append]
       refine c_cond_p rfl (fun w4 => ?_) (fun w4 => ?_)
       ·
        refine c_seq ?_
        refine c_plain (.q 0 (.done)) (by kernel_rfl) ?_
        refine q_assign rfl rfl rfl rfl ?_
        refine r_done ?_
        refine s_keep [6] (e' := [(6, _)]) rfl ?_
        refine k_then_n ?_
        refine c_ret ?_
        refine k_blk_ret ?_
        refine k_then_ret ?_
        refine ret1 rfl rfl (()) (by unfold whyC; rw [if_neg w1, if_neg w2, if_neg w3, if_pos w4]) (by trivial) ?_
        exact Tf
       ·
        refine c_seqJ (α := Unit) (fun (z_ : Unit) => True) (fun (z_ : Unit) => [(87, .bool (decide (y.1 = 8 ∧ y.2.2 = x.2.1)))]) (fun (z_ : Unit) => []) [0, 1, 2, 7, 8] (er := [(0, _), (1, _), (2, _), (7, _), (8, _)]) rfl [] Ts ?_ ?_
        ·
         refine c_plain (.q 0 (.q 1 (.q 2 (.q 3 (.q 4 (.q 5 (.q 6 (.q 7 (.q 8 (.q 9 (.q 10 (.done)))))))))))) (by kernel_rfl) ?_
         refine q_field (k := 0) rfl rfl rfl rfl Try.underlying36 rfl Try.sizeOf34 rfl ?_
         refine q_load_c (j := 0) rfl rfl rfl rfl Try.isAgg34 Tk (by first | rfl | exact (Nat.add_zero _).symm) (by rfl) ?_
         refine q_int rfl rfl rfl rfl rfl (b_eql _ _ _ _) ?_
         refine q_move rfl rfl rfl rfl ?_
         refine s_bool_p 91 rfl (fun g_8 => ?_) (fun g_8 => ?_)
         ·
          refine q_field (k := 2) rfl rfl rfl rfl Try.underlying36 rfl Try.sizeOf3 rfl ?_
          refine q_load_c (j := 2) rfl rfl rfl rfl Try.isAgg3 Tk (by first | rfl | exact (Nat.add_zero _).symm) (by rfl) ?_
          refine q_field (k := 1) rfl rfl rfl rfl Try.underlying36 rfl Try.sizeOf3 rfl ?_
          refine q_load_c (j := 1) rfl rfl rfl rfl Try.isAgg3 Tk (by first | rfl | exact (Nat.add_zero _).symm) (by rfl) ?_
          refine q_int rfl rfl rfl rfl rfl (b_eql _ _ _ _) ?_
          refine q_pick_t rfl rfl rfl rfl rfl ?_
          refine q_assign rfl rfl rfl rfl ?_
          refine r_done ?_
          refine s_keep [0, 1, 2, 7, 8, 87] (e' := [(0, _), (1, _), (2, _), (7, _), (8, _), (87, _)]) rfl ?_
          refine k_then_n ?_
          refine s_eq 87 rfl (v' := .bool (decide (y.1 = 8 ∧ y.2.2 = x.2.1))) (by congr 1; first | (symm; rw [decide_eq_false_iff_not]; omega) | (rw [decide_eq_decide]; omega)) ?_
          refine join_next (()) (by trivial) (by exact ⟨rfl, rfl, rfl, rfl, rfl, rfl, trivial⟩) (by (try simp only [List.cons_append, List.nil_append]); (repeat ((with_reducible apply Z2); focus (first | (with_reducible (repeat (first | exact Z0 | apply Z1)); done) | (repeat (first | exact Z0 | apply Z1))))); (repeat (first | exact Z3 | exact Takes.self | refine takes_drop2 ?_)))
         ·
          refine q_skip rfl rfl rfl rfl ?_
          refine q_skip rfl rfl rfl rfl ?_
          refine q_skip rfl rfl rfl rfl ?_
          refine q_skip rfl rfl rfl rfl ?_
          refine q_skip rfl rfl rfl rfl ?_
          refine q_pick_f rfl rfl rfl rfl rfl ?_
          refine q_assign rfl rfl rfl rfl ?_
          refine r_done ?_
          refine s_keep [0, 1, 2, 7, 8, 87] (e' := [(0, _), (1, _), (2, _), (7, _), (8, _), (87, _)]) rfl ?_
          refine k_then_n ?_
          refine s_eq 87 rfl (v' := .bool (decide (y.1 = 8 ∧ y.2.2 = x.2.1))) (by congr 1; first | (symm; rw [decide_eq_false_iff_not]; omega) | (rw [decide_eq_decide]; omega)) ?_
          refine join_next (()) (by trivial) (by exact ⟨rfl, rfl, rfl, rfl, rfl, rfl, trivial⟩) (by (try simp only [List.cons_append, List.nil_append]); (repeat ((with_reducible apply Z2); focus (first | (with_reducible (repeat (first | exact Z0 | apply Z1)); done) | (repeat (first | exact Z0 | apply Z1))))); (repeat (first | exact Z3 | exact Takes.self | refine takes_drop2 ?_)))
        ·
         rintro ⟨⟩ -
         try simp only [List.cons_append, List.nil_append]
         refine c_cond_p rfl (fun w5 => ?_) (fun w5 => ?_)
         ·
          refine c_seq ?_
          refine c_plain (.q 0 (.done)) (by kernel_rfl) ?_
          refine q_assign rfl rfl rfl rfl ?_
          refine r_done ?_
          refine s_keep [6] (e' := [(6, _)]) rfl ?_
          refine k_then_n ?_
          refine c_ret ?_
          refine k_blk_ret ?_
          refine k_then_ret ?_
          refine ret1 rfl rfl (()) (by unfold whyC; rw [if_neg w1, if_neg w2, if_neg w3, if_neg w4, if_pos w5]) (by trivial) ?_
          exact Tf
         ·
          refine c_seqJ (α := Unit) (fun (z_ : Unit) => True) (fun (z_ : Unit) => [(98, .bool (decide (x.1 = 9 ∧ y.1 = 10 ∧ x.2.2 = y.2.2 ∧ p = q)))]) (fun (z_ : Unit) => []) [] (er := []) rfl [] Ts ?_ ?_
          ·
           refine c_draw rfl (.q 0 (.q 1 (.q 2 (.q 3 (.q 4 (.q 5 (.q 6 (.q 7 (.q 8 (.q 9 (.q 10 (.q 11 (.q 12 (.q 13 (.q 14 (.q 15 (.q 16 (.q 17 (.q 18 (.q 19 (.q 20 (.q 21 (.q 22 (.q 23 (.q 24 (.q 25 (.q 26 (.q 27 (.q 28 (.q 29 (.q 30 (.q 31 (.q 32 (.done)))))))))))))))))))))))))))))))))) (by kernel_rfl) ?_
           refine q_field (k := 0) rfl rfl rfl rfl Try.underlying36 rfl Try.sizeOf34 rfl ?_
           refine q_load_c (j := 0) rfl rfl rfl rfl Try.isAgg34 Tk (by first | rfl | exact (Nat.add_zero _).symm) (by rfl) ?_
           refine q_int rfl rfl rfl rfl rfl (b_eql _ _ _ _) ?_
           refine q_move rfl rfl rfl rfl ?_
           refine s_bool_p 102 rfl (fun g_9 => ?_) (fun g_9 => ?_)
           ·
            refine q_field (k := 0) rfl rfl rfl rfl Try.underlying36 rfl Try.sizeOf34 rfl ?_
            refine q_load_c (j := 0) rfl rfl rfl rfl Try.isAgg34 Tk (by first | rfl | exact (Nat.add_zero _).symm) (by rfl) ?_
            refine q_int rfl rfl rfl rfl rfl (b_eql _ _ _ _) ?_
            refine q_pick_t rfl rfl rfl rfl rfl ?_
            refine q_move rfl rfl rfl rfl ?_
            refine s_bool_p 107 rfl (fun g_10 => ?_) (fun g_10 => ?_)
            ·
             refine q_field (k := 2) rfl rfl rfl rfl Try.underlying36 rfl Try.sizeOf3 rfl ?_
             refine q_load_c (j := 2) rfl rfl rfl rfl Try.isAgg3 Tk (by first | rfl | exact (Nat.add_zero _).symm) (by rfl) ?_
             refine q_field (k := 2) rfl rfl rfl rfl Try.underlying36 rfl Try.sizeOf3 rfl ?_
             refine q_load_c (j := 2) rfl rfl rfl rfl Try.isAgg3 Tk (by first | rfl | exact (Nat.add_zero _).symm) (by rfl) ?_
             refine q_int rfl rfl rfl rfl rfl (b_eql _ _ _ _) ?_
             refine q_pick_t rfl rfl rfl rfl rfl ?_
             refine q_move rfl rfl rfl rfl ?_
             refine s_bool_p 114 rfl (fun g_11 => ?_) (fun g_11 => ?_)
             ·
              refine q_move rfl rfl rfl rfl ?_
              refine q_nil_p rfl rfl rfl rfl ?_
              refine q_field (k := 1) rfl rfl rfl rfl Try.underlying88 rfl Try.sizeOf23 rfl ?_
              refine q_load_c (j := 1) rfl rfl rfl rfl Try.isAgg23 Tk (by first | rfl | exact (Nat.add_zero _).symm) (by rfl) ?_
              refine q_move rfl rfl rfl rfl ?_
              refine q_idxO (sz := 0) (k := i) (enc := encZ) (xs := rs) rfl rfl rfl rfl rfl Try.underlying23 Try.sizeOf3 hp (by first | rfl | omega) (by omega) Tk ?_
              intro ib120 io120 ha120 hl120 hc120
              refine q_load_O (v := (.int .i64 p)) (j := 0) (k' := i) (enc := encZ) (off := io120) rfl rfl rfl rfl Try.isAgg3 ha120 encZ_len hp Tk (by first | rfl | exact (Nat.add_zero _).symm | omega) (by rfl) ?_
              refine q_move rfl rfl rfl rfl ?_
              refine q_nil_p rfl rfl rfl rfl ?_
              refine q_field (k := 1) rfl rfl rfl rfl Try.underlying88 rfl Try.sizeOf23 rfl ?_
              refine q_load_c (j := 1) rfl rfl rfl rfl Try.isAgg23 Tk (by first | rfl | exact (Nat.add_zero _).symm) (by rfl) ?_
              refine q_move rfl rfl rfl rfl ?_
              refine q_idxO (sz := 0) (k := j) (enc := encZ) (xs := rs) rfl rfl rfl rfl rfl Try.underlying23 Try.sizeOf3 hq (by first | rfl | omega) (by omega) Tk ?_
              intro ib127 io127 ha127 hl127 hc127
              refine q_load_O (v := (.int .i64 q)) (j := 0) (k' := j) (enc := encZ) (off := io127) rfl rfl rfl rfl Try.isAgg3 ha127 encZ_len hq Tk (by first | rfl | exact (Nat.add_zero _).symm | omega) (by rfl) ?_
              refine q_int rfl rfl rfl rfl rfl (b_eql _ _ _ _) ?_
              refine q_pick_t rfl rfl rfl rfl rfl ?_
              refine q_assign rfl rfl rfl rfl ?_
              refine r_done ?_
              refine s_keep [98] (e' := [(98, _)]) rfl ?_
              refine k_then_n ?_
              refine s_eq 98 rfl (v' := .bool (decide (x.1 = 9 ∧ y.1 = 10 ∧ x.2.2 = y.2.2 ∧ p = q))) (by congr 1; first | (symm; rw [decide_eq_false_iff_not]; omega) | (rw [decide_eq_decide]; omega)) ?_
              refine join_next (()) (by trivial) (by exact ⟨rfl, trivial⟩) (by (try simp only [List.cons_append, List.nil_append]); (repeat ((with_reducible apply Z2); focus (first | (with_reducible (repeat (first | exact Z0 | apply Z1)); done) | (repeat (first | exact Z0 | apply Z1))))); (repeat (first | exact Z3 | exact Takes.self | refine takes_drop2 ?_)))
             ·
              refine q_skip rfl rfl rfl rfl ?_
              refine q_skip rfl rfl rfl rfl ?_
              refine q_skip rfl rfl rfl rfl ?_
              refine q_skip rfl rfl rfl rfl ?_
              refine q_skip rfl rfl rfl rfl ?_
              refine q_skip rfl rfl rfl rfl ?_
              refine q_skip rfl rfl rfl rfl ?_
              refine q_skip rfl rfl rfl rfl ?_
              refine q_skip rfl rfl rfl rfl ?_
              refine q_skip rfl rfl rfl rfl ?_
              refine q_skip rfl rfl rfl rfl ?_
              refine q_skip rfl rfl rfl rfl ?_
              refine q_skip rfl rfl rfl rfl ?_
              refine q_skip rfl rfl rfl rfl ?_
              refine q_skip rfl rfl rfl rfl ?_
              refine q_pick_f rfl rfl rfl rfl rfl ?_
              refine q_assign rfl rfl rfl rfl ?_
              refine r_done ?_
              refine s_keep [98] (e' := [(98, _)]) rfl ?_
              refine k_then_n ?_
              refine s_eq 98 rfl (v' := .bool (decide (x.1 = 9 ∧ y.1 = 10 ∧ x.2.2 = y.2.2 ∧ p = q))) (by congr 1; first | (symm; rw [decide_eq_false_iff_not]; omega) | (rw [decide_eq_decide]; omega)) ?_
              refine join_next (()) (by trivial) (by exact ⟨rfl, trivial⟩) (by (try simp only [List.cons_append, List.nil_append]); (repeat ((with_reducible apply Z2); focus (first | (with_reducible (repeat (first | exact Z0 | apply Z1)); done) | (repeat (first | exact Z0 | apply Z1))))); (repeat (first | exact Z3 | exact Takes.self | refine takes_drop2 ?_)))
            ·
             refine q_skip rfl rfl rfl rfl ?_
             refine q_skip rfl rfl rfl rfl ?_
             refine q_skip rfl rfl rfl rfl ?_
             refine q_skip rfl rfl rfl rfl ?_
             refine q_skip rfl rfl rfl rfl ?_
             refine q_pick_f rfl rfl rfl rfl rfl ?_
             refine q_move rfl rfl rfl rfl ?_
             refine q_skip rfl rfl rfl rfl ?_
             refine q_skip rfl rfl rfl rfl ?_
             refine q_skip rfl rfl rfl rfl ?_
             refine q_skip rfl rfl rfl rfl ?_
             refine q_skip rfl rfl rfl rfl ?_
             refine q_skip rfl rfl rfl rfl ?_
             refine q_skip rfl rfl rfl rfl ?_
             refine q_skip rfl rfl rfl rfl ?_
             refine q_skip rfl rfl rfl rfl ?_
             refine q_skip rfl rfl rfl rfl ?_
             refine q_skip rfl rfl rfl rfl ?_
             refine q_skip rfl rfl rfl rfl ?_
             refine q_skip rfl rfl rfl rfl ?_
             refine q_skip rfl rfl rfl rfl ?_
             refine q_skip rfl rfl rfl rfl ?_
             refine q_pick_f rfl rfl rfl rfl rfl ?_
             refine q_assign rfl rfl rfl rfl ?_
             refine r_done ?_
             refine s_keep [98] (e' := [(98, _)]) rfl ?_
             refine k_then_n ?_
             refine s_eq 98 rfl (v' := .bool (decide (x.1 = 9 ∧ y.1 = 10 ∧ x.2.2 = y.2.2 ∧ p = q))) (by congr 1; first | (symm; rw [decide_eq_false_iff_not]; omega) | (rw [decide_eq_decide]; omega)) ?_
             refine join_next (()) (by trivial) (by exact ⟨rfl, trivial⟩) (by (try simp only [List.cons_append, List.nil_append]); (repeat ((with_reducible apply Z2); focus (first | (with_reducible (repeat (first | exact Z0 | apply Z1)); done) | (repeat (first | exact Z0 | apply Z1))))); (repeat (first | exact Z3 | exact Takes.self | refine takes_drop2 ?_)))
           ·
            refine q_skip rfl rfl rfl rfl ?_
            refine q_skip rfl rfl rfl rfl ?_
            refine q_skip rfl rfl rfl rfl ?_
            refine q_pick_f rfl rfl rfl rfl rfl ?_
            refine q_move rfl rfl rfl rfl ?_
            refine q_skip rfl rfl rfl rfl ?_
            refine q_skip rfl rfl rfl rfl ?_
            refine q_skip rfl rfl rfl rfl ?_
            refine q_skip rfl rfl rfl rfl ?_
            refine q_skip rfl rfl rfl rfl ?_
            refine q_pick_f rfl rfl rfl rfl rfl ?_
            refine q_move rfl rfl rfl rfl ?_
            refine q_skip rfl rfl rfl rfl ?_
            refine q_skip rfl rfl rfl rfl ?_
            refine q_skip rfl rfl rfl rfl ?_
            refine q_skip rfl rfl rfl rfl ?_
            refine q_skip rfl rfl rfl rfl ?_
            refine q_skip rfl rfl rfl rfl ?_
            refine q_skip rfl rfl rfl rfl ?_
            refine q_skip rfl rfl rfl rfl ?_
            refine q_skip rfl rfl rfl rfl ?_
            refine q_skip rfl rfl rfl rfl ?_
            refine q_skip rfl rfl rfl rfl ?_
            refine q_skip rfl rfl rfl rfl ?_
            refine q_skip rfl rfl rfl rfl ?_
            refine q_skip rfl rfl rfl rfl ?_
            refine q_skip rfl rfl rfl rfl ?_
            refine q_pick_f rfl rfl rfl rfl rfl ?_
            refine q_assign rfl rfl rfl rfl ?_
            refine r_done ?_
            refine s_keep [98] (e' := [(98, _)]) rfl ?_
            refine k_then_n ?_
            refine s_eq 98 rfl (v' := .bool (decide (x.1 = 9 ∧ y.1 = 10 ∧ x.2.2 = y.2.2 ∧ p = q))) (by congr 1; first | (symm; rw [decide_eq_false_iff_not]; omega) | (rw [decide_eq_decide]; omega)) ?_
            refine join_next (()) (by trivial) (by exact ⟨rfl, trivial⟩) (by (try simp only [List.cons_append, List.nil_append]); (repeat ((with_reducible apply Z2); focus (first | (with_reducible (repeat (first | exact Z0 | apply Z1)); done) | (repeat (first | exact Z0 | apply Z1))))); (repeat (first | exact Z3 | exact Takes.self | refine takes_drop2 ?_)))
          ·
           rintro ⟨⟩ -
           try simp only [List.cons_append, List.nil_append]
           refine c_cond_p rfl (fun w6 => ?_) (fun w6 => ?_)
           ·
            refine c_seq ?_
            refine c_plain (.q 0 (.done)) (by kernel_rfl) ?_
            refine q_assign rfl rfl rfl rfl ?_
            refine r_done ?_
            refine k_then_n ?_
            refine c_ret ?_
            refine k_blk_ret ?_
            refine k_then_ret ?_
            refine ret1 rfl rfl (()) (by unfold whyC; rw [if_neg w1, if_neg w2, if_neg w3, if_neg w4, if_neg w5, if_pos w6]) (by trivial) ?_
            exact Tf
           ·
            refine c_skip ?_
            refine k_blk_n ?_
            refine k_then_n ?_
            refine c_seq ?_
            refine c_plain (.q 0 (.done)) (by kernel_rfl) ?_
            refine q_assign rfl rfl rfl rfl ?_
            refine r_done ?_
            refine k_then_n ?_
            refine c_ret ?_
            refine ret1 rfl rfl (()) (by unfold whyC; rw [if_neg w1, if_neg w2, if_neg w3, if_neg w4, if_neg w5, if_neg w6]) (by trivial) ?_
            exact Tf
end Go.Ab.Ord
set_option linter.unusedVariables false
set_option linter.unusedSimpArgs false
set_option maxRecDepth 100000
namespace Go.Ab.Ord
open Go Go.Proofs Go.Ab Go.Ab.Fe
def rndT (x : CS) (e : T3) : Int := if e.1 = 9 then (opF x e.2.2).1 else if e.1 = 10 then (stF x e.2.1).2.2 else 0
/-- The round of event q. -/
def rnE (x : CS) (es : List T3) (q : Nat) : Int := rndT (sN x es q) (es.getD q (0, 0, 0))
def rnds (x : CS) (es : List T3) : List Int := mks (rnE x es) es.length
theorem rnE_at {x : CS} {es : List T3} {q : Nat} {e : T3} (h : es[q]? = some e) : rnE x es q = rndT (sN x es q) e := by rw [rnE, getD_some h]
theorem oclose_spec (b n ec rc : Nat) (ea ra : Option Addr) (es : List T3) (rs : List Int) (hn : es.length = n) (hr : rs.length = n) (hb : n ≤ 4000000) : Spec Try.prog 42 [.pointer (some ⟨b, 0, none⟩)] [cells b 0 [.slice ea n ec, .slice ra n rc, .slice none 0 0], own 3 enc3 ea ec es, own 1 encZ ra rc rs] (fun (_ : Unit) => .tuple #[]) (fun _ => True) (fun _ => [ordR b es rs]) := by
 refine spec_mk (n := 79) Try.func42 rfl rfl rfl ?_
 intro Γ w0
 simp only [argE, List.cons_append, List.nil_append, Nat.zero_add, Nat.reduceAdd]
 refine c_seq ?_
 refine c_plain (.q 0 (.q 1 (.q 2 (.q 3 (.q 4 (.q 5 (.done))))))) (by kernel_rfl) ?_
 refine q_move rfl rfl rfl rfl ?_
 refine q_nil_p rfl rfl rfl rfl ?_
 refine q_field (k := 0) rfl rfl rfl rfl Try.underlying88 rfl Try.sizeOf26 rfl ?_
 refine q_load_c (j := 0) rfl rfl rfl rfl Try.isAgg26 Tk (by first | rfl | exact (Nat.add_zero _).symm) (by rfl) ?_
 refine q_len rfl rfl rfl rfl Try.underlying26 ?_
 refine q_assign rfl rfl rfl rfl ?_
 refine r_done ?_
 refine s_keep [0, 2] (e' := [(0, _), (2, _)]) rfl ?_
 refine k_then_n ?_
 refine c_seq ?_
 refine c_plain (.q 0 (.q 1 ((.l 2 [] (.q 3 (.q 4 ((.l 5 [] (.done))))))))) (by kernel_rfl) ?_
 refine q_move rfl rfl rfl rfl ?_
 refine q_move rfl rfl rfl rfl ?_
 refine l_make (sz := 1) (enc := encH) (len := n) (cap := n) (((none, 0, []) : RowB)) rfl rfl rfl rfl rfl (by first | rfl | omega) (by first | rfl | omega) Try.underlying86 Try.typeInfo100 rfl rfl rfl (by decide) (by omega) (by omega) (by show 24 * _ ≤ _; omega) (by rfl) (encH_len) ?_
 intro b14
 refine ag_nil ?_
 refine q_nil_p rfl rfl rfl rfl ?_
 refine q_field (k := 2) rfl rfl rfl rfl Try.underlying88 rfl Try.sizeOf86 rfl ?_
 refine l_store (j := 2) rfl rfl rfl rfl Try.sizeOf86 (us := [_]) rfl rfl rfl Tk (by first | rfl | exact (Nat.add_zero _).symm) (by first | decide | (simp; done) | omega) ?_
 simp only [setL, List.set]
 refine ag_nil ?_
 refine r_done ?_
 refine s_big_rep (sz := 1) (enc := encB) n ?_
 refine s_keep [0, 2] (e' := [(0, _), (2, _)]) rfl ?_
 refine k_then_n ?_
 refine c_seq ?_
 refine c_plain (.q 0 (.q 1 (.q 2 (.done)))) (by kernel_rfl) ?_
 refine q_move rfl rfl rfl rfl ?_
 refine q_int rfl rfl rfl rfl rfl (b_sub' _ (by exact fits_i64 (by omega) (by omega))) ?_
 refine q_assign rfl rfl rfl rfl ?_
 refine r_done ?_
 refine k_then_n ?_
 refine c_block ?_
 refine c_loop2 (α := Nat × List RowB) (fun (x_ : Nat × List RowB) => match x_ with | (k, G) => k ≤ n ∧ G.length = n ∧ (∀ (q : Nat) (x : RowB), k ≤ q → G[q]? = some x → x.2.2 = mks (hbF es (rf rs) q) n)) (fun (x_ : Nat × List RowB) => match x_ with | (k, G) => [(3, .int .i64 (((k : Nat) : Int) - 1))]) (fun (x_ : Nat × List RowB) => match x_ with | (k, G) => [bigS (owA 1 encB) G, cells b 0 [.slice ea n ec, .slice ra n rc, .slice (some ⟨b14, 0, none⟩) n n], own 3 enc3 ea ec es, own 1 encZ ra rc rs, own 1 encH (some ⟨b14, 0, none⟩) n G]) (fun (x_ : Nat × List RowB) => match x_ with | (k, G) => k) [0, 2] (er := [(0, _), (2, _)]) rfl (n, List.replicate n ((none, 0, []) : RowB)) ?_ (by exact ⟨rfl, trivial⟩) (by (try dsimp only); (try simp only [Nat.add_zero, Nat.zero_add]); (repeat ((with_reducible apply Z2); focus (first | (with_reducible (repeat (first | exact Z0 | apply Z1)); done) | (repeat (first | exact Z0 | apply Z1))))); exact Z3) ?_
 · exact ⟨Nat.le_refl _, List.length_replicate, fun q x h1 h2 => by have := (List.getElem?_eq_some_iff.1 h2).1; simp at this; omega⟩
 rintro ⟨k, G⟩ ⟨hkn, hGl, hGq⟩
 try simp only [List.cons_append, List.nil_append]
 refine c_seq ?_
 refine c_seq ?_
 refine c_plain (.q 0 (.q 1 (.done))) (by kernel_rfl) ?_
 refine q_move rfl rfl rfl rfl ?_
 refine q_int rfl rfl rfl rfl rfl (b_geq _ _ _ _) ?_
 refine r_done ?_
 refine k_then_n ?_
 refine c_cond_p rfl (fun hk0 => ?_) (fun hk0 => ?_)
 ·
  obtain ⟨i, rfl⟩ : ∃ i, k = i + 1 := ⟨k - 1, by omega⟩
  refine s_eq 3 rfl (v' := .int .i64 ((i : Nat) : Int)) (by congr 1; omega) ?_
  obtain ⟨x, hx⟩ := get_lt (l := es) (i := i) (by omega)
  obtain ⟨p, hp⟩ := get_lt (l := rs) (i := i) (by omega)
  obtain ⟨g0, hg0⟩ := get_lt (l := G) (i := i) (by omega)
  refine c_skip ?_
  refine k_then_n ?_
  refine c_seq ?_
  refine c_block ?_
  refine c_seq ?_
  refine c_plain (.q 0 ((.l 1 [] (.q 2 (.done))))) (by kernel_rfl) ?_
  refine q_move rfl rfl rfl rfl ?_
  refine l_make (sz := 1) (enc := encB) (len := n) (cap := n) (false) rfl rfl rfl rfl rfl (by first | rfl | omega) (by first | rfl | omega) Try.underlying100 Try.typeInfo4 rfl rfl rfl (by decide) (by omega) (by omega) (by show 1 * _ ≤ _; omega) (by rfl) (encB_len) ?_
  intro b24
  refine ag_nil ?_
  refine q_assign rfl rfl rfl rfl ?_
  refine r_done ?_
  rw [rep_mks (f := rowF es (rf rs) i (i + 1)) (v := false) (n := n) (fun q _ => rowF_start)]
  refine s_keep [0, 2, 3, 4] (e' := [(0, _), (2, _), (3, _), (4, _)]) rfl ?_
  refine k_then_n ?_
  refine c_seq ?_
  refine c_seq ?_
  refine c_plain (.q 0 (.q 1 (.q 2 (.done)))) (by kernel_rfl) ?_
  refine q_move rfl rfl rfl rfl ?_
  refine q_int rfl rfl rfl rfl rfl (b_add' _ (by exact fits_i64 (by omega) (by omega))) ?_
  refine q_assign rfl rfl rfl rfl ?_
  refine r_done ?_
  refine k_then_n ?_
  refine c_block ?_
  refine c_loop2 (α := Nat) (fun (j : Nat) => i < j ∧ j ≤ n) (fun (j : Nat) => [(5, .int .i64 ((j : Nat) : Int))]) (fun (j : Nat) => [own 1 encB (some ⟨b24, 0, none⟩) n (mks (rowF es (rf rs) i j) n)]) (fun (j : Nat) => n - j) [0, 2, 3, 4] (er := [(0, _), (2, _), (3, _), (4, _)]) rfl (i + 1) ?_ (by exact ⟨rfl, trivial⟩) (by (try dsimp only); (try simp only [Nat.add_zero, Nat.zero_add]); (repeat ((with_reducible apply Z2); focus (first | (with_reducible (repeat (first | exact Z0 | apply Z1)); done) | (repeat (first | exact Z0 | apply Z1))))); exact Z3) ?_
  · exact ⟨Nat.lt_succ_self _, by omega⟩
  rintro j ⟨hij, hjn⟩
  try simp only [List.cons_append, List.nil_append]
  refine c_seq ?_
  refine c_seq ?_
  refine c_plain (.q 0 (.q 1 (.q 2 (.done)))) (by kernel_rfl) ?_
  refine q_move rfl rfl rfl rfl ?_
  refine q_move rfl rfl rfl rfl ?_
  refine q_int rfl rfl rfl rfl rfl (b_lss _ _ _ _) ?_
  refine r_done ?_
  refine k_then_n ?_
  refine c_cond_p rfl (fun hjlt => ?_) (fun hjlt => ?_)
  ·
   obtain ⟨y, hy⟩ := get_lt (l := es) (i := j) (by omega)
   obtain ⟨q, hq⟩ := get_lt (l := rs) (i := j) (by omega)
   have hE := edgeB_at (R := rf rs) hx hy hij
   rw [rf_at hp, rf_at hq] at hE
   refine c_skip ?_
   refine k_then_n ?_
   refine c_seq ?_
   refine c_block ?_
   refine c_seq ?_
   refine c_seq ?_
   refine c_plain (.q 0 (.q 1 (.q 2 (.q 3 (.q 4 (.q 5 (.q 6 (.q 7 ((.l 8 [] (.q 9 (.q 10 (.done))))))))))))) (by kernel_rfl) ?_
   refine q_move rfl rfl rfl rfl ?_
   refine q_move rfl rfl rfl rfl ?_
   have hk_1 : (mks (rowF es (rf rs) i j) n)[j]? = some (rowF es (rf rs) i j j) := (mks_get _ (by omega))
   refine q_idxO (sz := 0) (k := j) (enc := encB) (xs := mks (rowF es (rf rs) i j) n) rfl rfl rfl rfl rfl Try.underlying100 Try.sizeOf4 hk_1 (by first | rfl | omega) (by omega) Tk ?_
   intro ib34 io34 ha34 hl34 hc34
   refine q_load_O (v := (.bool (rowF es (rf rs) i j j))) (j := 0) (k' := j) (enc := encB) (off := io34) rfl rfl rfl rfl Try.isAgg4 ha34 encB_len hk_1 Tk (by first | rfl | exact (Nat.add_zero _).symm | omega) (by rfl) ?_
   refine q_move rfl rfl rfl rfl ?_
   refine s_bool 36 rfl (fun hr => ?_) (fun hr => ?_)
   ·
    try simp only [Bool.and_eq_true, Bool.or_eq_true, Bool.not_eq_true', Bool.not_eq_false', Bool.and_eq_false_iff, Bool.or_eq_false_iff, decide_eq_true_eq, decide_eq_false_iff_not] at hr
    have hskip : rowF es (rf rs) i j j = true ∨ edgeB es (rf rs) i j = false := .inl hr
    refine q_skip rfl rfl rfl rfl ?_
    refine q_skip rfl rfl rfl rfl ?_
    refine q_skip rfl rfl rfl rfl ?_
    refine l_skip rfl rfl rfl rfl ?_
    refine q_skip rfl rfl rfl rfl ?_
    refine q_pick_t rfl rfl rfl rfl rfl ?_
    refine r_done ?_
    refine s_keep [0, 2, 3, 4, 5, 37, 38, 39, 40, 41, 42] (e' := [(0, _), (2, _), (3, _), (4, _), (5, _), (37, _), (38, _), (39, _), (40, _), (41, _), (42, _)]) rfl ?_
    refine k_then_n ?_
    refine c_cond_t rfl ?_
    refine c_exit ?_
    refine k_then_exit ?_
    refine k_blk_here ?_
    refine k_then_n ?_
    refine c_plain (.q 0 (.q 1 (.q 2 (.done)))) (by kernel_rfl) ?_
    refine q_move rfl rfl rfl rfl ?_
    refine q_int rfl rfl rfl rfl rfl (b_add' _ (by exact fits_i64 (by omega) (by omega))) ?_
    refine q_assign rfl rfl rfl rfl ?_
    refine r_done ?_
    refine k_then_n ?_
    rw [mks_ext (f := rowF es (rf rs) i j) (g := rowF es (rf rs) i (j + 1)) (fun q _ => (rowF_skip hskip).symm)]
    refine loop_next (x := j) (j + 1) ?_ ?_ ?_ ?_
    · exact ⟨by omega, by omega⟩
    · show n - (j + 1) < n - j; omega
    · exact ⟨rfl, rfl, rfl, rfl, rfl, trivial⟩
    · (try simp only [List.cons_append, List.nil_append]); exact Tf
   ·
    try simp only [Bool.and_eq_true, Bool.or_eq_true, Bool.not_eq_true', Bool.not_eq_false', Bool.and_eq_false_iff, Bool.or_eq_false_iff, decide_eq_true_eq, decide_eq_false_iff_not] at hr
    refine q_move rfl rfl rfl rfl ?_
    refine q_move rfl rfl rfl rfl ?_
    refine q_move rfl rfl rfl rfl ?_
    have sp_2 := owhy_spec b n ec rc ea ra (.slice (some ⟨b14, 0, none⟩) n n) es rs (by first | rfl | assumption | omega | (simp; done) | (simp; omega)) (by first | rfl | assumption | omega | (simp; done) | (simp; omega)) (by omega) i j (by omega) (by omega) x y p q hx hy hp hq
    refine l_call rfl rfl rfl rfl rfl rfl Try.call65 (sp_2) Ts ?_
    rintro ⟨⟩ -
    try simp only [List.cons_append, List.nil_append]
    refine ag_nil ?_
    refine q_int rfl rfl rfl rfl rfl (b_eql _ _ _ _) ?_
    refine q_pick_f rfl rfl rfl rfl rfl ?_
    refine r_done ?_
    refine s_keep [0, 2, 3, 4, 5, 37, 38, 39, 40, 41, 42] (e' := [(0, _), (2, _), (3, _), (4, _), (5, _), (37, _), (38, _), (39, _), (40, _), (41, _), (42, _)]) rfl ?_
    refine k_then_n ?_
    refine c_cond_p rfl (fun hw => ?_) (fun hw => ?_)
    ·
     have hskip : rowF es (rf rs) i j j = true ∨ edgeB es (rf rs) i j = false := .inr (by rw [hE, decide_eq_false (whyC_zero.1 hw)])
     refine c_exit ?_
     refine k_then_exit ?_
     refine k_blk_here ?_
     refine k_then_n ?_
     refine c_plain (.q 0 (.q 1 (.q 2 (.done)))) (by kernel_rfl) ?_
     refine q_move rfl rfl rfl rfl ?_
     refine q_int rfl rfl rfl rfl rfl (b_add' _ (by exact fits_i64 (by omega) (by omega))) ?_
     refine q_assign rfl rfl rfl rfl ?_
     refine r_done ?_
     refine k_then_n ?_
     rw [mks_ext (f := rowF es (rf rs) i j) (g := rowF es (rf rs) i (j + 1)) (fun q _ => (rowF_skip hskip).symm)]
     refine loop_next (x := j) (j + 1) ?_ ?_ ?_ ?_
     · exact ⟨by omega, by omega⟩
     · show n - (j + 1) < n - j; omega
     · exact ⟨rfl, rfl, rfl, rfl, rfl, trivial⟩
     · (try simp only [List.cons_append, List.nil_append]); exact Tf
    ·
     have hed : edgeB es (rf rs) i j = true := by rw [hE, decide_eq_true_eq]; exact Classical.byContradiction fun h => hw (whyC_zero.2 h)
     refine c_skip ?_
     refine k_then_n ?_
     refine c_seq ?_
     refine c_plain (.q 0 (.q 1 (.q 2 ((.l 3 [] (.done)))))) (by kernel_rfl) ?_
     refine q_move rfl rfl rfl rfl ?_
     refine q_move rfl rfl rfl rfl ?_
     refine q_idxO (sz := 0) (k := j) (enc := encB) (xs := mks (rowF es (rf rs) i j) n) rfl rfl rfl rfl rfl Try.underlying100 Try.sizeOf4 hk_1 (by first | rfl | omega) (by omega) Tk ?_
     intro ib45 io45 ha45 hl45 hc45
     refine l_store_O (j := 0) (k := j) (q := true) (enc := encB) (off := io45) rfl rfl rfl rfl Try.sizeOf4 (us := [_]) rfl rfl rfl ha45 encB_len hk_1 Tk (by first | rfl | exact (Nat.add_zero _).symm | omega) (by first | decide | exact Nat.le_of_ble_eq_true rfl) (by rfl) ?_
     refine ag_nil ?_
     refine r_done ?_
     rw [mid_start hed (by omega)]
     obtain ⟨gj, hgj⟩ := get_lt (l := G) (i := j) (by omega)
     have hgv := hGq j gj (by omega) hgj
     refine s_owA (sz := 1) (enc := encB) (T := G) Tk hgj fun ho1 ho2 => ?_
     have hrj : RdS (bigS (owA 1 encB) G) gj.1 ((mks (hbF es (rf rs) j) n).flatMap encB) := rds_big (f := owA 1 encB) (List.mem_of_getElem? hgj) (by rw [← hgv]; exact rds_own encB_len ho1 ho2)
     refine s_keep [0, 2, 3, 4, 5, 37, 38, 39, 40, 41] (e' := [(0, _), (2, _), (3, _), (4, _), (5, _), (37, _), (38, _), (39, _), (40, _), (41, _)]) rfl ?_
     refine k_then_n ?_
     refine c_seq ?_
     refine c_plain (.q 0 (.q 1 (.q 2 (.done)))) (by kernel_rfl) ?_
     refine q_move rfl rfl rfl rfl ?_
     refine q_int rfl rfl rfl rfl rfl (b_add' _ (by exact fits_i64 (by omega) (by omega))) ?_
     refine q_assign rfl rfl rfl rfl ?_
     refine r_done ?_
     refine k_then_n ?_
     refine c_block ?_
     refine c_loop2 (α := Nat) (fun (k : Nat) => j < k ∧ k ≤ n) (fun (k : Nat) => [(6, .int .i64 ((k : Nat) : Int))]) (fun (k : Nat) => [own 1 encB (some ⟨b24, 0, none⟩) n (mks (midF es (rf rs) i j k) n)]) (fun (k : Nat) => n - k) [0, 2, 3, 4, 5, 37, 38, 39, 40, 41] (er := [(0, _), (2, _), (3, _), (4, _), (5, _), (37, _), (38, _), (39, _), (40, _), (41, _)]) rfl (j + 1) ?_ (by exact ⟨rfl, trivial⟩) (by (try dsimp only); (try simp only [Nat.add_zero, Nat.zero_add]); (repeat ((with_reducible apply Z2); focus (first | (with_reducible (repeat (first | exact Z0 | apply Z1)); done) | (repeat (first | exact Z0 | apply Z1))))); exact Z3) ?_
     · exact ⟨Nat.lt_succ_self _, by omega⟩
     rintro k ⟨hjk, hkn2⟩
     try simp only [List.cons_append, List.nil_append]
     refine c_seq ?_
     refine c_seq ?_
     refine c_plain (.q 0 (.q 1 (.q 2 (.done)))) (by kernel_rfl) ?_
     refine q_move rfl rfl rfl rfl ?_
     refine q_move rfl rfl rfl rfl ?_
     refine q_int rfl rfl rfl rfl rfl (b_lss _ _ _ _) ?_
     refine r_done ?_
     refine k_then_n ?_
     refine c_cond_p rfl (fun hklt => ?_) (fun hklt => ?_)
     ·
      refine c_skip ?_
      refine k_then_n ?_
      refine c_seq ?_
      refine c_block ?_
      refine c_plain (.q 0 (.q 1 (.q 2 (.q 3 (.q 4 (.q 5 (.q 6 (.q 7 (.q 8 (.q 9 (.q 10 (.q 11 (.q 12 (.q 13 (.q 14 (.q 15 (.q 16 (.q 17 (.q 18 ((.l 19 [] (.done)))))))))))))))))))))) (by kernel_rfl) ?_
      refine q_move rfl rfl rfl rfl ?_
      refine q_move rfl rfl rfl rfl ?_
      refine q_move rfl rfl rfl rfl ?_
      refine q_move rfl rfl rfl rfl ?_
      have hk_3 : (mks (midF es (rf rs) i j k) n)[k]? = some (rowF es (rf rs) i j k) := ((mks_get _ (by omega)).trans (by rw [mid_at]))
      refine q_idxO (sz := 0) (k := k) (enc := encB) (xs := mks (midF es (rf rs) i j k) n) rfl rfl rfl rfl rfl Try.underlying100 Try.sizeOf4 hk_3 (by first | rfl | omega) (by omega) Tk ?_
      intro ib57 io57 ha57 hl57 hc57
      refine q_load_O (v := (.bool (rowF es (rf rs) i j k))) (j := 0) (k' := k) (enc := encB) (off := io57) rfl rfl rfl rfl Try.isAgg4 ha57 encB_len hk_3 Tk (by first | rfl | exact (Nat.add_zero _).symm | omega) (by rfl) ?_
      refine q_move rfl rfl rfl rfl ?_
      refine s_bool 59 rfl (fun hrk => ?_) (fun hrk => ?_)
      ·
       try simp only [Bool.and_eq_true, Bool.or_eq_true, Bool.not_eq_true', Bool.not_eq_false', Bool.and_eq_false_iff, Bool.or_eq_false_iff, decide_eq_true_eq, decide_eq_false_iff_not] at hrk
       refine q_skip rfl rfl rfl rfl ?_
       refine q_skip rfl rfl rfl rfl ?_
       refine q_skip rfl rfl rfl rfl ?_
       refine q_skip rfl rfl rfl rfl ?_
       refine q_skip rfl rfl rfl rfl ?_
       refine q_skip rfl rfl rfl rfl ?_
       refine q_skip rfl rfl rfl rfl ?_
       refine q_skip rfl rfl rfl rfl ?_
       refine q_skip rfl rfl rfl rfl ?_
       refine q_skip rfl rfl rfl rfl ?_
       refine q_pick_t rfl rfl rfl rfl rfl ?_
       refine q_idxO (sz := 0) (k := k) (enc := encB) (xs := mks (midF es (rf rs) i j k) n) rfl rfl rfl rfl rfl Try.underlying100 Try.sizeOf4 hk_3 (by first | rfl | omega) (by omega) Tk ?_
       intro ib71 io71 ha71 hl71 hc71
       refine l_store_O (j := 0) (k := k) (q := true) (enc := encB) (off := io71) rfl rfl rfl rfl Try.sizeOf4 (us := [_]) rfl rfl rfl ha71 encB_len hk_3 Tk (by first | rfl | exact (Nat.add_zero _).symm | omega) (by first | decide | exact Nat.le_of_ble_eq_true rfl) (by rfl) ?_
       refine ag_nil ?_
       refine r_done ?_
       refine s_keep [0, 2, 3, 4, 5, 6, 37, 38, 39, 40, 41, 60, 61, 62, 63, 64, 65, 66, 67, 68, 69] (e' := [(0, _), (2, _), (3, _), (4, _), (5, _), (6, _), (37, _), (38, _), (39, _), (40, _), (41, _), (60, _), (61, _), (62, _), (63, _), (64, _), (65, _), (66, _), (67, _), (68, _), (69, _)]) rfl ?_
       refine k_blk_n ?_
       refine k_then_n ?_
       refine c_plain (.q 0 (.q 1 (.q 2 (.done)))) (by kernel_rfl) ?_
       refine q_move rfl rfl rfl rfl ?_
       refine q_int rfl rfl rfl rfl rfl (b_add' _ (by exact fits_i64 (by omega) (by omega))) ?_
       refine q_assign rfl rfl rfl rfl ?_
       refine r_done ?_
       refine k_then_n ?_
       rw [show ((mks (midF es (rf rs) i j k) n).set k true) = mks (midF es (rf rs) i j (k + 1)) n from by rw [← mid_next hed hjk (by omega)]; simp [hrk]]
       refine loop_next (x := k) (k + 1) ?_ ?_ ?_ ?_
       · exact ⟨by omega, by omega⟩
       · show n - (k + 1) < n - k; omega
       · exact ⟨rfl, rfl, rfl, rfl, rfl, rfl, rfl, rfl, rfl, rfl, rfl, trivial⟩
       · (try simp only [List.cons_append, List.nil_append]); exact Tf
      ·
       try simp only [Bool.and_eq_true, Bool.or_eq_true, Bool.not_eq_true', Bool.not_eq_false', Bool.and_eq_false_iff, Bool.or_eq_false_iff, decide_eq_true_eq, decide_eq_false_iff_not] at hrk
       refine q_move rfl rfl rfl rfl ?_
       refine q_nil_p rfl rfl rfl rfl ?_
       refine q_field (k := 2) rfl rfl rfl rfl Try.underlying88 rfl Try.sizeOf86 rfl ?_
       refine q_load_c (j := 2) rfl rfl rfl rfl Try.isAgg86 Tk (by first | rfl | exact (Nat.add_zero _).symm) (by rfl) ?_
       refine q_move rfl rfl rfl rfl ?_
       refine q_idxO (sz := 0) (k := j) (enc := encH) (xs := G) rfl rfl rfl rfl rfl Try.underlying86 Try.sizeOf100 hgj (by first | rfl | omega) (by omega) Tk ?_
       intro ib65 io65 ha65 hl65 hc65
       refine q_load_O (v := (.slice gj.1 gj.2.2.length gj.2.1)) (j := 0) (k' := j) (enc := encH) (off := io65) rfl rfl rfl rfl Try.isAgg100 ha65 encH_len hgj Tk (by first | rfl | exact (Nat.add_zero _).symm | omega) (by rfl) ?_
       refine q_move rfl rfl rfl rfl ?_
       have hk_4 : (mks (hbF es (rf rs) j) n)[k]? = some (hbF es (rf rs) j k) := (mks_get _ (by omega))
       refine q_idxR (sz := 0) (k := k) rfl rfl rfl rfl rfl Try.underlying100 Try.sizeOf4 (hrj) hk_4 encB_len (by first | rfl | omega) (by rw [hgv, mks_len]; omega) ?_
       intro ib68 io68 _ hd68
       refine q_load rfl rfl rfl rfl Try.isAgg4 Tk (hd68 0 (.bool (hbF es (rf rs) j k)) rfl) ?_
       refine q_pick_f rfl rfl rfl rfl rfl ?_
       refine q_idxO (sz := 0) (k := k) (enc := encB) (xs := mks (midF es (rf rs) i j k) n) rfl rfl rfl rfl rfl Try.underlying100 Try.sizeOf4 hk_3 (by first | rfl | omega) (by omega) Tk ?_
       intro ib71 io71 ha71 hl71 hc71
       refine l_store_O (j := 0) (k := k) (q := (hbF es (rf rs) j k)) (enc := encB) (off := io71) rfl rfl rfl rfl Try.sizeOf4 (us := [_]) rfl rfl rfl ha71 encB_len hk_3 Tk (by first | rfl | exact (Nat.add_zero _).symm | omega) (by first | decide | exact Nat.le_of_ble_eq_true rfl) (by rfl) ?_
       refine ag_nil ?_
       refine r_done ?_
       refine s_keep [0, 2, 3, 4, 5, 6, 37, 38, 39, 40, 41, 60, 61, 62, 63, 64, 65, 66, 67, 68, 69] (e' := [(0, _), (2, _), (3, _), (4, _), (5, _), (6, _), (37, _), (38, _), (39, _), (40, _), (41, _), (60, _), (61, _), (62, _), (63, _), (64, _), (65, _), (66, _), (67, _), (68, _), (69, _)]) rfl ?_
       refine k_blk_n ?_
       refine k_then_n ?_
       refine c_plain (.q 0 (.q 1 (.q 2 (.done)))) (by kernel_rfl) ?_
       refine q_move rfl rfl rfl rfl ?_
       refine q_int rfl rfl rfl rfl rfl (b_add' _ (by exact fits_i64 (by omega) (by omega))) ?_
       refine q_assign rfl rfl rfl rfl ?_
       refine r_done ?_
       refine k_then_n ?_
       rw [show ((mks (midF es (rf rs) i j k) n).set k (hbF es (rf rs) j k)) = mks (midF es (rf rs) i j (k + 1)) n from by rw [← mid_next hed hjk (by omega)]; simp [hrk]]
       refine loop_next (x := k) (k + 1) ?_ ?_ ?_ ?_
       · exact ⟨by omega, by omega⟩
       · show n - (k + 1) < n - k; omega
       · exact ⟨rfl, rfl, rfl, rfl, rfl, rfl, rfl, rfl, rfl, rfl, rfl, trivial⟩
       · (try simp only [List.cons_append, List.nil_append]); exact Tf
     ·
      obtain rfl : n = k := by omega
      rw [mid_end]
      refine c_exit ?_
      refine k_then_exit ?_
      refine k_then_exit ?_
      refine k_blk_here ?_
      refine k_blk_n ?_
      refine k_then_n ?_
      refine c_plain (.q 0 (.q 1 (.q 2 (.done)))) (by kernel_rfl) ?_
      refine q_move rfl rfl rfl rfl ?_
      refine q_int rfl rfl rfl rfl rfl (b_add' _ (by exact fits_i64 (by omega) (by omega))) ?_
      refine q_assign rfl rfl rfl rfl ?_
      refine r_done ?_
      refine s_keep [0, 2, 3, 4, 5, 37, 38, 39, 40, 41] (e' := [(0, _), (2, _), (3, _), (4, _), (5, _), (37, _), (38, _), (39, _), (40, _), (41, _)]) rfl ?_
      refine k_then_n ?_
      refine loop_next (x := j) (j + 1) ?_ ?_ ?_ ?_
      · exact ⟨by omega, by omega⟩
      · show n - (j + 1) < n - j; omega
      · exact ⟨rfl, rfl, rfl, rfl, rfl, trivial⟩
      · (try simp only [List.cons_append, List.nil_append]); exact Tf
  ·
   obtain rfl : n = j := by omega
   refine c_exit ?_
   refine k_then_exit ?_
   refine k_then_exit ?_
   refine k_blk_here ?_
   refine k_then_n ?_
   rw [mks_ext (f := rowF es (rf rs) i n) (g := hbF es (rf rs) i) (fun q _ => rowF_end (by omega))]
   refine c_plain (.q 0 (.q 1 (.q 2 (.q 3 (.q 4 (.q 5 (.q 6 ((.l 7 [] (.done)))))))))) (by kernel_rfl) ?_
   refine q_move rfl rfl rfl rfl ?_
   refine q_nil_p rfl rfl rfl rfl ?_
   refine q_field (k := 2) rfl rfl rfl rfl Try.underlying88 rfl Try.sizeOf86 rfl ?_
   refine q_load_c (j := 2) rfl rfl rfl rfl Try.isAgg86 Tk (by first | rfl | exact (Nat.add_zero _).symm) (by rfl) ?_
   refine q_move rfl rfl rfl rfl ?_
   refine q_move rfl rfl rfl rfl ?_
   refine q_idxO (sz := 0) (k := i) (enc := encH) (xs := G) rfl rfl rfl rfl rfl Try.underlying86 Try.sizeOf100 hg0 (by first | rfl | omega) (by omega) Tk ?_
   intro ib78 io78 ha78 hl78 hc78
   refine l_store_O (j := 0) (k := i) (q := ((some ⟨b24, 0, none⟩, n, mks (hbF es (rf rs) i) n) : RowB)) (enc := encH) (off := io78) rfl rfl rfl rfl Try.sizeOf100 (us := [_]) rfl rfl rfl ha78 encH_len hg0 Tk (by first | rfl | exact (Nat.add_zero _).symm | omega) (by first | decide | exact Nat.le_of_ble_eq_true rfl) (by simp only [encH, mks_len]; rfl) ?_
   refine ag_nil ?_
   refine r_done ?_
   refine s_keep [0, 2, 3] (e' := [(0, _), (2, _), (3, _)]) rfl ?_
   refine k_blk_n ?_
   refine k_then_n ?_
   refine c_plain (.q 0 (.q 1 (.q 2 (.done)))) (by kernel_rfl) ?_
   refine q_move rfl rfl rfl rfl ?_
   refine q_int rfl rfl rfl rfl rfl (b_sub' _ (by exact fits_i64 (by omega) (by omega))) ?_
   refine q_assign rfl rfl rfl rfl ?_
   refine r_done ?_
   refine k_then_n ?_
   refine s_big_take (f := owA 1 encB) (L := G) (i := i) (x := g0) Tk hg0 ?_
   refine s_big_put (f := owA 1 encB) (L := G) (i := i) (y := ((some ⟨b24, 0, none⟩, n, mks (hbF es (rf rs) i) n) : RowB)) Ts (by omega) ?_
   refine loop_next (x := (i + 1, G)) ((i, (G.set i ((some ⟨b24, 0, none⟩, n, mks (hbF es (rf rs) i) n) : RowB)))) ?_ ?_ ?_ ?_
   · try dsimp only
     refine ⟨by omega, by rw [List.length_set]; exact hGl, fun q x h1 h2 => ?_⟩
     by_cases e : q = i
     · subst e
       rw [List.getElem?_set_self (by omega)] at h2; cases h2; rfl
     · rw [List.getElem?_set_ne (Ne.symm e)] at h2
       exact hGq q x (by omega) h2
   · show i < i + 1; omega
   · exact ⟨rfl, rfl, rfl, trivial⟩
   · (try simp only [List.cons_append, List.nil_append]); exact Tf
 ·
  obtain rfl : k = 0 := by omega
  refine c_exit ?_
  refine k_then_exit ?_
  refine k_then_exit ?_
  refine k_blk_here ?_
  refine ret_end ?_
  refine ord_fold (b := b) (es := es) (rs := rs) Ts hn.symm hn.symm hn.symm (hGl.trans hn.symm) (fun q x hx => by rw [hn]; exact hGq q x (Nat.zero_le _) hx) ?_
  refine ret0 rfl (()) (by first | rfl | (first | rfl | (congr 1; done) | (congr 1 <;> first | rfl | omega | (simp; done) | (simp; omega)))) (by trivial) ?_
  exact Tf
theorem onew_spec (th va vo lk : Int) (pl : List Int) (ao : Option Addr) (n c : Nat) (A : HProp) (hr : RdS A ao (pl.flatMap encZ)) (hn : pl.length = n) (hb : n ≤ 4000000) (es : List T3) (eo : Option Addr) (m ec : Nat) (he : RdS A eo (es.flatMap enc3)) (hem : es.length = m) (hmb : m ≤ 4000000) (hok : OkS th va vo lk pl) (hl : es.length ≤ 2048) (hall : allC (newF th va vo lk pl) es es.length) : Spec Try.prog 14 [.agg #[.int .i64 th, .int .i64 va, .int .i64 vo, .int .i64 lk, .slice ao n c], .slice eo m ec] [A] (fun (r : Nat) => .tuple #[.pointer (some ⟨r, 0, none⟩), .int .i64 0]) (fun r => True) (fun r => [A, ordR r es (rnds (newF th va vo lk pl) es)]) := by
 refine spec_mk (n := 100) Try.func14 rfl rfl rfl ?_
 intro Γ w0
 simp only [argE, List.cons_append, List.nil_append, Nat.zero_add, Nat.reduceAdd]
 refine c_seq ?_
 refine c_plain ((.l 0 [] (.q 1 (.q 2 (.done))))) (by kernel_rfl) ?_
 refine l_box rfl rfl rfl rfl (us := [_, _, _, _, _]) rfl ?_
 intro b2
 refine ag_nil ?_
 refine q_assign rfl rfl rfl rfl ?_
 refine q_assign rfl rfl rfl rfl ?_
 refine r_done ?_
 refine k_then_n ?_
 refine c_seq ?_
 refine c_seq ?_
 refine c_plain (.q 0 ((.l 1 [] (.q 2 (.done))))) (by kernel_rfl) ?_
 refine q_loadN_c rfl rfl rfl rfl Try.isAgg25 Try.sizeOf25 Tk 0 (us := [_, _, _, _, _]) (by first | rfl | exact (Nat.add_zero _).symm) rfl rfl ?_
 have sp_1 := rshape_spec th va vo lk pl ao n c A (hr) (by first | rfl | assumption | omega | (simp; done) | (simp; omega)) (by omega)
 refine l_call rfl rfl rfl rfl rfl rfl Try.call36 (sp_1) Ts ?_
 rintro ⟨⟩ -
 try simp only [List.cons_append, List.nil_append]
 refine ag_nil ?_
 refine s_eq 17 rfl (v' := .int .i64 0) (by rw [if_pos hok]) ?_
 refine q_int rfl rfl rfl rfl rfl (b_neq _ _ _ _) ?_
 refine s_eq 18 rfl (v' := .bool false) (by first | rfl | simp) ?_
 refine r_done ?_
 refine s_keep [1, 2, 18] (e' := [(1, _), (2, _), (18, _)]) rfl ?_
 refine k_then_n ?_
 refine c_cond_f rfl ?_
 refine c_skip ?_
 refine k_then_n ?_
 refine c_seq ?_
 refine c_seq ?_
 refine c_plain (.q 0 (.q 1 (.q 2 (.done)))) (by kernel_rfl) ?_
 refine q_move rfl rfl rfl rfl ?_
 refine q_len rfl rfl rfl rfl Try.underlying26 ?_
 refine q_int rfl rfl rfl rfl rfl (b_gtr _ _ _ _) ?_
 refine r_done ?_
 refine k_then_n ?_
 refine c_cond_p rfl (fun hg => by exfalso; omega) (fun hg => ?_)
 refine c_skip ?_
 refine k_then_n ?_
 refine c_seq ?_
 refine c_plain (.q 0 ((.l 1 [] (.q 2 (.q 3 (.q 4 (.q 5 (.q 6 (.done))))))))) (by kernel_rfl) ?_
 refine q_loadN_c rfl rfl rfl rfl Try.isAgg25 Try.sizeOf25 Tk 0 (us := [_, _, _, _, _]) (by first | rfl | exact (Nat.add_zero _).symm) rfl rfl ?_
 have sp_2 := rnew_spec th va vo lk pl ao n c A (hr) (by first | rfl | assumption | omega | (simp; done) | (simp; omega)) (by omega) hok
 refine l_call rfl rfl rfl rfl rfl rfl Try.call37 (sp_2) Ts ?_
 rintro ⟨kq, kqp, kqc⟩ -
 try simp only [List.cons_append, List.nil_append]
 refine ag_nil ?_
 refine q_move rfl rfl rfl rfl ?_
 refine q_extract rfl rfl rfl rfl rfl ?_
 refine q_extract rfl rfl rfl rfl rfl ?_
 refine q_assign rfl rfl rfl rfl ?_
 refine q_assign rfl rfl rfl rfl ?_
 refine r_done ?_
 refine s_keep [1, 6] (e' := [(1, _), (6, _)]) rfl ?_
 refine k_then_n ?_
 refine c_seq ?_
 refine c_plain (.q 0 ((.l 1 [] (.q 2 (.done))))) (by kernel_rfl) ?_
 refine q_build rfl rfl rfl rfl (vs := [_, _, _]) (run_buildS Try.underlying88 Try.zeroValue88 (ps := [(0, 1), (1, 1), (2, 1)]) ⟨rfl, Try.sizeOf26, rfl, Try.sizeOf23, rfl, Try.sizeOf86, trivial⟩ rfl) ?_
 refine l_box rfl rfl rfl rfl (us := [_, _, _]) rfl ?_
 intro b28
 refine ag_nil ?_
 refine q_assign rfl rfl rfl rfl ?_
 refine r_done ?_
 refine s_heap (fun _ h => own_nil (sz := 3) (enc := enc3) h) ?_
 refine s_heap (fun _ h => own_nil (sz := 1) (enc := encZ) h) ?_
 refine k_then_n ?_
 refine c_seq ?_
 refine c_seq ?_
 refine c_plain (.q 0 (.done)) (by kernel_rfl) ?_
 refine q_assign rfl rfl rfl rfl ?_
 refine r_done ?_
 refine k_then_n ?_
 refine c_block ?_
 refine c_loop2 (α := Nat × Option Addr × Nat × Option Addr × Nat) (fun (x_ : Nat × Option Addr × Nat × Option Addr × Nat) => match x_ with | (i, ga, gc, qa, qc) => i ≤ m ∧ (allC (newF th va vo lk pl) es i)) (fun (x_ : Nat × Option Addr × Nat × Option Addr × Nat) => match x_ with | (i, ga, gc, qa, qc) => [(9, .int .i64 ((i : Nat) : Int))]) (fun (x_ : Nat × Option Addr × Nat × Option Addr × Nat) => match x_ with | (i, ga, gc, qa, qc) => [rk kqp kqc kq (sN (newF th va vo lk pl) es i), own 1 encZ kqp kqc pl, cells b28 0 [.slice ga i gc, .slice qa i qc, .slice none 0 0], own 3 enc3 ga gc (es.take i), own 1 encZ qa qc (mks (rnE (newF th va vo lk pl) es) i)]) (fun (x_ : Nat × Option Addr × Nat × Option Addr × Nat) => match x_ with | (i, ga, gc, qa, qc) => m - i) [1, 6, 8] (er := [(1, _), (6, _), (8, _)]) rfl (0, none, 0, none, 0) ?_ (by exact ⟨rfl, trivial⟩) (by (try dsimp only); rw [sN_zero]; (repeat ((with_reducible apply Z2); focus (first | (with_reducible (repeat (first | exact Z0 | apply Z1)); done) | (repeat (first | exact Z0 | apply Z1))))); exact Z3) ?_
 · exact ⟨Nat.zero_le _, allC_zero _ _⟩
 rintro ⟨i, ga, gc, qa, qc⟩ ⟨hle_i, hI⟩
 try simp only [List.cons_append, List.nil_append]
 have hsn := (sN_n (newF th va vo lk pl) es i).2
 have hz0 : (newF th va vo lk pl).n = 0 := rfl
 refine c_seq ?_
 refine c_seq ?_
 refine c_plain (.q 0 (.q 1 (.q 2 (.q 3 (.done))))) (by kernel_rfl) ?_
 refine q_move rfl rfl rfl rfl ?_
 refine q_move rfl rfl rfl rfl ?_
 refine q_len rfl rfl rfl rfl Try.underlying26 ?_
 refine q_int rfl rfl rfl rfl rfl (b_lss _ _ _ _) ?_
 refine r_done ?_
 refine k_then_n ?_
 refine c_cond_p rfl (fun hlt => ?_) (fun hlt => ?_)
 ·
  obtain ⟨e, he_⟩ := get_lt (l := es) (i := i) (by omega)
  refine c_skip ?_
  refine k_then_n ?_
  refine c_seq ?_
  refine c_block ?_
  refine c_seq ?_
  refine c_plain (.q 0 (.q 1 (.q 2 (.q 3 ((.l 4 [] ((.l 5 [] (.done))))))))) (by kernel_rfl) ?_
  refine q_move rfl rfl rfl rfl ?_
  refine q_move rfl rfl rfl rfl ?_
  refine q_idxR (sz := 2) (k := i) rfl rfl rfl rfl rfl Try.underlying26 Try.sizeOf36 (he) he_ enc3_len (by first | rfl | omega) (by omega) ?_
  intro ib37 io37 _ hd37
  refine q_loadN (vs := [_, _, _]) rfl rfl rfl rfl Try.isAgg36 Try.sizeOf36 Tk (hd37) rfl ?_
  refine l_alloc rfl rfl rfl Try.zeroValue36 (zs := [.int .i64 0, .int .i64 0, .int .i64 0]) rfl ?_
  intro b10
  refine ag_nil ?_
  refine l_store (j := 0) rfl rfl rfl rfl Try.sizeOf36 (us := [_, _, _]) rfl rfl rfl Tk (by first | rfl | exact (Nat.add_zero _).symm) (by first | decide | (simp; done) | omega) ?_
  simp only [setL, List.set]
  refine ag_nil ?_
  refine r_done ?_
  refine s_keep [1, 6, 8, 9, 10] (e' := [(1, _), (6, _), (8, _), (9, _), (10, _)]) rfl ?_
  refine k_then_n ?_
  refine c_seq ?_
  refine c_plain (.q 0 (.done)) (by kernel_rfl) ?_
  refine q_assign rfl rfl rfl rfl ?_
  refine r_done ?_
  refine k_then_n ?_
  refine c_seq ?_
  refine c_seq ?_
  refine c_plain (.q 0 (.q 1 ((.l 2 [] (.q 3 (.q 4 (.q 5 (.q 6 (.q 7 (.done)))))))))) (by kernel_rfl) ?_
  refine q_move rfl rfl rfl rfl ?_
  refine q_loadN_c rfl rfl rfl rfl Try.isAgg36 Try.sizeOf36 Tk 0 (us := [_, _, _]) (by first | rfl | exact (Nat.add_zero _).symm) rfl rfl ?_
  have sp_3 := rcan_spec kqp kqc kq (sN (newF th va vo lk pl) es i) (sN_inv (new_inv hok) es i) e.1 e.2.1 e.2.2
  refine l_call rfl rfl rfl rfl rfl rfl Try.call38 (sp_3) Ts ?_
  rintro ⟨⟩ -
  try simp only [List.cons_append, List.nil_append]
  refine ag_nil ?_
  refine q_move rfl rfl rfl rfl ?_
  refine s_bool_p 42 rfl (fun hc1 => ?_) (fun hc1 => by exfalso; exact hc1 (hall i e (by omega) he_))
  refine q_field (k := 0) rfl rfl rfl rfl Try.underlying36 rfl Try.sizeOf34 rfl ?_
  refine q_load_c (j := 0) rfl rfl rfl rfl Try.isAgg34 Tk (by first | rfl | exact (Nat.add_zero _).symm) (by rfl) ?_
  refine q_int rfl rfl rfl rfl rfl (b_eql _ _ _ _) ?_
  refine q_pick_t rfl rfl rfl rfl rfl ?_
  refine r_done ?_
  refine s_keep [1, 6, 8, 9, 10, 11, 43, 44, 45, 46] (e' := [(1, _), (6, _), (8, _), (9, _), (10, _), (11, _), (43, _), (44, _), (45, _), (46, _)]) rfl ?_
  refine k_then_n ?_
  refine c_cond_p rfl (fun k9 => ?_) (fun k9 => ?_)
  ·
   have hyes : 0 ≤ e.2.2 ∧ e.2.2 < ((sN (newF th va vo lk pl) es i).B.length : Int) := by
     obtain ⟨p0, p1, -⟩ := (can_obj (sN_inv (new_inv hok) es i) hc1).2.2.1 k9
     exact ⟨p0, by omega⟩
   have hrn : (opF (sN (newF th va vo lk pl) es i) e.2.2).1 = rnE (newF th va vo lk pl) es i := by rw [rnE_at he_, rndT, if_pos k9]
   refine c_seq ?_
   refine c_plain (.q 0 (.q 1 (.q 2 ((.l 3 [] (.q 4 (.q 5 (.q 6 ((.l 7 [] ((.l 8 [] (.q 9 (.done)))))))))))))) (by kernel_rfl) ?_
   refine q_move rfl rfl rfl rfl ?_
   refine q_field (k := 2) rfl rfl rfl rfl Try.underlying36 rfl Try.sizeOf3 rfl ?_
   refine q_load_c (j := 2) rfl rfl rfl rfl Try.isAgg3 Tk (by first | rfl | exact (Nat.add_zero _).symm) (by rfl) ?_
   have sp_4 := rround_spec kqp kqc kq (sN (newF th va vo lk pl) es i) e.2.2
   refine l_call rfl rfl rfl rfl rfl rfl Try.call39 (sp_4) Ts ?_
   rintro ⟨⟩ -
   try simp only [List.cons_append, List.nil_append]
   refine ag_nil ?_
   refine s_eq 51 rfl (v' := .tuple #[.agg #[.int .i64 ((opF (sN (newF th va vo lk pl) es i) e.2.2).1), .int .i64 ((opF (sN (newF th va vo lk pl) es i) e.2.2).2)], .int .i64 0]) (by rw [if_pos hyes, if_pos hyes]) ?_
   refine q_move rfl rfl rfl rfl ?_
   refine q_extract rfl rfl rfl rfl rfl ?_
   refine q_extract rfl rfl rfl rfl rfl ?_
   refine l_alloc rfl rfl rfl Try.zeroValue90 (zs := [.int .i64 0, .int .i64 0]) rfl ?_
   intro b12
   refine ag_nil ?_
   refine l_store (j := 0) rfl rfl rfl rfl Try.sizeOf90 (us := [_, _]) rfl rfl rfl Tk (by first | rfl | exact (Nat.add_zero _).symm) (by first | decide | (simp; done) | omega) ?_
   simp only [setL, List.set]
   refine ag_nil ?_
   refine q_assign rfl rfl rfl rfl ?_
   refine r_done ?_
   refine s_keep [1, 6, 8, 9, 10, 12, 43, 44, 45] (e' := [(1, _), (6, _), (8, _), (9, _), (10, _), (12, _), (43, _), (44, _), (45, _)]) rfl ?_
   refine k_then_n ?_
   refine c_plain (.q 0 (.q 1 (.q 2 (.done)))) (by kernel_rfl) ?_
   refine q_field (k := 0) rfl rfl rfl rfl Try.underlying90 rfl Try.sizeOf3 rfl ?_
   refine q_load_c (j := 0) rfl rfl rfl rfl Try.isAgg3 Tk (by first | rfl | exact (Nat.add_zero _).symm) (by rfl) ?_
   refine q_assign rfl rfl rfl rfl ?_
   refine r_done ?_
   refine k_then_n ?_
   refine c_seq ?_
   refine c_seq ?_
   refine c_plain (.q 0 (.q 1 ((.l 2 [] (.q 3 (.q 4 (.q 5 (.q 6 (.q 7 (.done)))))))))) (by kernel_rfl) ?_
   refine q_move rfl rfl rfl rfl ?_
   refine q_loadN_c rfl rfl rfl rfl Try.isAgg36 Try.sizeOf36 Tk 0 (us := [_, _, _]) (by first | rfl | exact (Nat.add_zero _).symm) rfl rfl ?_
   have sp_5 := rcan_spec kqp kqc kq (sN (newF th va vo lk pl) es i) (sN_inv (new_inv hok) es i) e.1 e.2.1 e.2.2
   refine l_call rfl rfl rfl rfl rfl rfl Try.call38 (sp_5) Ts ?_
   rintro ⟨⟩ -
   try simp only [List.cons_append, List.nil_append]
   refine ag_nil ?_
   refine q_move rfl rfl rfl rfl ?_
   refine s_bool_p 59 rfl (fun hg => ?_) (fun hg => by exfalso; exact hg hc1)
   refine q_field (k := 0) rfl rfl rfl rfl Try.underlying36 rfl Try.sizeOf34 rfl ?_
   refine q_load_c (j := 0) rfl rfl rfl rfl Try.isAgg34 Tk (by first | rfl | exact (Nat.add_zero _).symm) (by rfl) ?_
   refine q_int rfl rfl rfl rfl rfl (b_eql _ _ _ _) ?_
   refine q_pick_t rfl rfl rfl rfl rfl ?_
   refine r_done ?_
   refine s_keep [1, 6, 8, 9, 10, 11, 43, 44, 45, 60, 61, 62, 63] (e' := [(1, _), (6, _), (8, _), (9, _), (10, _), (11, _), (43, _), (44, _), (45, _), (60, _), (61, _), (62, _), (63, _)]) rfl ?_
   refine k_then_n ?_
   refine c_cond_p rfl (fun hg => by exfalso; omega) (fun hg => ?_)
   refine c_skip ?_
   refine k_then_n ?_
   refine c_seq ?_
   refine c_seq ?_
   refine c_plain (.q 0 (.q 1 ((.l 2 [] (.q 3 (.done)))))) (by kernel_rfl) ?_
   refine q_move rfl rfl rfl rfl ?_
   refine q_loadN_c rfl rfl rfl rfl Try.isAgg36 Try.sizeOf36 Tk 0 (us := [_, _, _]) (by first | rfl | exact (Nat.add_zero _).symm) rfl rfl ?_
   have sp_6 := rnext_spec kqp kqc kq (sN (newF th va vo lk pl) es i) (sN_inv (new_inv hok) es i) (by omega) pl (((sN_sh _ _ _).1)) e.1 e.2.1 e.2.2
   refine l_call rfl rfl rfl rfl rfl rfl Try.call41 (sp_6) Ts ?_
   rintro ⟨⟩ -
   try simp only [List.cons_append, List.nil_append]
   refine ag_nil ?_
   refine q_int rfl rfl rfl rfl rfl (b_neq _ _ _ _) ?_
   refine r_done ?_
   refine s_keep [1, 6, 8, 9, 10, 11, 43, 44, 45, 60, 61, 62, 76] (e' := [(1, _), (6, _), (8, _), (9, _), (10, _), (11, _), (43, _), (44, _), (45, _), (60, _), (61, _), (62, _), (76, _)]) rfl ?_
   refine k_then_n ?_
   refine c_cond_p rfl (fun hg => by exfalso; exact hg (if_pos hc1)) (fun hg => ?_)
   refine c_skip ?_
   refine k_then_n ?_
   refine c_seq ?_
   refine c_draw rfl (.q 0 (.q 1 (.q 2 (.q 3 (.q 4 (.q 5 ((.l 6 [4] ((.l 7 [] (.q 8 (.q 9 ((.l 10 [] (.done))))))))))))))) (by kernel_rfl) ?_
   refine q_move rfl rfl rfl rfl ?_
   refine q_move rfl rfl rfl rfl ?_
   refine q_nil_p rfl rfl rfl rfl ?_
   refine q_field (k := 0) rfl rfl rfl rfl Try.underlying88 rfl Try.sizeOf26 rfl ?_
   refine q_load_c (j := 0) rfl rfl rfl rfl Try.isAgg26 Tk (by first | rfl | exact (Nat.add_zero _).symm) (by rfl) ?_
   refine q_loadN_c rfl rfl rfl rfl Try.isAgg36 Try.sizeOf36 Tk 0 (us := [_, _, _]) (by first | rfl | exact (Nat.add_zero _).symm) rfl rfl ?_
   refine l_buildSlice rfl rfl rfl rfl (run_build1 (us := [_, _, _]) Try.underlying26 Try.sizeOf36 rfl Try.zeroValue36 rfl rfl rfl) ?_
   intro b83
   refine ag_load_c (q := 0) rfl rfl rfl Try.isAgg26 Tk (by first | rfl | exact (Nat.add_zero _).symm) (by rfl) ?_
   refine ag_nil ?_
   refine l_append (sz := 3) (enc := enc3) (xs := (es.take i)) rfl rfl rfl rfl rfl Try.underlying26 Try.typeInfo36 rfl rfl rfl (by decide) Tk Tk (by first | rfl | omega | (simp; done) | (simp; omega)) (ys := [(e.1, e.2.1, e.2.2)]) (rds_some rdn_cells) (by rfl) (by first | rfl | omega) (enc3_len) (enc3_one) (by omega) (by show _ * 24 ≤ _; omega) ?_
   intro ao84 cp84
   refine ag_nil ?_
   refine q_nil_p rfl rfl rfl rfl ?_
   refine q_field (k := 0) rfl rfl rfl rfl Try.underlying88 rfl Try.sizeOf26 rfl ?_
   refine l_store (j := 0) rfl rfl rfl rfl Try.sizeOf26 (us := [_]) rfl rfl rfl Tk (by first | rfl | exact (Nat.add_zero _).symm) (by first | decide | (simp; done) | omega) ?_
   simp only [setL, List.set]
   refine ag_nil ?_
   refine r_done ?_
   refine s_keep [1, 6, 8, 9, 11, 43, 44, 45, 60, 61, 62] (e' := [(1, _), (6, _), (8, _), (9, _), (11, _), (43, _), (44, _), (45, _), (60, _), (61, _), (62, _)]) rfl ?_
   refine k_then_n ?_
   refine c_plain (.q 0 (.q 1 (.q 2 (.q 3 (.q 4 (.q 5 ((.l 6 [] ((.l 7 [] (.q 8 (.q 9 ((.l 10 [] (.done))))))))))))))) (by kernel_rfl) ?_
   refine q_move rfl rfl rfl rfl ?_
   refine q_move rfl rfl rfl rfl ?_
   refine q_nil_p rfl rfl rfl rfl ?_
   refine q_field (k := 1) rfl rfl rfl rfl Try.underlying88 rfl Try.sizeOf23 rfl ?_
   refine q_load_c (j := 1) rfl rfl rfl rfl Try.isAgg23 Tk (by first | rfl | exact (Nat.add_zero _).symm) (by rfl) ?_
   refine q_move rfl rfl rfl rfl ?_
   refine s_eq 92 rfl (v' := .int .i64 (rnE (newF th va vo lk pl) es i)) (by rw [hrn]) ?_
   refine l_buildSlice rfl rfl rfl rfl (run_build1 (us := [_]) Try.underlying23 Try.sizeOf3 rfl Try.zeroValue3 rfl rfl rfl) ?_
   intro b93
   refine ag_nil ?_
   refine l_append (sz := 1) (enc := encZ) (xs := (mks (rnE (newF th va vo lk pl) es) i)) rfl rfl rfl rfl rfl Try.underlying23 Try.typeInfo3 rfl rfl rfl (by decide) Tk Tk (by exact mks_len _ _) (ys := [(rnE (newF th va vo lk pl) es i)]) (rds_some rdn_cells) (by rfl) (by first | rfl | omega) (encZ_len) (encZ_one) (by omega) (by show _ * 8 ≤ _; omega) ?_
   intro ao94 cp94
   refine ag_nil ?_
   refine q_nil_p rfl rfl rfl rfl ?_
   refine q_field (k := 1) rfl rfl rfl rfl Try.underlying88 rfl Try.sizeOf23 rfl ?_
   refine l_store (j := 1) rfl rfl rfl rfl Try.sizeOf23 (us := [_]) rfl rfl rfl Tk (by first | rfl | exact (Nat.add_zero _).symm) (by first | decide | (simp; done) | omega) ?_
   simp only [setL, List.set]
   refine ag_nil ?_
   refine r_done ?_
   refine s_keep [1, 6, 8, 9, 43, 44, 45, 60, 61, 62] (e' := [(1, _), (6, _), (8, _), (9, _), (43, _), (44, _), (45, _), (60, _), (61, _), (62, _)]) rfl ?_
   refine k_blk_n ?_
   refine k_then_n ?_
   refine c_plain (.q 0 (.q 1 (.q 2 (.done)))) (by kernel_rfl) ?_
   refine q_move rfl rfl rfl rfl ?_
   refine q_int rfl rfl rfl rfl rfl (b_add' _ (by exact fits_i64 (by omega) (by omega))) ?_
   refine q_assign rfl rfl rfl rfl ?_
   refine r_done ?_
   refine k_then_n ?_
   rw [← sN_next he_, ← take_next he_, mks_next]
   refine loop_next (x := (i, ga, gc, qa, qc)) ((i + 1, ao84, cp84, ao94, cp94)) ?_ ?_ ?_ ?_
   · try dsimp only
     exact ⟨by omega, allC_next hI he_ hc1⟩
   · show m - (i + 1) < m - i; omega
   · exact ⟨rfl, rfl, rfl, rfl, trivial⟩
   · (try simp only [List.cons_append, List.nil_append]); exact Tf
  ·
   refine c_skip ?_
   refine k_then_n ?_
   refine c_seq ?_
   refine c_seq ?_
   refine c_plain (.q 0 (.q 1 ((.l 2 [] (.q 3 (.q 4 (.q 5 (.q 6 (.q 7 (.done)))))))))) (by kernel_rfl) ?_
   refine q_move rfl rfl rfl rfl ?_
   refine q_loadN_c rfl rfl rfl rfl Try.isAgg36 Try.sizeOf36 Tk 0 (us := [_, _, _]) (by first | rfl | exact (Nat.add_zero _).symm) rfl rfl ?_
   have sp_7 := rcan_spec kqp kqc kq (sN (newF th va vo lk pl) es i) (sN_inv (new_inv hok) es i) e.1 e.2.1 e.2.2
   refine l_call rfl rfl rfl rfl rfl rfl Try.call38 (sp_7) Ts ?_
   rintro ⟨⟩ -
   try simp only [List.cons_append, List.nil_append]
   refine ag_nil ?_
   refine q_move rfl rfl rfl rfl ?_
   refine s_bool_p 59 rfl (fun hg => ?_) (fun hg => by exfalso; exact hg hc1)
   refine q_field (k := 0) rfl rfl rfl rfl Try.underlying36 rfl Try.sizeOf34 rfl ?_
   refine q_load_c (j := 0) rfl rfl rfl rfl Try.isAgg34 Tk (by first | rfl | exact (Nat.add_zero _).symm) (by rfl) ?_
   refine q_int rfl rfl rfl rfl rfl (b_eql _ _ _ _) ?_
   refine q_pick_t rfl rfl rfl rfl rfl ?_
   refine r_done ?_
   refine s_keep [1, 6, 8, 9, 10, 11, 43, 44, 45, 60, 61, 62, 63] (e' := [(1, _), (6, _), (8, _), (9, _), (10, _), (11, _), (43, _), (44, _), (45, _), (60, _), (61, _), (62, _), (63, _)]) rfl ?_
   refine k_then_n ?_
   refine c_cond_p rfl (fun k10 => ?_) (fun k10 => ?_)
   ·
    have hrn : (stF (sN (newF th va vo lk pl) es i) e.2.1).2.2 = rnE (newF th va vo lk pl) es i := by rw [rnE_at he_, rndT, if_neg k9, if_pos k10]
    refine c_seq ?_
    refine c_plain (.q 0 (.q 1 (.q 2 ((.l 3 [] (.q 4 (.q 5 (.q 6 ((.l 7 [] ((.l 8 [] (.q 9 (.done)))))))))))))) (by kernel_rfl) ?_
    refine q_move rfl rfl rfl rfl ?_
    refine q_field (k := 1) rfl rfl rfl rfl Try.underlying36 rfl Try.sizeOf3 rfl ?_
    refine q_load_c (j := 1) rfl rfl rfl rfl Try.isAgg3 Tk (by first | rfl | exact (Nat.add_zero _).symm) (by rfl) ?_
    have sp_8 := rstand_spec kqp kqc kq (sN (newF th va vo lk pl) es i) (sN_inv (new_inv hok) es i) e.2.1
    refine l_call rfl rfl rfl rfl rfl rfl Try.call40 (sp_8) Ts ?_
    rintro ⟨⟩ -
    try simp only [List.cons_append, List.nil_append]
    refine ag_nil ?_
    refine q_move rfl rfl rfl rfl ?_
    refine q_extract rfl rfl rfl rfl rfl ?_
    refine q_extract rfl rfl rfl rfl rfl ?_
    refine l_alloc rfl rfl rfl Try.zeroValue95 (zs := [.int .i64 0, .int .i64 0, .int .i64 0]) rfl ?_
    intro b14
    refine ag_nil ?_
    refine l_store (j := 0) rfl rfl rfl rfl Try.sizeOf95 (us := [_, _, _]) rfl rfl rfl Tk (by first | rfl | exact (Nat.add_zero _).symm) (by first | decide | (simp; done) | omega) ?_
    simp only [setL, List.set]
    refine ag_nil ?_
    refine q_assign rfl rfl rfl rfl ?_
    refine r_done ?_
    refine s_keep [1, 6, 8, 9, 10, 14, 43, 44, 45, 60, 61, 62] (e' := [(1, _), (6, _), (8, _), (9, _), (10, _), (14, _), (43, _), (44, _), (45, _), (60, _), (61, _), (62, _)]) rfl ?_
    refine k_then_n ?_
    refine c_plain (.q 0 (.q 1 (.q 2 (.done)))) (by kernel_rfl) ?_
    refine q_field (k := 2) rfl rfl rfl rfl Try.underlying95 rfl Try.sizeOf3 rfl ?_
    refine q_load_c (j := 2) rfl rfl rfl rfl Try.isAgg3 Tk (by first | rfl | exact (Nat.add_zero _).symm) (by rfl) ?_
    refine q_assign rfl rfl rfl rfl ?_
    refine r_done ?_
    refine k_then_n ?_
    refine c_seq ?_
    refine c_seq ?_
    refine c_plain (.q 0 (.q 1 ((.l 2 [] (.q 3 (.done)))))) (by kernel_rfl) ?_
    refine q_move rfl rfl rfl rfl ?_
    refine q_loadN_c rfl rfl rfl rfl Try.isAgg36 Try.sizeOf36 Tk 0 (us := [_, _, _]) (by first | rfl | exact (Nat.add_zero _).symm) rfl rfl ?_
    have sp_9 := rnext_spec kqp kqc kq (sN (newF th va vo lk pl) es i) (sN_inv (new_inv hok) es i) (by omega) pl (((sN_sh _ _ _).1)) e.1 e.2.1 e.2.2
    refine l_call rfl rfl rfl rfl rfl rfl Try.call41 (sp_9) Ts ?_
    rintro ⟨⟩ -
    try simp only [List.cons_append, List.nil_append]
    refine ag_nil ?_
    refine q_int rfl rfl rfl rfl rfl (b_neq _ _ _ _) ?_
    refine r_done ?_
    refine s_keep [1, 6, 8, 9, 10, 11, 43, 44, 45, 60, 61, 62, 76] (e' := [(1, _), (6, _), (8, _), (9, _), (10, _), (11, _), (43, _), (44, _), (45, _), (60, _), (61, _), (62, _), (76, _)]) rfl ?_
    refine k_then_n ?_
    refine c_cond_p rfl (fun hg => by exfalso; exact hg (if_pos hc1)) (fun hg => ?_)
    refine c_skip ?_
    refine k_then_n ?_
    refine c_seq ?_
    refine c_draw rfl (.q 0 (.q 1 (.q 2 (.q 3 (.q 4 (.q 5 ((.l 6 [4] ((.l 7 [] (.q 8 (.q 9 ((.l 10 [] (.done))))))))))))))) (by kernel_rfl) ?_
    refine q_move rfl rfl rfl rfl ?_
    refine q_move rfl rfl rfl rfl ?_
    refine q_nil_p rfl rfl rfl rfl ?_
    refine q_field (k := 0) rfl rfl rfl rfl Try.underlying88 rfl Try.sizeOf26 rfl ?_
    refine q_load_c (j := 0) rfl rfl rfl rfl Try.isAgg26 Tk (by first | rfl | exact (Nat.add_zero _).symm) (by rfl) ?_
    refine q_loadN_c rfl rfl rfl rfl Try.isAgg36 Try.sizeOf36 Tk 0 (us := [_, _, _]) (by first | rfl | exact (Nat.add_zero _).symm) rfl rfl ?_
    refine l_buildSlice rfl rfl rfl rfl (run_build1 (us := [_, _, _]) Try.underlying26 Try.sizeOf36 rfl Try.zeroValue36 rfl rfl rfl) ?_
    intro b83
    refine ag_load_c (q := 0) rfl rfl rfl Try.isAgg26 Tk (by first | rfl | exact (Nat.add_zero _).symm) (by rfl) ?_
    refine ag_nil ?_
    refine l_append (sz := 3) (enc := enc3) (xs := (es.take i)) rfl rfl rfl rfl rfl Try.underlying26 Try.typeInfo36 rfl rfl rfl (by decide) Tk Tk (by first | rfl | omega | (simp; done) | (simp; omega)) (ys := [(e.1, e.2.1, e.2.2)]) (rds_some rdn_cells) (by rfl) (by first | rfl | omega) (enc3_len) (enc3_one) (by omega) (by show _ * 24 ≤ _; omega) ?_
    intro ao84 cp84
    refine ag_nil ?_
    refine q_nil_p rfl rfl rfl rfl ?_
    refine q_field (k := 0) rfl rfl rfl rfl Try.underlying88 rfl Try.sizeOf26 rfl ?_
    refine l_store (j := 0) rfl rfl rfl rfl Try.sizeOf26 (us := [_]) rfl rfl rfl Tk (by first | rfl | exact (Nat.add_zero _).symm) (by first | decide | (simp; done) | omega) ?_
    simp only [setL, List.set]
    refine ag_nil ?_
    refine r_done ?_
    refine s_keep [1, 6, 8, 9, 11, 43, 44, 45, 60, 61, 62] (e' := [(1, _), (6, _), (8, _), (9, _), (11, _), (43, _), (44, _), (45, _), (60, _), (61, _), (62, _)]) rfl ?_
    refine k_then_n ?_
    refine c_plain (.q 0 (.q 1 (.q 2 (.q 3 (.q 4 (.q 5 ((.l 6 [] ((.l 7 [] (.q 8 (.q 9 ((.l 10 [] (.done))))))))))))))) (by kernel_rfl) ?_
    refine q_move rfl rfl rfl rfl ?_
    refine q_move rfl rfl rfl rfl ?_
    refine q_nil_p rfl rfl rfl rfl ?_
    refine q_field (k := 1) rfl rfl rfl rfl Try.underlying88 rfl Try.sizeOf23 rfl ?_
    refine q_load_c (j := 1) rfl rfl rfl rfl Try.isAgg23 Tk (by first | rfl | exact (Nat.add_zero _).symm) (by rfl) ?_
    refine q_move rfl rfl rfl rfl ?_
    refine s_eq 92 rfl (v' := .int .i64 (rnE (newF th va vo lk pl) es i)) (by rw [hrn]) ?_
    refine l_buildSlice rfl rfl rfl rfl (run_build1 (us := [_]) Try.underlying23 Try.sizeOf3 rfl Try.zeroValue3 rfl rfl rfl) ?_
    intro b93
    refine ag_nil ?_
    refine l_append (sz := 1) (enc := encZ) (xs := (mks (rnE (newF th va vo lk pl) es) i)) rfl rfl rfl rfl rfl Try.underlying23 Try.typeInfo3 rfl rfl rfl (by decide) Tk Tk (by exact mks_len _ _) (ys := [(rnE (newF th va vo lk pl) es i)]) (rds_some rdn_cells) (by rfl) (by first | rfl | omega) (encZ_len) (encZ_one) (by omega) (by show _ * 8 ≤ _; omega) ?_
    intro ao94 cp94
    refine ag_nil ?_
    refine q_nil_p rfl rfl rfl rfl ?_
    refine q_field (k := 1) rfl rfl rfl rfl Try.underlying88 rfl Try.sizeOf23 rfl ?_
    refine l_store (j := 1) rfl rfl rfl rfl Try.sizeOf23 (us := [_]) rfl rfl rfl Tk (by first | rfl | exact (Nat.add_zero _).symm) (by first | decide | (simp; done) | omega) ?_
    simp only [setL, List.set]
    refine ag_nil ?_
    refine r_done ?_
    refine s_keep [1, 6, 8, 9, 43, 44, 45, 60, 61, 62] (e' := [(1, _), (6, _), (8, _), (9, _), (43, _), (44, _), (45, _), (60, _), (61, _), (62, _)]) rfl ?_
    refine k_blk_n ?_
    refine k_then_n ?_
    refine c_plain (.q 0 (.q 1 (.q 2 (.done)))) (by kernel_rfl) ?_
    refine q_move rfl rfl rfl rfl ?_
    refine q_int rfl rfl rfl rfl rfl (b_add' _ (by exact fits_i64 (by omega) (by omega))) ?_
    refine q_assign rfl rfl rfl rfl ?_
    refine r_done ?_
    refine k_then_n ?_
    rw [← sN_next he_, ← take_next he_, mks_next]
    refine loop_next (x := (i, ga, gc, qa, qc)) ((i + 1, ao84, cp84, ao94, cp94)) ?_ ?_ ?_ ?_
    · try dsimp only
      exact ⟨by omega, allC_next hI he_ hc1⟩
    · show m - (i + 1) < m - i; omega
    · exact ⟨rfl, rfl, rfl, rfl, trivial⟩
    · (try simp only [List.cons_append, List.nil_append]); exact Tf
   ·
    have hrn : (0 : Int) = rnE (newF th va vo lk pl) es i := by rw [rnE_at he_, rndT, if_neg k9, if_neg k10]
    refine c_skip ?_
    refine k_then_n ?_
    refine c_seq ?_
    refine c_seq ?_
    refine c_plain (.q 0 (.q 1 ((.l 2 [] (.q 3 (.done)))))) (by kernel_rfl) ?_
    refine q_move rfl rfl rfl rfl ?_
    refine q_loadN_c rfl rfl rfl rfl Try.isAgg36 Try.sizeOf36 Tk 0 (us := [_, _, _]) (by first | rfl | exact (Nat.add_zero _).symm) rfl rfl ?_
    have sp_10 := rnext_spec kqp kqc kq (sN (newF th va vo lk pl) es i) (sN_inv (new_inv hok) es i) (by omega) pl (((sN_sh _ _ _).1)) e.1 e.2.1 e.2.2
    refine l_call rfl rfl rfl rfl rfl rfl Try.call41 (sp_10) Ts ?_
    rintro ⟨⟩ -
    try simp only [List.cons_append, List.nil_append]
    refine ag_nil ?_
    refine q_int rfl rfl rfl rfl rfl (b_neq _ _ _ _) ?_
    refine r_done ?_
    refine s_keep [1, 6, 8, 9, 10, 11, 43, 44, 45, 60, 61, 62, 76] (e' := [(1, _), (6, _), (8, _), (9, _), (10, _), (11, _), (43, _), (44, _), (45, _), (60, _), (61, _), (62, _), (76, _)]) rfl ?_
    refine k_then_n ?_
    refine c_cond_p rfl (fun hg => by exfalso; exact hg (if_pos hc1)) (fun hg => ?_)
    refine c_skip ?_
    refine k_then_n ?_
    refine c_seq ?_
    refine c_draw rfl (.q 0 (.q 1 (.q 2 (.q 3 (.q 4 (.q 5 ((.l 6 [4] ((.l 7 [] (.q 8 (.q 9 ((.l 10 [] (.done))))))))))))))) (by kernel_rfl) ?_
    refine q_move rfl rfl rfl rfl ?_
    refine q_move rfl rfl rfl rfl ?_
    refine q_nil_p rfl rfl rfl rfl ?_
    refine q_field (k := 0) rfl rfl rfl rfl Try.underlying88 rfl Try.sizeOf26 rfl ?_
    refine q_load_c (j := 0) rfl rfl rfl rfl Try.isAgg26 Tk (by first | rfl | exact (Nat.add_zero _).symm) (by rfl) ?_
    refine q_loadN_c rfl rfl rfl rfl Try.isAgg36 Try.sizeOf36 Tk 0 (us := [_, _, _]) (by first | rfl | exact (Nat.add_zero _).symm) rfl rfl ?_
    refine l_buildSlice rfl rfl rfl rfl (run_build1 (us := [_, _, _]) Try.underlying26 Try.sizeOf36 rfl Try.zeroValue36 rfl rfl rfl) ?_
    intro b83
    refine ag_load_c (q := 0) rfl rfl rfl Try.isAgg26 Tk (by first | rfl | exact (Nat.add_zero _).symm) (by rfl) ?_
    refine ag_nil ?_
    refine l_append (sz := 3) (enc := enc3) (xs := (es.take i)) rfl rfl rfl rfl rfl Try.underlying26 Try.typeInfo36 rfl rfl rfl (by decide) Tk Tk (by first | rfl | omega | (simp; done) | (simp; omega)) (ys := [(e.1, e.2.1, e.2.2)]) (rds_some rdn_cells) (by rfl) (by first | rfl | omega) (enc3_len) (enc3_one) (by omega) (by show _ * 24 ≤ _; omega) ?_
    intro ao84 cp84
    refine ag_nil ?_
    refine q_nil_p rfl rfl rfl rfl ?_
    refine q_field (k := 0) rfl rfl rfl rfl Try.underlying88 rfl Try.sizeOf26 rfl ?_
    refine l_store (j := 0) rfl rfl rfl rfl Try.sizeOf26 (us := [_]) rfl rfl rfl Tk (by first | rfl | exact (Nat.add_zero _).symm) (by first | decide | (simp; done) | omega) ?_
    simp only [setL, List.set]
    refine ag_nil ?_
    refine r_done ?_
    refine s_keep [1, 6, 8, 9, 11, 43, 44, 45, 60, 61, 62] (e' := [(1, _), (6, _), (8, _), (9, _), (11, _), (43, _), (44, _), (45, _), (60, _), (61, _), (62, _)]) rfl ?_
    refine k_then_n ?_
    refine c_plain (.q 0 (.q 1 (.q 2 (.q 3 (.q 4 (.q 5 ((.l 6 [] ((.l 7 [] (.q 8 (.q 9 ((.l 10 [] (.done))))))))))))))) (by kernel_rfl) ?_
    refine q_move rfl rfl rfl rfl ?_
    refine q_move rfl rfl rfl rfl ?_
    refine q_nil_p rfl rfl rfl rfl ?_
    refine q_field (k := 1) rfl rfl rfl rfl Try.underlying88 rfl Try.sizeOf23 rfl ?_
    refine q_load_c (j := 1) rfl rfl rfl rfl Try.isAgg23 Tk (by first | rfl | exact (Nat.add_zero _).symm) (by rfl) ?_
    refine q_move rfl rfl rfl rfl ?_
    refine s_eq 92 rfl (v' := .int .i64 (rnE (newF th va vo lk pl) es i)) (by rw [hrn]) ?_
    refine l_buildSlice rfl rfl rfl rfl (run_build1 (us := [_]) Try.underlying23 Try.sizeOf3 rfl Try.zeroValue3 rfl rfl rfl) ?_
    intro b93
    refine ag_nil ?_
    refine l_append (sz := 1) (enc := encZ) (xs := (mks (rnE (newF th va vo lk pl) es) i)) rfl rfl rfl rfl rfl Try.underlying23 Try.typeInfo3 rfl rfl rfl (by decide) Tk Tk (by exact mks_len _ _) (ys := [(rnE (newF th va vo lk pl) es i)]) (rds_some rdn_cells) (by rfl) (by first | rfl | omega) (encZ_len) (encZ_one) (by omega) (by show _ * 8 ≤ _; omega) ?_
    intro ao94 cp94
    refine ag_nil ?_
    refine q_nil_p rfl rfl rfl rfl ?_
    refine q_field (k := 1) rfl rfl rfl rfl Try.underlying88 rfl Try.sizeOf23 rfl ?_
    refine l_store (j := 1) rfl rfl rfl rfl Try.sizeOf23 (us := [_]) rfl rfl rfl Tk (by first | rfl | exact (Nat.add_zero _).symm) (by first | decide | (simp; done) | omega) ?_
    simp only [setL, List.set]
    refine ag_nil ?_
    refine r_done ?_
    refine s_keep [1, 6, 8, 9, 43, 44, 45, 60, 61, 62] (e' := [(1, _), (6, _), (8, _), (9, _), (43, _), (44, _), (45, _), (60, _), (61, _), (62, _)]) rfl ?_
    refine k_blk_n ?_
    refine k_then_n ?_
    refine c_plain (.q 0 (.q 1 (.q 2 (.done)))) (by kernel_rfl) ?_
    refine q_move rfl rfl rfl rfl ?_
    refine q_int rfl rfl rfl rfl rfl (b_add' _ (by exact fits_i64 (by omega) (by omega))) ?_
    refine q_assign rfl rfl rfl rfl ?_
    refine r_done ?_
    refine k_then_n ?_
    rw [← sN_next he_, ← take_next he_, mks_next]
    refine loop_next (x := (i, ga, gc, qa, qc)) ((i + 1, ao84, cp84, ao94, cp94)) ?_ ?_ ?_ ?_
    · try dsimp only
      exact ⟨by omega, allC_next hI he_ hc1⟩
    · show m - (i + 1) < m - i; omega
    · exact ⟨rfl, rfl, rfl, rfl, trivial⟩
    · (try simp only [List.cons_append, List.nil_append]); exact Tf
 ·
  obtain rfl : m = i := by omega
  refine c_exit ?_
  refine k_then_exit ?_
  refine k_then_exit ?_
  refine k_blk_here ?_
  refine k_then_n ?_
  refine c_seq ?_
  rw [List.take_of_length_le (show es.length ≤ m by omega)]
  refine c_plain (.q 0 ((.l 1 [] (.done)))) (by kernel_rfl) ?_
  refine q_move rfl rfl rfl rfl ?_
  have sp_11 := oclose_spec b28 m gc qc ga qa es (mks (rnE (newF th va vo lk pl) es) m) hem (mks_len _ _) (by omega)
  refine l_call rfl rfl rfl rfl rfl rfl Try.call42 (sp_11) Ts ?_
  rintro ⟨⟩ -
  try simp only [List.cons_append, List.nil_append]
  refine ag_nil ?_
  refine r_done ?_
  refine s_keep [8] (e' := [(8, _)]) rfl ?_
  refine k_then_n ?_
  refine c_seq ?_
  refine c_plain (.q 0 (.q 1 (.q 2 (.done)))) (by kernel_rfl) ?_
  refine q_move rfl rfl rfl rfl ?_
  refine q_assign rfl rfl rfl rfl ?_
  refine q_assign rfl rfl rfl rfl ?_
  refine r_done ?_
  refine k_then_n ?_
  refine c_ret ?_
  rw [show mks (rnE (newF th va vo lk pl) es) m = rnds (newF th va vo lk pl) es from by rw [rnds, hem]]
  refine ret2 rfl rfl rfl (b28) (by first | rfl | (first | rfl | (congr 1; done) | (congr 1 <;> first | rfl | omega | (simp; done) | (simp; omega)))) (by trivial) ?_
  exact Tf
theorem onewbad1_spec (th va vo lk : Int) (pl : List Int) (ao : Option Addr) (n c : Nat) (A : HProp) (hr : RdS A ao (pl.flatMap encZ)) (hn : pl.length = n) (hb : n ≤ 4000000) (es : List T3) (eo : Option Addr) (m ec : Nat) (he : RdS A eo (es.flatMap enc3)) (hem : es.length = m) (hmb : m ≤ 4000000) (hok : OkS th va vo lk pl) (hbad : ¬ (es.length ≤ 2048 ∧ allC (newF th va vo lk pl) es es.length)) : Spec Try.prog 14 [.agg #[.int .i64 th, .int .i64 va, .int .i64 vo, .int .i64 lk, .slice ao n c], .slice eo m ec] [A] (fun (r : Int) => .tuple #[.pointer none, .int .i64 r]) (fun r => r ≠ 0) (fun r => [A]) := by
 refine spec_mk (n := 100) Try.func14 rfl rfl rfl ?_
 intro Γ w0
 simp only [argE, List.cons_append, List.nil_append, Nat.zero_add, Nat.reduceAdd]
 refine c_seq ?_
 refine c_plain ((.l 0 [] (.q 1 (.q 2 (.done))))) (by kernel_rfl) ?_
 refine l_box rfl rfl rfl rfl (us := [_, _, _, _, _]) rfl ?_
 intro b2
 refine ag_nil ?_
 refine q_assign rfl rfl rfl rfl ?_
 refine q_assign rfl rfl rfl rfl ?_
 refine r_done ?_
 refine k_then_n ?_
 refine c_seq ?_
 refine c_seq ?_
 refine c_plain (.q 0 ((.l 1 [] (.q 2 (.done))))) (by kernel_rfl) ?_
 refine q_loadN_c rfl rfl rfl rfl Try.isAgg25 Try.sizeOf25 Tk 0 (us := [_, _, _, _, _]) (by first | rfl | exact (Nat.add_zero _).symm) rfl rfl ?_
 have sp_1 := rshape_spec th va vo lk pl ao n c A (hr) (by first | rfl | assumption | omega | (simp; done) | (simp; omega)) (by omega)
 refine l_call rfl rfl rfl rfl rfl rfl Try.call36 (sp_1) Ts ?_
 rintro ⟨⟩ -
 try simp only [List.cons_append, List.nil_append]
 refine ag_nil ?_
 refine s_eq 17 rfl (v' := .int .i64 0) (by rw [if_pos hok]) ?_
 refine q_int rfl rfl rfl rfl rfl (b_neq _ _ _ _) ?_
 refine s_eq 18 rfl (v' := .bool false) (by first | rfl | simp) ?_
 refine r_done ?_
 refine s_keep [1, 2, 18] (e' := [(1, _), (2, _), (18, _)]) rfl ?_
 refine k_then_n ?_
 refine c_cond_f rfl ?_
 refine c_skip ?_
 refine k_then_n ?_
 refine c_seq ?_
 refine c_seq ?_
 refine c_plain (.q 0 (.q 1 (.q 2 (.done)))) (by kernel_rfl) ?_
 refine q_move rfl rfl rfl rfl ?_
 refine q_len rfl rfl rfl rfl Try.underlying26 ?_
 refine q_int rfl rfl rfl rfl rfl (b_gtr _ _ _ _) ?_
 refine r_done ?_
 refine k_then_n ?_
 refine c_cond_p rfl (fun hlen => ?_) (fun hlen => ?_)
 ·
  refine c_seq ?_
  refine c_plain (.q 0 (.q 1 (.done))) (by kernel_rfl) ?_
  refine q_assign rfl rfl rfl rfl ?_
  refine q_assign rfl rfl rfl rfl ?_
  refine r_done ?_
  refine s_keep [4, 5] (e' := [(4, _), (5, _)]) rfl ?_
  refine k_then_n ?_
  refine c_ret ?_
  refine k_then_ret ?_
  refine ret2 rfl rfl rfl (3) (by first | rfl | (first | rfl | (congr 1; done) | (congr 1 <;> first | rfl | omega | (simp; done) | (simp; omega)))) (by decide) ?_
  exact Tf
 ·
  refine c_skip ?_
  refine k_then_n ?_
  refine c_seq ?_
  refine c_plain (.q 0 ((.l 1 [] (.q 2 (.q 3 (.q 4 (.q 5 (.q 6 (.done))))))))) (by kernel_rfl) ?_
  refine q_loadN_c rfl rfl rfl rfl Try.isAgg25 Try.sizeOf25 Tk 0 (us := [_, _, _, _, _]) (by first | rfl | exact (Nat.add_zero _).symm) rfl rfl ?_
  have sp_2 := rnew_spec th va vo lk pl ao n c A (hr) (by first | rfl | assumption | omega | (simp; done) | (simp; omega)) (by omega) hok
  refine l_call rfl rfl rfl rfl rfl rfl Try.call37 (sp_2) Ts ?_
  rintro ⟨kq, kqp, kqc⟩ -
  try simp only [List.cons_append, List.nil_append]
  refine ag_nil ?_
  refine q_move rfl rfl rfl rfl ?_
  refine q_extract rfl rfl rfl rfl rfl ?_
  refine q_extract rfl rfl rfl rfl rfl ?_
  refine q_assign rfl rfl rfl rfl ?_
  refine q_assign rfl rfl rfl rfl ?_
  refine r_done ?_
  refine s_keep [1, 6] (e' := [(1, _), (6, _)]) rfl ?_
  refine k_then_n ?_
  refine c_seq ?_
  refine c_plain (.q 0 ((.l 1 [] (.q 2 (.done))))) (by kernel_rfl) ?_
  refine q_build rfl rfl rfl rfl (vs := [_, _, _]) (run_buildS Try.underlying88 Try.zeroValue88 (ps := [(0, 1), (1, 1), (2, 1)]) ⟨rfl, Try.sizeOf26, rfl, Try.sizeOf23, rfl, Try.sizeOf86, trivial⟩ rfl) ?_
  refine l_box rfl rfl rfl rfl (us := [_, _, _]) rfl ?_
  intro b28
  refine ag_nil ?_
  refine q_assign rfl rfl rfl rfl ?_
  refine r_done ?_
  refine s_heap (fun _ h => own_nil (sz := 3) (enc := enc3) h) ?_
  refine s_heap (fun _ h => own_nil (sz := 1) (enc := encZ) h) ?_
  refine k_then_n ?_
  refine c_seq ?_
  refine c_seq ?_
  refine c_plain (.q 0 (.done)) (by kernel_rfl) ?_
  refine q_assign rfl rfl rfl rfl ?_
  refine r_done ?_
  refine k_then_n ?_
  refine c_block ?_
  refine c_loop2 (α := Nat × Option Addr × Nat × Option Addr × Nat) (fun (x_ : Nat × Option Addr × Nat × Option Addr × Nat) => match x_ with | (i, ga, gc, qa, qc) => i ≤ m ∧ (allC (newF th va vo lk pl) es i)) (fun (x_ : Nat × Option Addr × Nat × Option Addr × Nat) => match x_ with | (i, ga, gc, qa, qc) => [(9, .int .i64 ((i : Nat) : Int))]) (fun (x_ : Nat × Option Addr × Nat × Option Addr × Nat) => match x_ with | (i, ga, gc, qa, qc) => [rk kqp kqc kq (sN (newF th va vo lk pl) es i), own 1 encZ kqp kqc pl, cells b28 0 [.slice ga i gc, .slice qa i qc, .slice none 0 0], own 3 enc3 ga gc (es.take i), own 1 encZ qa qc (mks (rnE (newF th va vo lk pl) es) i)]) (fun (x_ : Nat × Option Addr × Nat × Option Addr × Nat) => match x_ with | (i, ga, gc, qa, qc) => m - i) [1, 6, 8] (er := [(1, _), (6, _), (8, _)]) rfl (0, none, 0, none, 0) ?_ (by exact ⟨rfl, trivial⟩) (by (try dsimp only); rw [sN_zero]; (repeat ((with_reducible apply Z2); focus (first | (with_reducible (repeat (first | exact Z0 | apply Z1)); done) | (repeat (first | exact Z0 | apply Z1))))); exact Z3) ?_
  · exact ⟨Nat.zero_le _, allC_zero _ _⟩
  rintro ⟨i, ga, gc, qa, qc⟩ ⟨hle_i, hI⟩
  try simp only [List.cons_append, List.nil_append]
  have hsn := (sN_n (newF th va vo lk pl) es i).2
  have hz0 : (newF th va vo lk pl).n = 0 := rfl
  refine c_seq ?_
  refine c_seq ?_
  refine c_plain (.q 0 (.q 1 (.q 2 (.q 3 (.done))))) (by kernel_rfl) ?_
  refine q_move rfl rfl rfl rfl ?_
  refine q_move rfl rfl rfl rfl ?_
  refine q_len rfl rfl rfl rfl Try.underlying26 ?_
  refine q_int rfl rfl rfl rfl rfl (b_lss _ _ _ _) ?_
  refine r_done ?_
  refine k_then_n ?_
  refine c_cond_p rfl (fun hlt => ?_) (fun hlt => ?_)
  ·
   obtain ⟨e, he_⟩ := get_lt (l := es) (i := i) (by omega)
   refine c_skip ?_
   refine k_then_n ?_
   refine c_seq ?_
   refine c_block ?_
   refine c_seq ?_
   refine c_plain (.q 0 (.q 1 (.q 2 (.q 3 ((.l 4 [] ((.l 5 [] (.done))))))))) (by kernel_rfl) ?_
   refine q_move rfl rfl rfl rfl ?_
   refine q_move rfl rfl rfl rfl ?_
   refine q_idxR (sz := 2) (k := i) rfl rfl rfl rfl rfl Try.underlying26 Try.sizeOf36 (he) he_ enc3_len (by first | rfl | omega) (by omega) ?_
   intro ib37 io37 _ hd37
   refine q_loadN (vs := [_, _, _]) rfl rfl rfl rfl Try.isAgg36 Try.sizeOf36 Tk (hd37) rfl ?_
   refine l_alloc rfl rfl rfl Try.zeroValue36 (zs := [.int .i64 0, .int .i64 0, .int .i64 0]) rfl ?_
   intro b10
   refine ag_nil ?_
   refine l_store (j := 0) rfl rfl rfl rfl Try.sizeOf36 (us := [_, _, _]) rfl rfl rfl Tk (by first | rfl | exact (Nat.add_zero _).symm) (by first | decide | (simp; done) | omega) ?_
   simp only [setL, List.set]
   refine ag_nil ?_
   refine r_done ?_
   refine s_keep [1, 6, 8, 9, 10] (e' := [(1, _), (6, _), (8, _), (9, _), (10, _)]) rfl ?_
   refine k_then_n ?_
   refine c_seq ?_
   refine c_plain (.q 0 (.done)) (by kernel_rfl) ?_
   refine q_assign rfl rfl rfl rfl ?_
   refine r_done ?_
   refine k_then_n ?_
   refine c_seq ?_
   refine c_seq ?_
   refine c_plain (.q 0 (.q 1 ((.l 2 [] (.q 3 (.q 4 (.q 5 (.q 6 (.q 7 (.done)))))))))) (by kernel_rfl) ?_
   refine q_move rfl rfl rfl rfl ?_
   refine q_loadN_c rfl rfl rfl rfl Try.isAgg36 Try.sizeOf36 Tk 0 (us := [_, _, _]) (by first | rfl | exact (Nat.add_zero _).symm) rfl rfl ?_
   have sp_3 := rcan_spec kqp kqc kq (sN (newF th va vo lk pl) es i) (sN_inv (new_inv hok) es i) e.1 e.2.1 e.2.2
   refine l_call rfl rfl rfl rfl rfl rfl Try.call38 (sp_3) Ts ?_
   rintro ⟨⟩ -
   try simp only [List.cons_append, List.nil_append]
   refine ag_nil ?_
   refine q_move rfl rfl rfl rfl ?_
   refine s_bool_p 42 rfl (fun hc1 => ?_) (fun hc1 => ?_)
   ·
    refine q_field (k := 0) rfl rfl rfl rfl Try.underlying36 rfl Try.sizeOf34 rfl ?_
    refine q_load_c (j := 0) rfl rfl rfl rfl Try.isAgg34 Tk (by first | rfl | exact (Nat.add_zero _).symm) (by rfl) ?_
    refine q_int rfl rfl rfl rfl rfl (b_eql _ _ _ _) ?_
    refine q_pick_t rfl rfl rfl rfl rfl ?_
    refine r_done ?_
    refine s_keep [1, 6, 8, 9, 10, 11, 43, 44, 45, 46] (e' := [(1, _), (6, _), (8, _), (9, _), (10, _), (11, _), (43, _), (44, _), (45, _), (46, _)]) rfl ?_
    refine k_then_n ?_
    refine c_cond_p rfl (fun k9 => ?_) (fun k9 => ?_)
    ·
     have hyes : 0 ≤ e.2.2 ∧ e.2.2 < ((sN (newF th va vo lk pl) es i).B.length : Int) := by
       obtain ⟨p0, p1, -⟩ := (can_obj (sN_inv (new_inv hok) es i) hc1).2.2.1 k9
       exact ⟨p0, by omega⟩
     have hrn : (opF (sN (newF th va vo lk pl) es i) e.2.2).1 = rnE (newF th va vo lk pl) es i := by rw [rnE_at he_, rndT, if_pos k9]
     refine c_seq ?_
     refine c_plain (.q 0 (.q 1 (.q 2 ((.l 3 [] (.q 4 (.q 5 (.q 6 ((.l 7 [] ((.l 8 [] (.q 9 (.done)))))))))))))) (by kernel_rfl) ?_
     refine q_move rfl rfl rfl rfl ?_
     refine q_field (k := 2) rfl rfl rfl rfl Try.underlying36 rfl Try.sizeOf3 rfl ?_
     refine q_load_c (j := 2) rfl rfl rfl rfl Try.isAgg3 Tk (by first | rfl | exact (Nat.add_zero _).symm) (by rfl) ?_
     have sp_4 := rround_spec kqp kqc kq (sN (newF th va vo lk pl) es i) e.2.2
     refine l_call rfl rfl rfl rfl rfl rfl Try.call39 (sp_4) Ts ?_
     rintro ⟨⟩ -
     try simp only [List.cons_append, List.nil_append]
     refine ag_nil ?_
     refine s_eq 51 rfl (v' := .tuple #[.agg #[.int .i64 ((opF (sN (newF th va vo lk pl) es i) e.2.2).1), .int .i64 ((opF (sN (newF th va vo lk pl) es i) e.2.2).2)], .int .i64 0]) (by rw [if_pos hyes, if_pos hyes]) ?_
     refine q_move rfl rfl rfl rfl ?_
     refine q_extract rfl rfl rfl rfl rfl ?_
     refine q_extract rfl rfl rfl rfl rfl ?_
     refine l_alloc rfl rfl rfl Try.zeroValue90 (zs := [.int .i64 0, .int .i64 0]) rfl ?_
     intro b12
     refine ag_nil ?_
     refine l_store (j := 0) rfl rfl rfl rfl Try.sizeOf90 (us := [_, _]) rfl rfl rfl Tk (by first | rfl | exact (Nat.add_zero _).symm) (by first | decide | (simp; done) | omega) ?_
     simp only [setL, List.set]
     refine ag_nil ?_
     refine q_assign rfl rfl rfl rfl ?_
     refine r_done ?_
     refine s_keep [1, 6, 8, 9, 10, 12, 43, 44, 45] (e' := [(1, _), (6, _), (8, _), (9, _), (10, _), (12, _), (43, _), (44, _), (45, _)]) rfl ?_
     refine k_then_n ?_
     refine c_plain (.q 0 (.q 1 (.q 2 (.done)))) (by kernel_rfl) ?_
     refine q_field (k := 0) rfl rfl rfl rfl Try.underlying90 rfl Try.sizeOf3 rfl ?_
     refine q_load_c (j := 0) rfl rfl rfl rfl Try.isAgg3 Tk (by first | rfl | exact (Nat.add_zero _).symm) (by rfl) ?_
     refine q_assign rfl rfl rfl rfl ?_
     refine r_done ?_
     refine k_then_n ?_
     refine c_seq ?_
     refine c_seq ?_
     refine c_plain (.q 0 (.q 1 ((.l 2 [] (.q 3 (.q 4 (.q 5 (.q 6 (.q 7 (.done)))))))))) (by kernel_rfl) ?_
     refine q_move rfl rfl rfl rfl ?_
     refine q_loadN_c rfl rfl rfl rfl Try.isAgg36 Try.sizeOf36 Tk 0 (us := [_, _, _]) (by first | rfl | exact (Nat.add_zero _).symm) rfl rfl ?_
     have sp_5 := rcan_spec kqp kqc kq (sN (newF th va vo lk pl) es i) (sN_inv (new_inv hok) es i) e.1 e.2.1 e.2.2
     refine l_call rfl rfl rfl rfl rfl rfl Try.call38 (sp_5) Ts ?_
     rintro ⟨⟩ -
     try simp only [List.cons_append, List.nil_append]
     refine ag_nil ?_
     refine q_move rfl rfl rfl rfl ?_
     refine s_bool_p 59 rfl (fun hg => ?_) (fun hg => by exfalso; exact hg hc1)
     refine q_field (k := 0) rfl rfl rfl rfl Try.underlying36 rfl Try.sizeOf34 rfl ?_
     refine q_load_c (j := 0) rfl rfl rfl rfl Try.isAgg34 Tk (by first | rfl | exact (Nat.add_zero _).symm) (by rfl) ?_
     refine q_int rfl rfl rfl rfl rfl (b_eql _ _ _ _) ?_
     refine q_pick_t rfl rfl rfl rfl rfl ?_
     refine r_done ?_
     refine s_keep [1, 6, 8, 9, 10, 11, 43, 44, 45, 60, 61, 62, 63] (e' := [(1, _), (6, _), (8, _), (9, _), (10, _), (11, _), (43, _), (44, _), (45, _), (60, _), (61, _), (62, _), (63, _)]) rfl ?_
     refine k_then_n ?_
     refine c_cond_p rfl (fun hg => by exfalso; omega) (fun hg => ?_)
     refine c_skip ?_
     refine k_then_n ?_
     refine c_seq ?_
     refine c_seq ?_
     refine c_plain (.q 0 (.q 1 ((.l 2 [] (.q 3 (.done)))))) (by kernel_rfl) ?_
     refine q_move rfl rfl rfl rfl ?_
     refine q_loadN_c rfl rfl rfl rfl Try.isAgg36 Try.sizeOf36 Tk 0 (us := [_, _, _]) (by first | rfl | exact (Nat.add_zero _).symm) rfl rfl ?_
     have sp_6 := rnext_spec kqp kqc kq (sN (newF th va vo lk pl) es i) (sN_inv (new_inv hok) es i) (by omega) pl (((sN_sh _ _ _).1)) e.1 e.2.1 e.2.2
     refine l_call rfl rfl rfl rfl rfl rfl Try.call41 (sp_6) Ts ?_
     rintro ⟨⟩ -
     try simp only [List.cons_append, List.nil_append]
     refine ag_nil ?_
     refine q_int rfl rfl rfl rfl rfl (b_neq _ _ _ _) ?_
     refine r_done ?_
     refine s_keep [1, 6, 8, 9, 10, 11, 43, 44, 45, 60, 61, 62, 76] (e' := [(1, _), (6, _), (8, _), (9, _), (10, _), (11, _), (43, _), (44, _), (45, _), (60, _), (61, _), (62, _), (76, _)]) rfl ?_
     refine k_then_n ?_
     refine c_cond_p rfl (fun hg => by exfalso; exact hg (if_pos hc1)) (fun hg => ?_)
     refine c_skip ?_
     refine k_then_n ?_
     refine c_seq ?_
     refine c_draw rfl (.q 0 (.q 1 (.q 2 (.q 3 (.q 4 (.q 5 ((.l 6 [4] ((.l 7 [] (.q 8 (.q 9 ((.l 10 [] (.done))))))))))))))) (by kernel_rfl) ?_
     refine q_move rfl rfl rfl rfl ?_
     refine q_move rfl rfl rfl rfl ?_
     refine q_nil_p rfl rfl rfl rfl ?_
     refine q_field (k := 0) rfl rfl rfl rfl Try.underlying88 rfl Try.sizeOf26 rfl ?_
     refine q_load_c (j := 0) rfl rfl rfl rfl Try.isAgg26 Tk (by first | rfl | exact (Nat.add_zero _).symm) (by rfl) ?_
     refine q_loadN_c rfl rfl rfl rfl Try.isAgg36 Try.sizeOf36 Tk 0 (us := [_, _, _]) (by first | rfl | exact (Nat.add_zero _).symm) rfl rfl ?_
     refine l_buildSlice rfl rfl rfl rfl (run_build1 (us := [_, _, _]) Try.underlying26 Try.sizeOf36 rfl Try.zeroValue36 rfl rfl rfl) ?_
     intro b83
     refine ag_load_c (q := 0) rfl rfl rfl Try.isAgg26 Tk (by first | rfl | exact (Nat.add_zero _).symm) (by rfl) ?_
     refine ag_nil ?_
     refine l_append (sz := 3) (enc := enc3) (xs := (es.take i)) rfl rfl rfl rfl rfl Try.underlying26 Try.typeInfo36 rfl rfl rfl (by decide) Tk Tk (by first | rfl | omega | (simp; done) | (simp; omega)) (ys := [(e.1, e.2.1, e.2.2)]) (rds_some rdn_cells) (by rfl) (by first | rfl | omega) (enc3_len) (enc3_one) (by omega) (by show _ * 24 ≤ _; omega) ?_
     intro ao84 cp84
     refine ag_nil ?_
     refine q_nil_p rfl rfl rfl rfl ?_
     refine q_field (k := 0) rfl rfl rfl rfl Try.underlying88 rfl Try.sizeOf26 rfl ?_
     refine l_store (j := 0) rfl rfl rfl rfl Try.sizeOf26 (us := [_]) rfl rfl rfl Tk (by first | rfl | exact (Nat.add_zero _).symm) (by first | decide | (simp; done) | omega) ?_
     simp only [setL, List.set]
     refine ag_nil ?_
     refine r_done ?_
     refine s_keep [1, 6, 8, 9, 11, 43, 44, 45, 60, 61, 62] (e' := [(1, _), (6, _), (8, _), (9, _), (11, _), (43, _), (44, _), (45, _), (60, _), (61, _), (62, _)]) rfl ?_
     refine k_then_n ?_
     refine c_plain (.q 0 (.q 1 (.q 2 (.q 3 (.q 4 (.q 5 ((.l 6 [] ((.l 7 [] (.q 8 (.q 9 ((.l 10 [] (.done))))))))))))))) (by kernel_rfl) ?_
     refine q_move rfl rfl rfl rfl ?_
     refine q_move rfl rfl rfl rfl ?_
     refine q_nil_p rfl rfl rfl rfl ?_
     refine q_field (k := 1) rfl rfl rfl rfl Try.underlying88 rfl Try.sizeOf23 rfl ?_
     refine q_load_c (j := 1) rfl rfl rfl rfl Try.isAgg23 Tk (by first | rfl | exact (Nat.add_zero _).symm) (by rfl) ?_
     refine q_move rfl rfl rfl rfl ?_
     refine s_eq 92 rfl (v' := .int .i64 (rnE (newF th va vo lk pl) es i)) (by rw [hrn]) ?_
     refine l_buildSlice rfl rfl rfl rfl (run_build1 (us := [_]) Try.underlying23 Try.sizeOf3 rfl Try.zeroValue3 rfl rfl rfl) ?_
     intro b93
     refine ag_nil ?_
     refine l_append (sz := 1) (enc := encZ) (xs := (mks (rnE (newF th va vo lk pl) es) i)) rfl rfl rfl rfl rfl Try.underlying23 Try.typeInfo3 rfl rfl rfl (by decide) Tk Tk (by exact mks_len _ _) (ys := [(rnE (newF th va vo lk pl) es i)]) (rds_some rdn_cells) (by rfl) (by first | rfl | omega) (encZ_len) (encZ_one) (by omega) (by show _ * 8 ≤ _; omega) ?_
     intro ao94 cp94
     refine ag_nil ?_
     refine q_nil_p rfl rfl rfl rfl ?_
     refine q_field (k := 1) rfl rfl rfl rfl Try.underlying88 rfl Try.sizeOf23 rfl ?_
     refine l_store (j := 1) rfl rfl rfl rfl Try.sizeOf23 (us := [_]) rfl rfl rfl Tk (by first | rfl | exact (Nat.add_zero _).symm) (by first | decide | (simp; done) | omega) ?_
     simp only [setL, List.set]
     refine ag_nil ?_
     refine r_done ?_
     refine s_keep [1, 6, 8, 9, 43, 44, 45, 60, 61, 62] (e' := [(1, _), (6, _), (8, _), (9, _), (43, _), (44, _), (45, _), (60, _), (61, _), (62, _)]) rfl ?_
     refine k_blk_n ?_
     refine k_then_n ?_
     refine c_plain (.q 0 (.q 1 (.q 2 (.done)))) (by kernel_rfl) ?_
     refine q_move rfl rfl rfl rfl ?_
     refine q_int rfl rfl rfl rfl rfl (b_add' _ (by exact fits_i64 (by omega) (by omega))) ?_
     refine q_assign rfl rfl rfl rfl ?_
     refine r_done ?_
     refine k_then_n ?_
     rw [← sN_next he_, ← take_next he_, mks_next]
     refine loop_next (x := (i, ga, gc, qa, qc)) ((i + 1, ao84, cp84, ao94, cp94)) ?_ ?_ ?_ ?_
     · try dsimp only
       exact ⟨by omega, allC_next hI he_ hc1⟩
     · show m - (i + 1) < m - i; omega
     · exact ⟨rfl, rfl, rfl, rfl, trivial⟩
     · (try simp only [List.cons_append, List.nil_append]); exact Tf
    ·
     refine c_skip ?_
     refine k_then_n ?_
     refine c_seq ?_
     refine c_seq ?_
     refine c_plain (.q 0 (.q 1 ((.l 2 [] (.q 3 (.q 4 (.q 5 (.q 6 (.q 7 (.done)))))))))) (by kernel_rfl) ?_
     refine q_move rfl rfl rfl rfl ?_
     refine q_loadN_c rfl rfl rfl rfl Try.isAgg36 Try.sizeOf36 Tk 0 (us := [_, _, _]) (by first | rfl | exact (Nat.add_zero _).symm) rfl rfl ?_
     have sp_7 := rcan_spec kqp kqc kq (sN (newF th va vo lk pl) es i) (sN_inv (new_inv hok) es i) e.1 e.2.1 e.2.2
     refine l_call rfl rfl rfl rfl rfl rfl Try.call38 (sp_7) Ts ?_
     rintro ⟨⟩ -
     try simp only [List.cons_append, List.nil_append]
     refine ag_nil ?_
     refine q_move rfl rfl rfl rfl ?_
     refine s_bool_p 59 rfl (fun hg => ?_) (fun hg => by exfalso; exact hg hc1)
     refine q_field (k := 0) rfl rfl rfl rfl Try.underlying36 rfl Try.sizeOf34 rfl ?_
     refine q_load_c (j := 0) rfl rfl rfl rfl Try.isAgg34 Tk (by first | rfl | exact (Nat.add_zero _).symm) (by rfl) ?_
     refine q_int rfl rfl rfl rfl rfl (b_eql _ _ _ _) ?_
     refine q_pick_t rfl rfl rfl rfl rfl ?_
     refine r_done ?_
     refine s_keep [1, 6, 8, 9, 10, 11, 43, 44, 45, 60, 61, 62, 63] (e' := [(1, _), (6, _), (8, _), (9, _), (10, _), (11, _), (43, _), (44, _), (45, _), (60, _), (61, _), (62, _), (63, _)]) rfl ?_
     refine k_then_n ?_
     refine c_cond_p rfl (fun k10 => ?_) (fun k10 => ?_)
     ·
      have hrn : (stF (sN (newF th va vo lk pl) es i) e.2.1).2.2 = rnE (newF th va vo lk pl) es i := by rw [rnE_at he_, rndT, if_neg k9, if_pos k10]
      refine c_seq ?_
      refine c_plain (.q 0 (.q 1 (.q 2 ((.l 3 [] (.q 4 (.q 5 (.q 6 ((.l 7 [] ((.l 8 [] (.q 9 (.done)))))))))))))) (by kernel_rfl) ?_
      refine q_move rfl rfl rfl rfl ?_
      refine q_field (k := 1) rfl rfl rfl rfl Try.underlying36 rfl Try.sizeOf3 rfl ?_
      refine q_load_c (j := 1) rfl rfl rfl rfl Try.isAgg3 Tk (by first | rfl | exact (Nat.add_zero _).symm) (by rfl) ?_
      have sp_8 := rstand_spec kqp kqc kq (sN (newF th va vo lk pl) es i) (sN_inv (new_inv hok) es i) e.2.1
      refine l_call rfl rfl rfl rfl rfl rfl Try.call40 (sp_8) Ts ?_
      rintro ⟨⟩ -
      try simp only [List.cons_append, List.nil_append]
      refine ag_nil ?_
      refine q_move rfl rfl rfl rfl ?_
      refine q_extract rfl rfl rfl rfl rfl ?_
      refine q_extract rfl rfl rfl rfl rfl ?_
      refine l_alloc rfl rfl rfl Try.zeroValue95 (zs := [.int .i64 0, .int .i64 0, .int .i64 0]) rfl ?_
      intro b14
      refine ag_nil ?_
      refine l_store (j := 0) rfl rfl rfl rfl Try.sizeOf95 (us := [_, _, _]) rfl rfl rfl Tk (by first | rfl | exact (Nat.add_zero _).symm) (by first | decide | (simp; done) | omega) ?_
      simp only [setL, List.set]
      refine ag_nil ?_
      refine q_assign rfl rfl rfl rfl ?_
      refine r_done ?_
      refine s_keep [1, 6, 8, 9, 10, 14, 43, 44, 45, 60, 61, 62] (e' := [(1, _), (6, _), (8, _), (9, _), (10, _), (14, _), (43, _), (44, _), (45, _), (60, _), (61, _), (62, _)]) rfl ?_
      refine k_then_n ?_
      refine c_plain (.q 0 (.q 1 (.q 2 (.done)))) (by kernel_rfl) ?_
      refine q_field (k := 2) rfl rfl rfl rfl Try.underlying95 rfl Try.sizeOf3 rfl ?_
      refine q_load_c (j := 2) rfl rfl rfl rfl Try.isAgg3 Tk (by first | rfl | exact (Nat.add_zero _).symm) (by rfl) ?_
      refine q_assign rfl rfl rfl rfl ?_
      refine r_done ?_
      refine k_then_n ?_
      refine c_seq ?_
      refine c_seq ?_
      refine c_plain (.q 0 (.q 1 ((.l 2 [] (.q 3 (.done)))))) (by kernel_rfl) ?_
      refine q_move rfl rfl rfl rfl ?_
      refine q_loadN_c rfl rfl rfl rfl Try.isAgg36 Try.sizeOf36 Tk 0 (us := [_, _, _]) (by first | rfl | exact (Nat.add_zero _).symm) rfl rfl ?_
      have sp_9 := rnext_spec kqp kqc kq (sN (newF th va vo lk pl) es i) (sN_inv (new_inv hok) es i) (by omega) pl (((sN_sh _ _ _).1)) e.1 e.2.1 e.2.2
      refine l_call rfl rfl rfl rfl rfl rfl Try.call41 (sp_9) Ts ?_
      rintro ⟨⟩ -
      try simp only [List.cons_append, List.nil_append]
      refine ag_nil ?_
      refine q_int rfl rfl rfl rfl rfl (b_neq _ _ _ _) ?_
      refine r_done ?_
      refine s_keep [1, 6, 8, 9, 10, 11, 43, 44, 45, 60, 61, 62, 76] (e' := [(1, _), (6, _), (8, _), (9, _), (10, _), (11, _), (43, _), (44, _), (45, _), (60, _), (61, _), (62, _), (76, _)]) rfl ?_
      refine k_then_n ?_
      refine c_cond_p rfl (fun hg => by exfalso; exact hg (if_pos hc1)) (fun hg => ?_)
      refine c_skip ?_
      refine k_then_n ?_
      refine c_seq ?_
      refine c_draw rfl (.q 0 (.q 1 (.q 2 (.q 3 (.q 4 (.q 5 ((.l 6 [4] ((.l 7 [] (.q 8 (.q 9 ((.l 10 [] (.done))))))))))))))) (by kernel_rfl) ?_
      refine q_move rfl rfl rfl rfl ?_
      refine q_move rfl rfl rfl rfl ?_
      refine q_nil_p rfl rfl rfl rfl ?_
      refine q_field (k := 0) rfl rfl rfl rfl Try.underlying88 rfl Try.sizeOf26 rfl ?_
      refine q_load_c (j := 0) rfl rfl rfl rfl Try.isAgg26 Tk (by first | rfl | exact (Nat.add_zero _).symm) (by rfl) ?_
      refine q_loadN_c rfl rfl rfl rfl Try.isAgg36 Try.sizeOf36 Tk 0 (us := [_, _, _]) (by first | rfl | exact (Nat.add_zero _).symm) rfl rfl ?_
      refine l_buildSlice rfl rfl rfl rfl (run_build1 (us := [_, _, _]) Try.underlying26 Try.sizeOf36 rfl Try.zeroValue36 rfl rfl rfl) ?_
      intro b83
      refine ag_load_c (q := 0) rfl rfl rfl Try.isAgg26 Tk (by first | rfl | exact (Nat.add_zero _).symm) (by rfl) ?_
      refine ag_nil ?_
      refine l_append (sz := 3) (enc := enc3) (xs := (es.take i)) rfl rfl rfl rfl rfl Try.underlying26 Try.typeInfo36 rfl rfl rfl (by decide) Tk Tk (by first | rfl | omega | (simp; done) | (simp; omega)) (ys := [(e.1, e.2.1, e.2.2)]) (rds_some rdn_cells) (by rfl) (by first | rfl | omega) (enc3_len) (enc3_one) (by omega) (by show _ * 24 ≤ _; omega) ?_
      intro ao84 cp84
      refine ag_nil ?_
      refine q_nil_p rfl rfl rfl rfl ?_
      refine q_field (k := 0) rfl rfl rfl rfl Try.underlying88 rfl Try.sizeOf26 rfl ?_
      refine l_store (j := 0) rfl rfl rfl rfl Try.sizeOf26 (us := [_]) rfl rfl rfl Tk (by first | rfl | exact (Nat.add_zero _).symm) (by first | decide | (simp; done) | omega) ?_
      simp only [setL, List.set]
      refine ag_nil ?_
      refine r_done ?_
      refine s_keep [1, 6, 8, 9, 11, 43, 44, 45, 60, 61, 62] (e' := [(1, _), (6, _), (8, _), (9, _), (11, _), (43, _), (44, _), (45, _), (60, _), (61, _), (62, _)]) rfl ?_
      refine k_then_n ?_
      refine c_plain (.q 0 (.q 1 (.q 2 (.q 3 (.q 4 (.q 5 ((.l 6 [] ((.l 7 [] (.q 8 (.q 9 ((.l 10 [] (.done))))))))))))))) (by kernel_rfl) ?_
      refine q_move rfl rfl rfl rfl ?_
      refine q_move rfl rfl rfl rfl ?_
      refine q_nil_p rfl rfl rfl rfl ?_
      refine q_field (k := 1) rfl rfl rfl rfl Try.underlying88 rfl Try.sizeOf23 rfl ?_
      refine q_load_c (j := 1) rfl rfl rfl rfl Try.isAgg23 Tk (by first | rfl | exact (Nat.add_zero _).symm) (by rfl) ?_
      refine q_move rfl rfl rfl rfl ?_
      refine s_eq 92 rfl (v' := .int .i64 (rnE (newF th va vo lk pl) es i)) (by rw [hrn]) ?_
      refine l_buildSlice rfl rfl rfl rfl (run_build1 (us := [_]) Try.underlying23 Try.sizeOf3 rfl Try.zeroValue3 rfl rfl rfl) ?_
      intro b93
      refine ag_nil ?_
      refine l_append (sz := 1) (enc := encZ) (xs := (mks (rnE (newF th va vo lk pl) es) i)) rfl rfl rfl rfl rfl Try.underlying23 Try.typeInfo3 rfl rfl rfl (by decide) Tk Tk (by exact mks_len _ _) (ys := [(rnE (newF th va vo lk pl) es i)]) (rds_some rdn_cells) (by rfl) (by first | rfl | omega) (encZ_len) (encZ_one) (by omega) (by show _ * 8 ≤ _; omega) ?_
      intro ao94 cp94
      refine ag_nil ?_
      refine q_nil_p rfl rfl rfl rfl ?_
      refine q_field (k := 1) rfl rfl rfl rfl Try.underlying88 rfl Try.sizeOf23 rfl ?_
      refine l_store (j := 1) rfl rfl rfl rfl Try.sizeOf23 (us := [_]) rfl rfl rfl Tk (by first | rfl | exact (Nat.add_zero _).symm) (by first | decide | (simp; done) | omega) ?_
      simp only [setL, List.set]
      refine ag_nil ?_
      refine r_done ?_
      refine s_keep [1, 6, 8, 9, 43, 44, 45, 60, 61, 62] (e' := [(1, _), (6, _), (8, _), (9, _), (43, _), (44, _), (45, _), (60, _), (61, _), (62, _)]) rfl ?_
      refine k_blk_n ?_
      refine k_then_n ?_
      refine c_plain (.q 0 (.q 1 (.q 2 (.done)))) (by kernel_rfl) ?_
      refine q_move rfl rfl rfl rfl ?_
      refine q_int rfl rfl rfl rfl rfl (b_add' _ (by exact fits_i64 (by omega) (by omega))) ?_
      refine q_assign rfl rfl rfl rfl ?_
      refine r_done ?_
      refine k_then_n ?_
      rw [← sN_next he_, ← take_next he_, mks_next]
      refine loop_next (x := (i, ga, gc, qa, qc)) ((i + 1, ao84, cp84, ao94, cp94)) ?_ ?_ ?_ ?_
      · try dsimp only
        exact ⟨by omega, allC_next hI he_ hc1⟩
      · show m - (i + 1) < m - i; omega
      · exact ⟨rfl, rfl, rfl, rfl, trivial⟩
      · (try simp only [List.cons_append, List.nil_append]); exact Tf
     ·
      have hrn : (0 : Int) = rnE (newF th va vo lk pl) es i := by rw [rnE_at he_, rndT, if_neg k9, if_neg k10]
      refine c_skip ?_
      refine k_then_n ?_
      refine c_seq ?_
      refine c_seq ?_
      refine c_plain (.q 0 (.q 1 ((.l 2 [] (.q 3 (.done)))))) (by kernel_rfl) ?_
      refine q_move rfl rfl rfl rfl ?_
      refine q_loadN_c rfl rfl rfl rfl Try.isAgg36 Try.sizeOf36 Tk 0 (us := [_, _, _]) (by first | rfl | exact (Nat.add_zero _).symm) rfl rfl ?_
      have sp_10 := rnext_spec kqp kqc kq (sN (newF th va vo lk pl) es i) (sN_inv (new_inv hok) es i) (by omega) pl (((sN_sh _ _ _).1)) e.1 e.2.1 e.2.2
      refine l_call rfl rfl rfl rfl rfl rfl Try.call41 (sp_10) Ts ?_
      rintro ⟨⟩ -
      try simp only [List.cons_append, List.nil_append]
      refine ag_nil ?_
      refine q_int rfl rfl rfl rfl rfl (b_neq _ _ _ _) ?_
      refine r_done ?_
      refine s_keep [1, 6, 8, 9, 10, 11, 43, 44, 45, 60, 61, 62, 76] (e' := [(1, _), (6, _), (8, _), (9, _), (10, _), (11, _), (43, _), (44, _), (45, _), (60, _), (61, _), (62, _), (76, _)]) rfl ?_
      refine k_then_n ?_
      refine c_cond_p rfl (fun hg => by exfalso; exact hg (if_pos hc1)) (fun hg => ?_)
      refine c_skip ?_
      refine k_then_n ?_
      refine c_seq ?_
      refine c_draw rfl (.q 0 (.q 1 (.q 2 (.q 3 (.q 4 (.q 5 ((.l 6 [4] ((.l 7 [] (.q 8 (.q 9 ((.l 10 [] (.done))))))))))))))) (by kernel_rfl) ?_
      refine q_move rfl rfl rfl rfl ?_
      refine q_move rfl rfl rfl rfl ?_
      refine q_nil_p rfl rfl rfl rfl ?_
      refine q_field (k := 0) rfl rfl rfl rfl Try.underlying88 rfl Try.sizeOf26 rfl ?_
      refine q_load_c (j := 0) rfl rfl rfl rfl Try.isAgg26 Tk (by first | rfl | exact (Nat.add_zero _).symm) (by rfl) ?_
      refine q_loadN_c rfl rfl rfl rfl Try.isAgg36 Try.sizeOf36 Tk 0 (us := [_, _, _]) (by first | rfl | exact (Nat.add_zero _).symm) rfl rfl ?_
      refine l_buildSlice rfl rfl rfl rfl (run_build1 (us := [_, _, _]) Try.underlying26 Try.sizeOf36 rfl Try.zeroValue36 rfl rfl rfl) ?_
      intro b83
      refine ag_load_c (q := 0) rfl rfl rfl Try.isAgg26 Tk (by first | rfl | exact (Nat.add_zero _).symm) (by rfl) ?_
      refine ag_nil ?_
      refine l_append (sz := 3) (enc := enc3) (xs := (es.take i)) rfl rfl rfl rfl rfl Try.underlying26 Try.typeInfo36 rfl rfl rfl (by decide) Tk Tk (by first | rfl | omega | (simp; done) | (simp; omega)) (ys := [(e.1, e.2.1, e.2.2)]) (rds_some rdn_cells) (by rfl) (by first | rfl | omega) (enc3_len) (enc3_one) (by omega) (by show _ * 24 ≤ _; omega) ?_
      intro ao84 cp84
      refine ag_nil ?_
      refine q_nil_p rfl rfl rfl rfl ?_
      refine q_field (k := 0) rfl rfl rfl rfl Try.underlying88 rfl Try.sizeOf26 rfl ?_
      refine l_store (j := 0) rfl rfl rfl rfl Try.sizeOf26 (us := [_]) rfl rfl rfl Tk (by first | rfl | exact (Nat.add_zero _).symm) (by first | decide | (simp; done) | omega) ?_
      simp only [setL, List.set]
      refine ag_nil ?_
      refine r_done ?_
      refine s_keep [1, 6, 8, 9, 11, 43, 44, 45, 60, 61, 62] (e' := [(1, _), (6, _), (8, _), (9, _), (11, _), (43, _), (44, _), (45, _), (60, _), (61, _), (62, _)]) rfl ?_
      refine k_then_n ?_
      refine c_plain (.q 0 (.q 1 (.q 2 (.q 3 (.q 4 (.q 5 ((.l 6 [] ((.l 7 [] (.q 8 (.q 9 ((.l 10 [] (.done))))))))))))))) (by kernel_rfl) ?_
      refine q_move rfl rfl rfl rfl ?_
      refine q_move rfl rfl rfl rfl ?_
      refine q_nil_p rfl rfl rfl rfl ?_
      refine q_field (k := 1) rfl rfl rfl rfl Try.underlying88 rfl Try.sizeOf23 rfl ?_
      refine q_load_c (j := 1) rfl rfl rfl rfl Try.isAgg23 Tk (by first | rfl | exact (Nat.add_zero _).symm) (by rfl) ?_
      refine q_move rfl rfl rfl rfl ?_
      refine s_eq 92 rfl (v' := .int .i64 (rnE (newF th va vo lk pl) es i)) (by rw [hrn]) ?_
      refine l_buildSlice rfl rfl rfl rfl (run_build1 (us := [_]) Try.underlying23 Try.sizeOf3 rfl Try.zeroValue3 rfl rfl rfl) ?_
      intro b93
      refine ag_nil ?_
      refine l_append (sz := 1) (enc := encZ) (xs := (mks (rnE (newF th va vo lk pl) es) i)) rfl rfl rfl rfl rfl Try.underlying23 Try.typeInfo3 rfl rfl rfl (by decide) Tk Tk (by exact mks_len _ _) (ys := [(rnE (newF th va vo lk pl) es i)]) (rds_some rdn_cells) (by rfl) (by first | rfl | omega) (encZ_len) (encZ_one) (by omega) (by show _ * 8 ≤ _; omega) ?_
      intro ao94 cp94
      refine ag_nil ?_
      refine q_nil_p rfl rfl rfl rfl ?_
      refine q_field (k := 1) rfl rfl rfl rfl Try.underlying88 rfl Try.sizeOf23 rfl ?_
      refine l_store (j := 1) rfl rfl rfl rfl Try.sizeOf23 (us := [_]) rfl rfl rfl Tk (by first | rfl | exact (Nat.add_zero _).symm) (by first | decide | (simp; done) | omega) ?_
      simp only [setL, List.set]
      refine ag_nil ?_
      refine r_done ?_
      refine s_keep [1, 6, 8, 9, 43, 44, 45, 60, 61, 62] (e' := [(1, _), (6, _), (8, _), (9, _), (43, _), (44, _), (45, _), (60, _), (61, _), (62, _)]) rfl ?_
      refine k_blk_n ?_
      refine k_then_n ?_
      refine c_plain (.q 0 (.q 1 (.q 2 (.done)))) (by kernel_rfl) ?_
      refine q_move rfl rfl rfl rfl ?_
      refine q_int rfl rfl rfl rfl rfl (b_add' _ (by exact fits_i64 (by omega) (by omega))) ?_
      refine q_assign rfl rfl rfl rfl ?_
      refine r_done ?_
      refine k_then_n ?_
      rw [← sN_next he_, ← take_next he_, mks_next]
      refine loop_next (x := (i, ga, gc, qa, qc)) ((i + 1, ao84, cp84, ao94, cp94)) ?_ ?_ ?_ ?_
      · try dsimp only
        exact ⟨by omega, allC_next hI he_ hc1⟩
      · show m - (i + 1) < m - i; omega
      · exact ⟨rfl, rfl, rfl, rfl, trivial⟩
      · (try simp only [List.cons_append, List.nil_append]); exact Tf
   ·
    refine q_skip rfl rfl rfl rfl ?_
    refine q_skip rfl rfl rfl rfl ?_
    refine q_skip rfl rfl rfl rfl ?_
    refine q_pick_f rfl rfl rfl rfl rfl ?_
    refine r_done ?_
    refine s_keep [1, 6, 8, 9, 10, 11, 43, 44, 45, 46] (e' := [(1, _), (6, _), (8, _), (9, _), (10, _), (11, _), (43, _), (44, _), (45, _), (46, _)]) rfl ?_
    refine k_then_n ?_
    refine c_cond_f rfl ?_
    refine c_skip ?_
    refine k_then_n ?_
    refine c_seq ?_
    refine c_seq ?_
    refine c_plain (.q 0 (.q 1 ((.l 2 [] (.q 3 (.q 4 (.q 5 (.q 6 (.q 7 (.done)))))))))) (by kernel_rfl) ?_
    refine q_move rfl rfl rfl rfl ?_
    refine q_loadN_c rfl rfl rfl rfl Try.isAgg36 Try.sizeOf36 Tk 0 (us := [_, _, _]) (by first | rfl | exact (Nat.add_zero _).symm) rfl rfl ?_
    have sp_11 := rcan_spec kqp kqc kq (sN (newF th va vo lk pl) es i) (sN_inv (new_inv hok) es i) e.1 e.2.1 e.2.2
    refine l_call rfl rfl rfl rfl rfl rfl Try.call38 (sp_11) Ts ?_
    rintro ⟨⟩ -
    try simp only [List.cons_append, List.nil_append]
    refine ag_nil ?_
    refine q_move rfl rfl rfl rfl ?_
    refine s_bool_p 59 rfl (fun hg => by exfalso; exact hc1 hg) (fun hg => ?_)
    refine q_skip rfl rfl rfl rfl ?_
    refine q_skip rfl rfl rfl rfl ?_
    refine q_skip rfl rfl rfl rfl ?_
    refine q_pick_f rfl rfl rfl rfl rfl ?_
    refine r_done ?_
    refine s_keep [1, 6, 8, 9, 10, 11, 43, 44, 45, 60, 61, 62, 63] (e' := [(1, _), (6, _), (8, _), (9, _), (10, _), (11, _), (43, _), (44, _), (45, _), (60, _), (61, _), (62, _), (63, _)]) rfl ?_
    refine k_then_n ?_
    refine c_cond_f rfl ?_
    refine c_skip ?_
    refine k_then_n ?_
    refine c_seq ?_
    refine c_seq ?_
    refine c_plain (.q 0 (.q 1 ((.l 2 [] (.q 3 (.done)))))) (by kernel_rfl) ?_
    refine q_move rfl rfl rfl rfl ?_
    refine q_loadN_c rfl rfl rfl rfl Try.isAgg36 Try.sizeOf36 Tk 0 (us := [_, _, _]) (by first | rfl | exact (Nat.add_zero _).symm) rfl rfl ?_
    have sp_12 := rnext_spec kqp kqc kq (sN (newF th va vo lk pl) es i) (sN_inv (new_inv hok) es i) (by omega) pl (((sN_sh _ _ _).1)) e.1 e.2.1 e.2.2
    refine l_call rfl rfl rfl rfl rfl rfl Try.call41 (sp_12) Ts ?_
    rintro ⟨⟩ -
    try simp only [List.cons_append, List.nil_append]
    refine ag_nil ?_
    refine q_int rfl rfl rfl rfl rfl (b_neq _ _ _ _) ?_
    refine r_done ?_
    refine s_keep [1, 6, 8, 9, 10, 11, 43, 44, 45, 60, 61, 62, 76] (e' := [(1, _), (6, _), (8, _), (9, _), (10, _), (11, _), (43, _), (44, _), (45, _), (60, _), (61, _), (62, _), (76, _)]) rfl ?_
    refine k_then_n ?_
    refine c_cond_p rfl (fun hg => ?_) (fun hg => by exfalso; rw [nxE, if_neg hc1] at hg; exact hg (by decide))
    refine c_seq ?_
    refine c_plain (.q 0 (.q 1 (.done))) (by kernel_rfl) ?_
    refine q_assign rfl rfl rfl rfl ?_
    refine q_assign rfl rfl rfl rfl ?_
    refine r_done ?_
    refine s_keep [4, 5] (e' := [(4, _), (5, _)]) rfl ?_
    refine k_then_n ?_
    refine c_ret ?_
    refine k_then_ret ?_
    refine k_blk_ret ?_
    refine k_then_ret ?_
    refine k_then_ret ?_
    refine k_blk_ret ?_
    refine k_then_ret ?_
    refine ret2 rfl rfl rfl (6) (by first | rfl | (first | rfl | (congr 1; done) | (congr 1 <;> first | rfl | omega | (simp; done) | (simp; omega)))) (by decide) ?_
    exact Tf
  ·
   obtain rfl : m = i := by omega
   exact absurd ⟨by omega, by rw [hem]; exact hI⟩ hbad --closed
theorem onewbad2_spec (th va vo lk : Int) (pl : List Int) (ao : Option Addr) (n c : Nat) (A : HProp) (hr : RdS A ao (pl.flatMap encZ)) (hn : pl.length = n) (hb : n ≤ 4000000) (es : List T3) (eo : Option Addr) (m ec : Nat) (he : RdS A eo (es.flatMap enc3)) (hem : es.length = m) (hmb : m ≤ 4000000) (hok : ¬ OkS th va vo lk pl) : Spec Try.prog 14 [.agg #[.int .i64 th, .int .i64 va, .int .i64 vo, .int .i64 lk, .slice ao n c], .slice eo m ec] [A] (fun (r : Int) => .tuple #[.pointer none, .int .i64 r]) (fun r => r ≠ 0) (fun r => [A]) := by
 refine spec_mk (n := 100) Try.func14 rfl rfl rfl ?_
 intro Γ w0
 simp only [argE, List.cons_append, List.nil_append, Nat.zero_add, Nat.reduceAdd]
 refine c_seq ?_
 refine c_plain ((.l 0 [] (.q 1 (.q 2 (.done))))) (by kernel_rfl) ?_
 refine l_box rfl rfl rfl rfl (us := [_, _, _, _, _]) rfl ?_
 intro b2
 refine ag_nil ?_
 refine q_assign rfl rfl rfl rfl ?_
 refine q_assign rfl rfl rfl rfl ?_
 refine r_done ?_
 refine k_then_n ?_
 refine c_seq ?_
 refine c_seq ?_
 refine c_plain (.q 0 ((.l 1 [] (.q 2 (.done))))) (by kernel_rfl) ?_
 refine q_loadN_c rfl rfl rfl rfl Try.isAgg25 Try.sizeOf25 Tk 0 (us := [_, _, _, _, _]) (by first | rfl | exact (Nat.add_zero _).symm) rfl rfl ?_
 have sp_1 := rshape_spec th va vo lk pl ao n c A (hr) (by first | rfl | assumption | omega | (simp; done) | (simp; omega)) (by omega)
 refine l_call rfl rfl rfl rfl rfl rfl Try.call36 (sp_1) Ts ?_
 rintro ⟨⟩ -
 try simp only [List.cons_append, List.nil_append]
 refine ag_nil ?_
 refine s_eq 17 rfl (v' := .int .i64 5) (by rw [if_neg hok]) ?_
 refine q_int rfl rfl rfl rfl rfl (b_neq _ _ _ _) ?_
 refine s_eq 18 rfl (v' := .bool true) (by first | rfl | simp) ?_
 refine r_done ?_
 refine s_keep [1, 2, 18] (e' := [(1, _), (2, _), (18, _)]) rfl ?_
 refine k_then_n ?_
 refine c_cond_t rfl ?_
 refine c_seq ?_
 refine c_plain (.q 0 (.q 1 (.done))) (by kernel_rfl) ?_
 refine q_assign rfl rfl rfl rfl ?_
 refine q_assign rfl rfl rfl rfl ?_
 refine r_done ?_
 refine k_then_n ?_
 refine c_ret ?_
 refine k_then_ret ?_
 refine ret2 rfl rfl rfl (5) (by first | rfl | (first | rfl | (congr 1; done) | (congr 1 <;> first | rfl | omega | (simp; done) | (simp; omega)))) (by decide) ?_
 exact Tf
end Go.Ab.Ord
set_option linter.unusedVariables false
set_option linter.unusedSimpArgs false
set_option maxRecDepth 100000
namespace Go.Ab.DjB
open Go Go.Proofs Go.Ab Go.Ab.Fe Go.Ab.Vc Go.Ab.Dj
/-- All clocks are at most one more than there are events. -/
structure BInv (x : VS) : Prop where
  inv : VInv x
  th : ∀ t l, x.th t = some l → ∀ i : Nat, l.getD i 0 ≤ x.ck.n + 1
  lk : ∀ t l, x.lk t = some l → ∀ i : Nat, l.getD i 0 ≤ x.ck.n + 1
  vo : ∀ t l, x.vo t = some l → ∀ i : Nat, l.getD i 0 ≤ x.ck.n + 1
  rd : ∀ r p, x.rd r = some p → ∀ i : Nat, p.1.getD i 0 ≤ x.ck.n + 1
theorem b_can {x : VS} (hx : BInv x) (hn : x.ck.n ≤ 4000000) {k t o : Int} : vcanF x k t o ↔ canF x.ck k t o := by
  refine ⟨fun h => h.1, fun h => ⟨h, fun _ => ?_⟩⟩
  obtain ⟨l, hth⟩ := th_some hx.inv (can_th h)
  have := hx.th _ _ hth t.toNat
  rw [thF_eq hth]; simp only [maxC]; omega
theorem mg_le {m : Option (List Int)} {l : List Int} {B : Int} (hl : CV l) (h : ∀ q, m = some q → CV q) (i : Nat) (h1 : l.getD i 0 ≤ B) (h2 : ∀ q, m = some q → q.getD i 0 ≤ B) : (mgF m l).getD i 0 ≤ B := by
  cases m with
  | none => exact h1
  | some q => show (jn l q).getD i 0 ≤ _; rw [jn_g hl (h q rfl)]; have := h2 q rfl; omega
theorem vn_n {x : VS} {k t o : Int} (h : canF x.ck k t o) : (vnF x k t o).ck.n = x.ck.n + 1 := by
  rw [vn_ck]
  obtain ⟨n5, n6, n7, n9, n10, n11, nn⟩ := nxF_k h
  by_cases k5 : k = 5
  · rw [n5 k5]
  by_cases k6 : k = 6
  · rw [n6 k6]
  by_cases k7 : k = 7
  · rw [n7 k7]
  by_cases k9 : k = 9
  · rw [n9 k9]
  by_cases k10 : k = 10
  · rw [n10 k10]
  by_cases k11 : k = 11
  · rw [n11 k11]
  rw [nn k5 k6 k7 k9 k10 k11]
theorem b_next {x : VS} (hx : BInv x) {k t o : Int} (hvc : vcanF x k t o) : BInv (vnF x k t o) := by
  obtain ⟨l, hth⟩ := th_some hx.inv (can_th hvc.1)
  have hi := hx.inv
  have hl := hi.thc _ _ hth
  have hlt := thF_eq hth
  have hlb := hx.th _ _ hth
  have hnn := vn_n hvc.1
  obtain ⟨o5, o7, o9, o10, o11⟩ := can_obj hi.ck hvc.1
  have hic : ∀ i : Nat, (icL l t.toNat).getD i 0 ≤ x.ck.n + 1 + 1 := fun i => by
    rw [icL_g]; split
    · have := hlb t.toNat; omega
    · have := hlb i; omega
  refine ⟨next_vinv hi hvc, ?_, ?_, ?_, ?_⟩
  · intro u q h i
    rw [hnn]
    have key : ∀ {L : List Int}, (∀ i : Nat, L.getD i 0 ≤ x.ck.n + 1 + 1) → upd x.th t (some L) u = some q → q.getD i 0 ≤ x.ck.n + 1 + 1 := fun hL h => by
      rcases upd_some h with ⟨-, h⟩ | ⟨-, h⟩
      · cases h; exact hL i
      · have := hx.th _ _ h i; omega
    have up : ∀ {a : Int}, a ≤ x.ck.n + 1 → a ≤ x.ck.n + 1 + 1 := fun h => by omega
    by_cases k5 : k = 5
    · rw [vn5 hth k5] at h; exact key (fun i => up (mg_le hl (hi.lkc _) i (hlb i) fun q hq => hx.lk _ _ hq i)) h
    by_cases k3 : k = 3
    · rw [vn3 hth k3] at h; exact key (fun i => up (mg_le hl (hi.voc _) i (hlb i) fun q hq => hx.vo _ _ hq i)) h
    by_cases k8 : k = 8
    · rw [vn8 hth k8] at h; exact key (fun i => up (mg_le hl (hi.thc _) i (hlb i) fun q hq => hx.th _ _ hq i)) h
    by_cases k10 : k = 10
    · rw [vn10 hth k10] at h
      obtain ⟨p, hp, -⟩ := rd_some hi (o10 k10).1 (o10 k10).2.2
      refine key (fun i => ?_) h
      rw [hlt, rdF, hp]
      show (jn l p.1).getD i 0 ≤ _
      rw [jn_g hl (hi.rdc _ _ hp)]
      have h1 := hlb i
      have h2 := hx.rd _ _ hp i
      omega
    by_cases k6 : k = 6
    · rw [vn6 hth k6] at h; exact key hic h
    by_cases k4 : k = 4
    · rw [vn4 hth k4] at h; exact key hic h
    by_cases k9 : k = 9
    · rw [vn9 hth k9] at h; exact key hic h
    by_cases k7 : k = 7
    · rw [vn7 hth k7] at h
      rcases upd_some h with ⟨-, h⟩ | ⟨-, h⟩
      · cases h; exact hic i
      · rcases upd_some h with ⟨-, h⟩ | ⟨-, h⟩
        · cases h
          rw [stL_g]
          have h0 := hi.ck.n0
          split
          · omega
          · have := hlb i; omega
        · have := hx.th _ _ h i; omega
    rw [vn0 k5 k3 k8 k10 k6 k4 k9 k7] at h
    have := hx.th _ _ h i; omega
  · intro u q h i
    rw [hnn]
    by_cases k6 : k = 6
    · rw [vn6 hth k6] at h
      rcases upd_some h with ⟨-, h⟩ | ⟨-, h⟩
      · cases h; have := hlb i; omega
      · have := hx.lk _ _ h i; omega
    have e : (vnF x k t o).lk = x.lk := by
      unfold vnF
      rw [if_neg k6]
      repeat (split; · rfl)
      rfl
    rw [e] at h; have := hx.lk _ _ h i; omega
  · intro u q h i
    rw [hnn]
    by_cases k4 : k = 4
    · rw [vn4 hth k4] at h
      rcases upd_some h with ⟨-, h⟩ | ⟨-, h⟩
      · cases h; have := mg_le hl (hi.voc o) i (hlb i) (fun q hq => hx.vo o _ hq i); omega
      · have := hx.vo _ _ h i; omega
    have e : (vnF x k t o).vo = x.vo := by
      unfold vnF
      rw [if_neg k4]
      repeat (split; · rfl)
      rfl
    rw [e] at h; have := hx.vo _ _ h i; omega
  · intro r p h i
    rw [hnn]
    rw [vn_rd] at h
    split at h
    · rename_i k10
      rcases upd_some h with ⟨-, h⟩ | ⟨-, h⟩
      · obtain ⟨p2, hp, -⟩ := rd_some hi (o10 k10).1 (o10 k10).2.2
        split at h
        · cases h
        · cases h
          show (rdF x (rdK x t o)).1.getD i 0 ≤ _
          rw [rdK, rdF, hp]
          have := hx.rd _ _ hp i
          show p2.1.getD i 0 ≤ _; omega
      · have := hx.rd _ _ h i; omega
    · split at h
      · rcases upd_some h with ⟨-, h⟩ | ⟨-, h⟩
        · cases h
          show (mgF _ _).getD i 0 ≤ _
          rw [hlt]
          have := mg_le (m := (x.rd (o, (opF x.ck o).1)).map (·.1)) hl (fun q hq => map_fst_cv hi hq) i (hlb i) (fun q hq => by
            cases hr : x.rd (o, (opF x.ck o).1) with
            | none => rw [hr] at hq; cases hq
            | some p => rw [hr] at hq; cases hq; exact hx.rd _ _ hr i)
          omega
        · have := hx.rd _ _ h i; omega
      · have := hx.rd _ _ h i; omega
end Go.Ab.DjB
set_option linter.unusedVariables false
set_option linter.unusedSimpArgs false
set_option maxRecDepth 100000
namespace Go.Ab.DjO
open Go Go.Proofs Go.Ab Go.Ab.Fe Go.Ab.Vc Go.Ab.Ord Go.Ab.Dj Go.Ab.DjB
/-- Vectors behind events. -/
def vEv (x : VS) (e : T3) : VS := if vcanF x e.1 e.2.1 e.2.2 then vnF x e.1 e.2.1 e.2.2 else x
def vN (x : VS) (es : List T3) (i : Nat) : VS := (es.take i).foldl vEv x
theorem vN_next {x : VS} {es : List T3} {i : Nat} {e : T3} (h : es[i]? = some e) : vN x es (i + 1) = vEv (vN x es i) e := by
  unfold vN; rw [take_next h, List.foldl_append]; rfl
theorem vN_app {x : VS} {es fs : List T3} {i : Nat} (h : i ≤ es.length) : vN x (es ++ fs) i = vN x es i := by
  unfold vN; rw [List.take_append_of_le_length h]
/-- A list's entry, zero where there is none. -/
def eZ (l : List Int) (z : Int) : Int := if z < 0 then 0 else l.getD z.toNat 0
theorem eZ_nn {l : List Int} {z : Int} (h : 0 ≤ z) : eZ l z = l.getD z.toNat 0 := if_neg (by omega)
/-- The clock ahead of event i. -/
def clkF (x : VS) (es : List T3) (i : Nat) : Int := eZ (thF (vN x es i) (thrE es i)) (thrE es i)
theorem vnew_b {th va vo lk : Int} {pl : List Int} (hok : OkS th va vo lk pl) : BInv (vNew th va vo lk pl) := by
  refine ⟨new_vinv hok (new_inv hok), fun t l h i => ?_, fun t l h => (by cases h), fun t l h => (by cases h), fun r p h => (by cases h)⟩
  rcases upd_some (show upd noF 0 (some [1]) t = some l from h) with ⟨-, h⟩ | ⟨-, h⟩
  · cases h
    show ([1] : List Int).getD i 0 ≤ 0 + 1
    rcases i with _ | i <;> simp
  · cases h
theorem vnew_th {th va vo lk : Int} {pl : List Int} (t : Int) : thF (vNew th va vo lk pl) t = if t = 0 then [1] else [] := by
  show (upd noF 0 (some [1]) t).getD [] = _
  unfold upd; split <;> rfl
theorem vnew_st {th va vo lk : Int} {pl : List Int} (hok : OkS th va vo lk pl) (t : Int) : (stF (newF th va vo lk pl) t).1 = if t = 0 then 1 else 0 := by
  have h := (new_vinv hok (new_inv hok)).th t
  have h2 := (rel_new hok).st t
  rw [← h2]
  unfold upd noF
  split <;> rfl
/-- Behind no event. -/
theorem h_new {th va vo lk : Int} {pl : List Int} (hok : OkS th va vo lk pl) (es : List T3) (R : Nat → Int) (c : Nat → Int) : HInv es R c 0 (vNew th va vo lk pl) := by
  have hi := new_vinv hok (new_inv hok)
  have hst := vnew_st hok
  have hk : ∀ X i, ¬ Kno es R 0 X i := fun X i h => absurd h.lt (Nat.not_lt_zero _)
  have hz : ∀ X u, X ≠ eT 0 → VV (vNew th va vo lk pl) X u = 0 := fun X u hX => by
    have : ve (vNew th va vo lk pl) X = [] := by
      unfold ve
      split
      · rename_i h
        rw [vnew_th, if_neg (fun e => hX (by rw [h, e]))]
      split
      · rfl
      split
      · rfl
      split
      · rfl
      rfl
    rw [VV, this]; simp
  have h0 : ∀ u, 0 ≤ u → VV (vNew th va vo lk pl) (eT 0) u = if u = 0 then 1 else 0 := fun u hu => by
    rw [VV, ve_th, vnew_th, if_pos rfl]
    by_cases e : u = 0
    · subst e; rfl
    · rw [if_neg e]
      obtain ⟨k, hk⟩ : ∃ k, u.toNat = k + 1 := ⟨u.toNat - 1, by omega⟩
      rw [hk]; rfl
  refine ⟨hi, ⟨fun X i h => absurd h (Nat.not_lt_zero _), fun X u hu hX => ?_, fun X u hu => ?_, fun i h => absurd h (Nat.not_lt_zero _), fun X u => VV_nn hi X u, fun i h => absurd h (Nat.not_lt_zero _), fun u hu => ?_⟩, fun i e h => absurd h (Nat.not_lt_zero _), fun o t _ i h => absurd h (hk _ _), fun j e h => absurd h (Nat.not_lt_zero _), fun r h => (by cases h), fun u h => ?_, fun j0 j e0 e h => absurd h (Nat.not_lt_zero _)⟩
  · have hu0 : u = 0 := by
      unfold runV at hu
      rw [show (vNew th va vo lk pl).ck = newF th va vo lk pl from rfl, hst] at hu
      by_cases e : u = 0
      · exact e
      · rw [if_neg e] at hu; omega
    subst hu0
    rw [hz X 0 hX, h0 0 (Int.le_refl _), if_pos rfl]; decide
  · by_cases e : X = eT 0
    · subst e
      by_cases e2 : u = 0
      · subst e2; exact Int.le_refl _
      · rw [h0 u hu, if_neg e2]; exact VV_nn hi _ _
    · rw [hz X u e]; exact VV_nn hi _ _
  · unfold runV at hu
    rw [show (vNew th va vo lk pl).ck = newF th va vo lk pl from rfl, hst] at hu
    by_cases e : u = 0
    · omega
    · rw [if_neg e] at hu; omega
  · rw [show (vNew th va vo lk pl).ck = newF th va vo lk pl from rfl, hst] at h
    split at h <;> omega
/-- Behind the first i events of a list that can be. -/
theorem h_all {th va vo lk : Int} {pl : List Int} (hok : OkS th va vo lk pl) {es : List T3} (hl : es.length ≤ 1000000) (hall : allC (newF th va vo lk pl) es es.length) :
    ∀ i, i ≤ es.length → BInv (vN (vNew th va vo lk pl) es i) ∧ (vN (vNew th va vo lk pl) es i).ck = sN (newF th va vo lk pl) es i ∧ (sN (newF th va vo lk pl) es i).n ≤ i ∧
      HInv es (rf (rnds (newF th va vo lk pl) es)) (clkF (vNew th va vo lk pl) es) i (vN (vNew th va vo lk pl) es i)
  | 0, _ => ⟨vnew_b hok, rfl, Int.le_refl _, h_new hok _ _ _⟩
  | i + 1, hi => by
    obtain ⟨hb, hck, hn, hh⟩ := h_all hok hl hall i (by omega)
    obtain ⟨e, he⟩ := get_lt (l := es) (i := i) (by omega)
    have hc := hall i e (by omega) he
    have hv : vcanF (vN (vNew th va vo lk pl) es i) e.1 e.2.1 e.2.2 := (b_can hb (by rw [hck]; omega)).2 (by rw [hck]; exact hc)
    have hnx : vN (vNew th va vo lk pl) es (i + 1) = vnF (vN (vNew th va vo lk pl) es i) e.1 e.2.1 e.2.2 := by rw [vN_next he, vEv, if_pos hv]
    have hsx : sN (newF th va vo lk pl) es (i + 1) = nxF (sN (newF th va vo lk pl) es i) e.1 e.2.1 e.2.2 := sN_next he
    have hR : rf (rnds (newF th va vo lk pl) es) i = rndT (sN (newF th va vo lk pl) es i) e := by
      rw [rf_at (by rw [rnds]; exact mks_get _ (by omega)), rnE_at he]
    obtain ⟨t0, -⟩ := th_rng hb.inv (can_th hv.1)
    refine ⟨by rw [hnx]; exact b_next hb hv, by rw [hnx, vn_ck, hck, hsx], ?_, ?_⟩
    · have h1 := vn_n hv.1
      rw [vn_ck, hck, ← hsx] at h1
      omega
    · rw [hnx]
      refine hh.next he hv ?_ (fun k9 => ?_) (fun k10 => ?_)
      · rw [clkF, thrE_at he, eZ_nn t0]
      · rw [hR, rndT, if_pos k9, hck]
      · rw [hR, rndT, if_neg (by omega), if_pos k10, hck]
section
variable {th va vo lk : Int} {pl : List Int} {es : List T3}
/-- An event happens before an access just if the thread's vector has its clock. -/
theorem vn_hb (hok : OkS th va vo lk pl) {f : T3} (hf : f.1 = 1 ∨ f.1 = 2) (hl : es.length + 1 ≤ 1000000) (hall : allC (newF th va vo lk pl) (es ++ [f]) (es ++ [f]).length) {i : Nat} {e : T3} (he : es[i]? = some e) :
    hbF (es ++ [f]) (rf (rnds (newF th va vo lk pl) (es ++ [f]))) i es.length = decide (clkF (vNew th va vo lk pl) es i ≤ (thF (vN (vNew th va vo lk pl) es es.length) f.2.1).getD e.2.1.toNat 0) := by
  have hi := (List.getElem?_eq_some_iff.1 he).1
  have hlen : (es ++ [f]).length = es.length + 1 := by simp
  obtain ⟨hb, hck, hn, hh⟩ := h_all hok (by rw [hlen]; exact hl) hall es.length (by omega)
  have he2 : (es ++ [f])[i]? = some e := by rw [List.getElem?_append_left hi]; exact he
  have hf2 : (es ++ [f])[es.length]? = some f := by rw [List.getElem?_append_right (Nat.le_refl _)]; simp
  have hk := hh.cor.k (eT f.2.1) i hi (alV_th _ _)
  have ht0 := hh.cor.th0 i hi
  rw [thrE_at he2] at hk ht0
  rw [Bool.eq_iff_iff, hbF_iff, decide_eq_true_eq, HB.at hf2 (by omega)]
  have hc : clkF (vNew th va vo lk pl) (es ++ [f]) i = clkF (vNew th va vo lk pl) es i := by
    rw [clkF, clkF, vN_app (by omega), thrE_at he2, thrE_at he]
  rw [hc, VV, ve_th, vN_app (Nat.le_refl _)] at hk
  rw [← hk]
  constructor
  · rintro (h | ⟨h, _⟩ | ⟨h, _⟩ | ⟨h, _⟩ | ⟨h, _⟩)
    · exact h
    all_goals omega
  · exact .inl
end
end Go.Ab.DjO
set_option linter.unusedVariables false
set_option linter.unusedSimpArgs false
set_option maxRecDepth 100000
namespace Go.Ab.DjO
open Go Go.Proofs Go.Ab Go.Ab.Fe Go.Ab.Ord
def accP (e : T3) : Prop := e.1 = 1 ∨ e.1 = 2
instance (e : T3) : Decidable (accP e) := by unfold accP; infer_instance
def confP (a b : T3) : Prop := accP a ∧ accP b ∧ a.2.2 = b.2.2 ∧ a.2.1 ≠ b.2.1 ∧ (a.1 = 2 ∨ b.1 = 2)
instance (a b : T3) : Decidable (confP a b) := by unfold confP; infer_instance
def raceB (es : List T3) (R : Nat → Int) (i j : Nat) : Bool := decide (i < j) && ((match es[i]?, es[j]? with | some a, some b => decide (confP a b) | _, _ => false) && !hbF es R i j)
def objN (es : List T3) (j : Nat) : Int := (es.getD j (0, 0, 0)).2.2
/-- The races of event j with the first i events. -/
def prs (es : List T3) (R : Nat → Int) (j i : Nat) : List T3 := ((List.range i).filter (fun q => raceB es R q j)).map (fun q : Nat => (objN es j, (q : Int), (j : Int)))
/-- All races of the first m events. -/
def allL (es : List T3) (R : Nat → Int) (m : Nat) : List T3 := (List.range m).flatMap (fun j => prs es R j j)
section
variable {es : List T3} {R : Nat → Int} {i j m : Nat}
theorem raceB_at {a b : T3} (ha : es[i]? = some a) (hb : es[j]? = some b) (h : i < j) : raceB es R i j = (decide (confP a b) && !hbF es R i j) := by
  unfold raceB; rw [ha, hb]; simp [h]
theorem prs_next : prs es R j (i + 1) = prs es R j i ++ (if raceB es R i j = true then [(objN es j, (i : Int), (j : Int))] else []) := by
  unfold prs
  rw [List.range_succ, List.filter_append, List.map_append]
  congr 1
  by_cases h : raceB es R i j = true
  · rw [if_pos h]; simp [h]
  · rw [if_neg h]; simp [h]
theorem allL_next : allL es R (m + 1) = allL es R m ++ prs es R m m := by
  unfold allL; rw [List.range_succ, List.flatMap_append]; simp
theorem prs_len : (prs es R j i).length ≤ i := by
  unfold prs
  rw [List.length_map]
  exact Nat.le_trans (List.length_filter_le _ _) (by simp)
theorem allL_len : ∀ {m : Nat}, m ≤ 2048 → (allL es R m).length ≤ m * 2048
  | 0, _ => by simp [allL]
  | m + 1, h => by
    have h1 := allL_len (m := m) (by omega)
    have h2 := prs_len (es := es) (R := R) (j := m) (i := m)
    rw [allL_next, List.length_append]; omega
theorem prs_sec {p : T3} (h : p ∈ prs es R j i) : p.2.2 = j ∧ p.1 = objN es j := by
  unfold prs at h
  obtain ⟨q, _, rfl⟩ := List.mem_map.1 h
  exact ⟨rfl, rfl⟩
theorem allL_sec {p : T3} : ∀ {m : Nat}, p ∈ allL es R m → p.2.2 < m
  | 0, h => by simp [allL] at h
  | m + 1, h => by
    rw [allL_next] at h
    rcases List.mem_append.1 h with h | h
    · have := allL_sec h; omega
    · have := (prs_sec h).1; omega
end
/-! ### Flags -/
def hasV (l : List T2) (v : Int) : Bool := l.any (fun q => decide (q.1 = v))
def ins (p : T2) : List T2 → List T2
  | [] => [p]
  | q :: l => if p.1 < q.1 then p :: q :: l else q :: ins p l
def fl1 (l : List T2) (p : T3) : List T2 := if hasV l p.1 = true then l else ins (p.1, p.2.2) l
def flagsL (L : List T3) : List T2 := L.foldl fl1 []
/-- Is the new flag laid down already? -/
def laidB (v : Int) (l : List T2) : Bool := l.any (fun q => decide (v < q.1))
def insB (p : T2) (l : List T2) : List T2 := if laidB p.1 l = true then ins p l else l
end Go.Ab.DjO
set_option linter.unusedVariables false
set_option linter.unusedSimpArgs false
set_option maxRecDepth 100000
namespace Go.Ab.Hi
open Go Go.Proofs Go.Ab Go.Ab.Fe Go.Ab.Vc Go.Ab.Dj Go.Ab.So Go.Ab.Ord Go.Ab.DjB
open Go.Ab.DjO (vEv vN vN_next vN_app clkF eZ_nn vn_hb h_all raceB raceB_at confP accP)
/-- The number of the last of the first n events that is e; -1. -/
def lastF (es : List T3) (e : T3) : Nat → Int
  | 0 => -1
  | n + 1 => if es[n]? = some e then (n : Int) else lastF es e n
theorem lastF_lo (es : List T3) (e : T3) : ∀ n, -1 ≤ lastF es e n ∧ lastF es e n < n
  | 0 => by simp [lastF]
  | n + 1 => by
    have := lastF_lo es e n
    unfold lastF
    split <;> omega
theorem lastF_at {es : List T3} {e : T3} : ∀ {n : Nat}, 0 ≤ lastF es e n → es[(lastF es e n).toNat]? = some e
  | 0, h => by simp [lastF] at h
  | n + 1, h => by
    unfold lastF at h ⊢
    split
    · rename_i h1; rw [Int.toNat_natCast]; exact h1
    · rename_i h1; rw [if_neg h1] at h; exact lastF_at h
theorem lastF_ge {es : List T3} {e : T3} : ∀ {n p : Nat}, p < n → es[p]? = some e → (p : Int) ≤ lastF es e n
  | 0, p, h, _ => by omega
  | n + 1, p, h, hp => by
    unfold lastF
    split
    · omega
    · rename_i h1
      have hne : p ≠ n := fun e => h1 (e ▸ hp)
      exact lastF_ge (by omega) hp
/-- What a history keeps behind the first n events. -/
structure LInv (x0 : VS) (es : List T3) (n : Nat) (x : HS) : Prop where
  v : x.v = vN x0 es n
  cn : x.v.ck.n = (n : Int)
  k : ∀ o t, (tchF x o t).1 = lastF es (1, t, o) n ∧ (tchF x o t).2.1 = lastF es (2, t, o) n ∧ (0 ≤ (tchF x o t).1 → (tchF x o t).2.2.1 = clkF x0 es (tchF x o t).1.toNat) ∧ (0 ≤ (tchF x o t).2.1 → (tchF x o t).2.2.2 = clkF x0 es (tchF x o t).2.1.toNat)
theorem tch_upd {x : HS} {k t o : Int} (hv : vcanF x.v k t o) (hk : k = 1 ∨ k = 2) (o' t' : Int) : tchF (heF x k t o) o' t' = if (o', t') = (o, t) then ntK x.v.ck.n k ((thF x.v t).getD t.toNat 0) (tchF x o t) else tchF x o' t' := by
  have hh : (heF x k t o).kept = upd x.kept (o, t) (some (ntK x.v.ck.n k ((thF x.v t).getD t.toNat 0) (tchF x o t))) := by
    rw [heF, if_pos hv, accF, if_pos hk]; rfl
  unfold tchF
  rw [hh]
  by_cases h : (o', t') = (o, t)
  · rw [if_pos h, h, upd_same]; rfl
  · rw [if_neg h, upd_ne h]
theorem tch_no {x : HS} {k t o : Int} (hk : ¬ (k = 1 ∨ k = 2)) (o' t' : Int) : tchF (heF x k t o) o' t' = tchF x o' t' := by
  unfold tchF heF
  split
  · rw [accF, if_neg hk]
  · rfl
theorem l_new {th va vo lk : Int} {pl : List Int} (es : List T3) : LInv (vNew th va vo lk pl) es 0 (hNew th va vo lk pl) :=
  ⟨rfl, rfl, fun o t => ⟨rfl, rfl, fun h => absurd h (show ¬ (0 : Int) ≤ -1 by decide), fun h => absurd h (show ¬ (0 : Int) ≤ -1 by decide)⟩⟩
theorem l_next {x0 : VS} {es : List T3} {n : Nat} {x : HS} (h : LInv x0 es n x) (hx : VInv x.v) {k t o : Int} (he : es[n]? = some (k, t, o)) (hv : vcanF x.v k t o) : LInv x0 es (n + 1) (heF x k t o) := by
  obtain ⟨h0, -⟩ := th_rng hx (can_th hv.1)
  have hc : clkF x0 es n = (thF x.v t).getD t.toNat 0 := by
    rw [clkF, thrE_at he, eZ_nn h0, ← h.v]
  refine ⟨?_, ?_, fun o' t' => ?_⟩
  · rw [he_v hv, vN_next he, vEv, ← h.v, if_pos hv]
  · rw [he_v hv, (vnn hv.1).1, h.cn]; rfl
  · obtain ⟨a, b, c, d⟩ := h.k o' t'
    have hl : ∀ k', lastF es (k', t', o') (n + 1) = if (k, t, o) = (k', t', o') then (n : Int) else lastF es (k', t', o') n := fun k' => by
      rw [lastF, he]
      by_cases e : (k, t, o) = (k', t', o')
      · rw [if_pos (by rw [e]), if_pos e]
      · rw [if_neg (fun h => e (Option.some.inj h)), if_neg e]
    rw [hl 1, hl 2]
    by_cases hk : k = 1 ∨ k = 2
    · rw [tch_upd hv hk]
      by_cases hot : (o', t') = (o, t)
      · rw [if_pos hot]
        simp only [Prod.mk.injEq] at hot
        obtain ⟨rfl, rfl⟩ := hot
        unfold ntK
        rcases hk with rfl | rfl
        · rw [if_pos rfl, if_pos rfl, if_neg (by simp)]
          exact ⟨h.cn, b, fun _ => by simp only; rw [h.cn, Int.toNat_natCast, hc], d⟩
        · rw [if_neg (by decide), if_neg (by simp), if_pos rfl]
          exact ⟨a, h.cn, c, fun _ => by simp only; rw [h.cn, Int.toNat_natCast, hc]⟩
      · rw [if_neg hot]
        have hne : ∀ k', (k, t, o) ≠ (k', t', o') := fun k' e => by
          simp only [Prod.mk.injEq] at e
          exact hot (by rw [e.2.1, e.2.2])
        rw [if_neg (hne 1), if_neg (hne 2)]
        exact ⟨a, b, c, d⟩
    · rw [tch_no hk]
      rw [if_neg (fun e => hk (.inl (by simp only [Prod.mk.injEq] at e; exact e.1))), if_neg (fun e => hk (.inr (by simp only [Prod.mk.injEq] at e; exact e.1)))]
      exact ⟨a, b, c, d⟩
section
variable {th va vo lk : Int} {pl : List Int} {es : List T3}
/-- Behind each of the events of a list that can be. -/
theorem l_all (hok : OkS th va vo lk pl) (hl : es.length ≤ 1000000) (hall : allC (newF th va vo lk pl) es es.length) : ∀ i, i ≤ es.length → LInv (vNew th va vo lk pl) es i (hAll (hNew th va vo lk pl) (es.take i))
  | 0, _ => l_new es
  | i + 1, hi => by
    have ih := l_all hok hl hall i (by omega)
    obtain ⟨⟨k, t, o⟩, he⟩ := get_lt (l := es) (i := i) (by omega)
    obtain ⟨hb, hck, hn, -⟩ := h_all hok hl hall i (by omega)
    have hc := hall i _ (by omega) he
    have hv : vcanF (vN (vNew th va vo lk pl) es i) k t o := (b_can hb (by rw [hck]; omega)).2 (by rw [hck]; exact hc)
    rw [← ih.v] at hv
    rw [hAll_next he]
    exact l_next ih (hAll_inv (new_sinv hok) _).v he hv
theorem l_can (hok : OkS th va vo lk pl) (hl : es.length ≤ 1000000) (hall : allC (newF th va vo lk pl) es es.length) {i : Nat} {e : T3} (he : es[i]? = some e) : canH (hAll (hNew th va vo lk pl) (es.take i)) e := by
  have hi := (List.getElem?_eq_some_iff.1 he).1
  obtain ⟨hb, hck, hn, -⟩ := h_all hok hl hall i (by omega)
  unfold canH
  rw [(l_all hok hl hall i (by omega)).v]
  exact (b_can hb (by rw [hck]; omega)).2 (by rw [hck]; exact hall i e hi he)
end
/-- What stands against an access. -/
theorem mem_ag {x : HS} (hx : SInv x) {k t o : Int} {z : Int} : z ∈ agF x k t o ↔ (k = 1 ∨ k = 2) ∧ ∃ u, u ≠ t ∧ ((k = 2 ∧ z = (tchF x o u).1 ∧ 0 ≤ (tchF x o u).1 ∧ (thF x.v t).getD u.toNat 0 < (tchF x o u).2.2.1) ∨ (z = (tchF x o u).2.1 ∧ 0 ≤ (tchF x o u).2.1 ∧ (thF x.v t).getD u.toNat 0 < (tchF x o u).2.2.2)) := by
  unfold agF
  by_cases hk : k = 1 ∨ k = 2
  · rw [if_pos hk, (isort_perm _).mem_iff, List.mem_flatMap]
    constructor
    · rintro ⟨q, hq, hz⟩
      by_cases h1 : q.1 ≠ o ∨ q.2 = t
      · rw [agK_s h1] at hz; cases hz
      · have h2 : q.1 = o := Classical.byContradiction fun h => h1 (.inl h)
        have h3 : q.2 ≠ t := fun h => h1 (.inr h)
        obtain ⟨w, hw⟩ := Option.isSome_iff_exists.1 ((hx.ks q).1 hq)
        have hT : tchF x o q.2 = w := by unfold tchF; rw [← h2]; show (x.kept q).getD _ = w; rw [hw]; rfl
        rw [agK_go (fun h => h h2) h3 hw, List.mem_append] at hz
        refine ⟨hk, q.2, h3, ?_⟩
        rw [hT]
        rcases hz with hz | hz
        · split at hz
          · rename_i hc; simp at hz; exact .inl ⟨hc.1, hz, hc.2.1, hc.2.2⟩
          · cases hz
        · split at hz
          · rename_i hc; simp at hz; exact .inr ⟨hz, hc.1, hc.2⟩
          · cases hz
    · rintro ⟨-, u, hu, hz⟩
      have hsome : (x.kept (o, u)).isSome = true := by
        cases h : x.kept (o, u) with
        | some w => rfl
        | none =>
          have hT : tchF x o u = (-1, -1, 0, 0) := by unfold tchF; rw [h]; rfl
          rw [hT] at hz
          rcases hz with ⟨-, -, h1, -⟩ | ⟨-, h1, -⟩ <;> exact absurd h1 (by decide)
      obtain ⟨w, hw⟩ := Option.isSome_iff_exists.1 hsome
      have hT : tchF x o u = w := by unfold tchF; rw [hw]; rfl
      refine ⟨(o, u), (hx.ks _).2 hsome, ?_⟩
      rw [agK_go (fun h => h rfl) hu hw, List.mem_append]
      rw [hT] at hz
      rcases hz with ⟨h1, h2, h3, h4⟩ | ⟨h1, h2, h3⟩
      · left; rw [if_pos ⟨h1, h3, h4⟩]; simp [h2]
      · right; rw [if_pos ⟨h2, h3⟩]; simp [h1]
  · rw [if_neg hk]
    simp [hk]
/-- The numbers rise. -/
theorem ag_rise {x0 : VS} {es : List T3} {n : Nat} {x : HS} (hx : SInv x) (h : LInv x0 es n x) (k t o : Int) : (agF x k t o).Pairwise (· < ·) := by
  have hnd : (agF x k t o).Nodup := by
    unfold agF
    split
    · rw [(isort_perm _).nodup_iff]
      unfold List.Nodup
      rw [List.pairwise_flatMap]
      have hel : ∀ q z, z ∈ agK x.kept k t o (thF x.v t) q → 0 ≤ z ∧ (es[z.toNat]? = some (1, q.2, q.1) ∨ es[z.toNat]? = some (2, q.2, q.1)) := fun q z hz => by
        by_cases h1 : q.1 ≠ o ∨ q.2 = t
        · rw [agK_s h1] at hz; cases hz
        · have h2 : q.1 = o := Classical.byContradiction fun h => h1 (.inl h)
          have h3 : q.2 ≠ t := fun h => h1 (.inr h)
          cases hw : x.kept q with
          | none => unfold agK at hz; rw [if_neg h1, hw] at hz; cases hz
          | some w =>
            have hT : tchF x q.1 q.2 = w := by unfold tchF; show (x.kept q).getD _ = w; rw [hw]; rfl
            obtain ⟨a, b, -, -⟩ := h.k q.1 q.2
            rw [hT] at a b
            rw [agK_go (fun h => h h2) h3 hw, List.mem_append] at hz
            rcases hz with hz | hz
            · split at hz
              · rename_i hc; simp at hz; subst hz
                exact ⟨hc.2.1, .inl (by rw [a]; exact lastF_at (by rw [← a]; exact hc.2.1))⟩
              · cases hz
            · split at hz
              · rename_i hc; simp at hz; subst hz
                exact ⟨hc.1, .inr (by rw [b]; exact lastF_at (by rw [← b]; exact hc.1))⟩
              · cases hz
      refine ⟨fun q _ => ?_, hx.nd.imp fun {q1 q2} hne z1 h1 z2 h2 e => ?_⟩
      · by_cases h1 : q.1 ≠ o ∨ q.2 = t
        · rw [agK_s h1]; exact .nil
        · have h2 : q.1 = o := Classical.byContradiction fun h => h1 (.inl h)
          have h3 : q.2 ≠ t := fun h => h1 (.inr h)
          cases hw : x.kept q with
          | none => unfold agK; rw [if_neg h1, hw]; exact .nil
          | some w =>
            have hT : tchF x q.1 q.2 = w := by unfold tchF; show (x.kept q).getD _ = w; rw [hw]; rfl
            obtain ⟨a, b, -, -⟩ := h.k q.1 q.2
            rw [hT] at a b
            rw [agK_go (fun h => h h2) h3 hw]
            split
            · split
              · rename_i hc1 hc2
                have hne : w.1 ≠ w.2.1 := fun e => by
                  have e1 := lastF_at (es := es) (e := (1, q.2, q.1)) (n := n) (by rw [← a]; exact hc1.2.1)
                  have e2 := lastF_at (es := es) (e := (2, q.2, q.1)) (n := n) (by rw [← b]; exact hc2.1)
                  rw [← a, e, b, e2] at e1
                  simp at e1
                simp [hne]
              · simp
            · split <;> simp
      · subst e
        obtain ⟨-, a⟩ := hel q1 z1 h1
        obtain ⟨-, b⟩ := hel q2 z1 h2
        apply hne
        rcases a with a | a <;> rcases b with b | b <;> (rw [a] at b; simp only [Option.some.injEq, Prod.mk.injEq] at b; first | exact Prod.ext b.2.2 b.2.1 | exact absurd b.1 (by decide))
    · exact .nil
  have hs : (agF x k t o).Pairwise (· ≤ ·) := by
    unfold agF
    split
    · exact isort_sorted _
    · exact .nil
  exact (hs.and hnd).imp fun ⟨a, b⟩ => by omega
section
variable {th va vo lk : Int} {pl : List Int} {es : List T3}
theorem l_end (hok : OkS th va vo lk pl) (hl : es.length ≤ 1000000) (hall : allC (newF th va vo lk pl) es es.length) : LInv (vNew th va vo lk pl) es es.length (hAll (hNew th va vo lk pl) es) := by
  have h := l_all hok hl hall es.length (Nat.le_refl _)
  rwa [List.take_length] at h
theorem vN_mono (hok : OkS th va vo lk pl) (hl : es.length ≤ 1000000) (hall : allC (newF th va vo lk pl) es es.length) (u : Int) (q : Nat) : ∀ {i j : Nat}, i ≤ j → j ≤ es.length → (thF (vN (vNew th va vo lk pl) es i) u).getD q 0 ≤ (thF (vN (vNew th va vo lk pl) es j) u).getD q 0
  | i, 0, h, _ => by obtain rfl : i = 0 := by omega
                     exact Int.le_refl _
  | i, j + 1, h, hj => by
    by_cases e : i = j + 1
    · rw [e]; exact Int.le_refl _
    · refine Int.le_trans (vN_mono hok hl hall u q (show i ≤ j by omega) (by omega)) ?_
      obtain ⟨e, he⟩ := get_lt (l := es) (i := j) (by omega)
      obtain ⟨hb, hck, hn, -⟩ := h_all hok hl hall j (by omega)
      have hc := hall j _ (by omega) he
      have hv : vcanF (vN (vNew th va vo lk pl) es j) e.1 e.2.1 e.2.2 := (b_can hb (by rw [hck]; omega)).2 (by rw [hck]; exact hc)
      rw [vN_next he, vEv, if_pos hv]
      exact th_grow hb.inv hv u q
theorem clk_eq (hok : OkS th va vo lk pl) (hl : es.length ≤ 1000000) (hall : allC (newF th va vo lk pl) es es.length) {i : Nat} {e : T3} (he : es[i]? = some e) : clkF (vNew th va vo lk pl) es i = (thF (vN (vNew th va vo lk pl) es i) e.2.1).getD e.2.1.toNat 0 := by
  have hi := (List.getElem?_eq_some_iff.1 he).1
  obtain ⟨hb, hck, hn, -⟩ := h_all hok hl hall i (by omega)
  have hc := hall i _ hi he
  have hv : vcanF (vN (vNew th va vo lk pl) es i) e.1 e.2.1 e.2.2 := (b_can hb (by rw [hck]; omega)).2 (by rw [hck]; exact hc)
  obtain ⟨h0, -⟩ := th_rng hb.inv (can_th hv.1)
  rw [clkF, thrE_at he, eZ_nn h0]
end
end Go.Ab.Hi
set_option linter.unusedVariables false
set_option linter.unusedSimpArgs false
set_option maxRecDepth 100000
namespace Go.Ab.Hi
open Go Go.Proofs Go.Ab Go.Ab.Fe Go.Ab.Vc Go.Ab.Dj Go.Ab.So Go.Ab.Ord Go.Ab.DjB
open Go.Ab.DjO (vEv vN vN_next vN_app clkF eZ_nn vn_hb h_all raceB raceB_at confP accP prs allL allL_next prs_next objN prs_sec allL_sec)
section
variable {th va vo lk : Int} {pl : List Int} {es : List T3}
abbrev RR (th va vo lk : Int) (pl : List Int) (es : List T3) : Nat → Int := rf (rnds (newF th va vo lk pl) es)
theorem hb_at (hok : OkS th va vo lk pl) (hl : es.length ≤ 1000000) (hall : allC (newF th va vo lk pl) es es.length) {j : Nat} {f : T3} (hf : f.1 = 1 ∨ f.1 = 2) (hj : es[j]? = some f) {i : Nat} (hij : i < j) {e : T3} (he : es[i]? = some e) :
    hbF es (RR th va vo lk pl es) i j = decide (clkF (vNew th va vo lk pl) es i ≤ (thF (vN (vNew th va vo lk pl) es j) f.2.1).getD e.2.1.toNat 0) := by
  have hjl := (List.getElem?_eq_some_iff.1 hj).1
  obtain ⟨hb, hck, hn, hh⟩ := h_all hok hl hall j (by omega)
  have hk := hh.cor.k (eT f.2.1) i hij (alV_th _ _)
  have ht0 := hh.cor.th0 i hij
  rw [thrE_at he] at hk ht0
  rw [Bool.eq_iff_iff, hbF_iff, decide_eq_true_eq, HB.at hj (by omega)]
  rw [VV, ve_th] at hk
  rw [← hk]
  constructor
  · rintro (h | ⟨h, _⟩ | ⟨h, _⟩ | ⟨h, _⟩ | ⟨h, _⟩)
    · exact h
    all_goals omega
  · exact .inl
theorem race_at (hok : OkS th va vo lk pl) (hl : es.length ≤ 1000000) (hall : allC (newF th va vo lk pl) es es.length) {j : Nat} {f : T3} (hf : f.1 = 1 ∨ f.1 = 2) (hj : es[j]? = some f) {i : Nat} (hij : i < j) {e : T3} (he : es[i]? = some e) :
    raceB es (RR th va vo lk pl es) i j = true ↔ confP e f ∧ (thF (hAll (hNew th va vo lk pl) (es.take j)).v f.2.1).getD e.2.1.toNat 0 < clkF (vNew th va vo lk pl) es i := by
  have hjl := (List.getElem?_eq_some_iff.1 hj).1
  rw [raceB_at he hj hij, hb_at hok hl hall hf hj hij he, (l_all hok hl hall j (by omega)).v]
  simp
theorem race_no {j : Nat} {f : T3} (hf : ¬ (f.1 = 1 ∨ f.1 = 2)) (hj : es[j]? = some f) {R : Nat → Int} {i : Nat} : raceB es R i j = false := by
  cases hr : raceB es R i j with
  | false => rfl
  | true =>
    unfold raceB at hr
    rw [hj] at hr
    simp only [Bool.and_eq_true, decide_eq_true_eq] at hr
    cases he : es[i]? with
    | none => rw [he] at hr; simp at hr
    | some e =>
      rw [he] at hr
      have := of_decide_eq_true hr.2.1
      exact absurd this.2.1 hf
theorem ag_race_j (hok : OkS th va vo lk pl) (hl : es.length ≤ 1000000) (hall : allC (newF th va vo lk pl) es es.length) {j : Nat} {f : T3} (hf : f.1 = 1 ∨ f.1 = 2) (hj : es[j]? = some f) {z : Int} (hz : z ∈ agF (hAll (hNew th va vo lk pl) (es.take j)) f.1 f.2.1 f.2.2) :
    0 ≤ z ∧ z < j ∧ raceB es (RR th va vo lk pl es) z.toNat j = true := by
  have hjl := (List.getElem?_eq_some_iff.1 hj).1
  have hL := l_all hok hl hall j (by omega)
  obtain ⟨-, u, hu, h⟩ := (mem_ag (hAll_inv (new_sinv hok) (es.take j))).1 hz
  obtain ⟨a, b, c, d⟩ := hL.k f.2.2 u
  have l1 := lastF_lo es (1, u, f.2.2) j
  have l2 := lastF_lo es (2, u, f.2.2) j
  rcases h with ⟨k2, h1, h2, h3⟩ | ⟨h1, h2, h3⟩
  · have he := lastF_at (es := es) (e := (1, u, f.2.2)) (n := j) (by rw [← a]; exact h2)
    rw [← a, ← h1] at he
    rw [← h1] at h2 c
    refine ⟨h2, by omega, (race_at hok hl hall hf hj (by omega) he).2 ⟨⟨.inl rfl, hf, rfl, hu, .inr k2⟩, ?_⟩⟩
    rw [← c h2]; exact h3
  · have he := lastF_at (es := es) (e := (2, u, f.2.2)) (n := j) (by rw [← b]; exact h2)
    rw [← b, ← h1] at he
    rw [← h1] at h2 d
    refine ⟨h2, by omega, (race_at hok hl hall hf hj (by omega) he).2 ⟨⟨.inr rfl, hf, rfl, hu, .inl rfl⟩, ?_⟩⟩
    rw [← d h2]; exact h3
theorem race_ag_j (hok : OkS th va vo lk pl) (hl : es.length ≤ 1000000) (hall : allC (newF th va vo lk pl) es es.length) {j : Nat} {f : T3} (hf : f.1 = 1 ∨ f.1 = 2) (hj : es[j]? = some f) {p : Nat} (hp : p < j)
    (hr : raceB es (RR th va vo lk pl es) p j = true) : ∃ z ∈ agF (hAll (hNew th va vo lk pl) (es.take j)) f.1 f.2.1 f.2.2, (p : Int) ≤ z := by
  have hjl := (List.getElem?_eq_some_iff.1 hj).1
  obtain ⟨e, he⟩ := get_lt (l := es) (i := p) (by omega)
  have hL := l_all hok hl hall j (by omega)
  obtain ⟨⟨h1, h2, h3, h4, h5⟩, h6⟩ := (race_at hok hl hall hf hj hp he).1 hr
  obtain ⟨k', u, o⟩ := e
  simp only at h1 h2 h3 h4 h5 h6
  have hge := lastF_ge (n := j) hp he
  have hlo := lastF_lo es (k', u, o) j
  have hz := lastF_at (es := es) (e := (k', u, o)) (n := j) (by omega)
  have hclk : clkF (vNew th va vo lk pl) es p ≤ clkF (vNew th va vo lk pl) es (lastF es (k', u, o) j).toNat := by
    rw [clk_eq hok hl hall he, clk_eq hok hl hall hz]
    exact vN_mono hok hl hall u u.toNat (by omega) (by omega)
  refine ⟨lastF es (k', u, o) j, ?_, hge⟩
  rw [mem_ag (hAll_inv (new_sinv hok) (es.take j))]
  refine ⟨hf, u, h4, ?_⟩
  obtain ⟨a, b, c, d⟩ := hL.k f.2.2 u
  rw [← h3] at a b c d
  rw [← h3]
  rcases h1 with h1 | h1
  · simp only at h1
    subst h1
    have k2 : f.1 = 2 := h5.resolve_left (by decide)
    refine .inl ⟨k2, a.symm, by omega, ?_⟩
    rw [c (by omega), a]
    omega
  · simp only at h1
    subst h1
    refine .inr ⟨b.symm, by omega, ?_⟩
    rw [d (by omega), b]
    omega
end
theorem last_max {l : List Int} {z : Int} (h : l.Pairwise (· < ·)) (hz : l.getLast? = some z) : ∀ x ∈ l, x ≤ z := by
  intro x hx
  rw [List.getLast?_eq_getElem?] at hz
  obtain ⟨i, hi⟩ := List.getElem?_of_mem hx
  obtain ⟨i1, e1⟩ := List.getElem?_eq_some_iff.1 hi
  obtain ⟨i2, e2⟩ := List.getElem?_eq_some_iff.1 hz
  by_cases e : i = l.length - 1
  · subst e; rw [hi] at hz; cases hz; exact Int.le_refl _
  · have := List.pairwise_iff_getElem.1 h i (l.length - 1) i1 i2 (by omega)
    rw [e1, e2] at this; omega
theorem last_maxN {l : List Nat} {z : Nat} (h : l.Pairwise (· < ·)) (hz : l.getLast? = some z) : ∀ x ∈ l, x ≤ z := by
  intro x hx
  rw [List.getLast?_eq_getElem?] at hz
  obtain ⟨i, hi⟩ := List.getElem?_of_mem hx
  obtain ⟨i1, e1⟩ := List.getElem?_eq_some_iff.1 hi
  obtain ⟨i2, e2⟩ := List.getElem?_eq_some_iff.1 hz
  by_cases e : i = l.length - 1
  · subst e; rw [hi] at hz; cases hz; exact Nat.le_refl _
  · have := List.pairwise_iff_getElem.1 h i (l.length - 1) i1 i2 (by omega)
    rw [e1, e2] at this; omega
/-- The last of an access' races is with the last of those that stand against it. -/
theorem prs_last {es : List T3} {R : Nat → Int} {j : Nat} {G : List Int} (hG : G.Pairwise (· < ·)) (h1 : ∀ z ∈ G, 0 ≤ z ∧ z < j ∧ raceB es R z.toNat j = true) (h2 : ∀ p, p < j → raceB es R p j = true → ∃ z ∈ G, (p : Int) ≤ z) :
    (prs es R j j).getLast? = G.getLast?.map fun z => (objN es j, z, (j : Int)) := by
  unfold prs
  rw [List.getLast?_map]
  have hs : ((List.range j).filter (fun q => raceB es R q j)).Pairwise (· < ·) := List.Pairwise.filter _ List.pairwise_lt_range
  generalize hF : (List.range j).filter (fun q => raceB es R q j) = F at hs
  have hmem : ∀ q, q ∈ F ↔ q < j ∧ raceB es R q j = true := fun q => by rw [← hF]; simp
  cases hg : G.getLast? with
  | none =>
    have hG0 : G = [] := by simpa using hg
    cases hf : F.getLast? with
    | none => rfl
    | some p =>
      have hp := (hmem p).1 (List.mem_of_getLast? hf)
      obtain ⟨z, hz, -⟩ := h2 p hp.1 hp.2
      rw [hG0] at hz; cases hz
  | some z =>
    obtain ⟨a, b, c⟩ := h1 z (List.mem_of_getLast? hg)
    have hzF : z.toNat ∈ F := (hmem _).2 ⟨by omega, c⟩
    cases hf : F.getLast? with
    | none =>
      have : F = [] := by simpa using hf
      rw [this] at hzF; cases hzF
    | some p =>
      have hp := (hmem p).1 (List.mem_of_getLast? hf)
      obtain ⟨y, hy, hle⟩ := h2 p hp.1 hp.2
      have e1 := last_maxN hs hf _ hzF
      have e2 := last_max hG hg y hy
      have : (p : Int) = z := by omega
      simp [this]
/-- The best of races: that of the least second event, of these that of the greatest first one. -/
def bestB (b p : T3) : T3 := if p.2.2 = b.2.2 then p else b
def bestF (l : List T3) : T3 × Bool := match l with
  | [] => ((0, 0, 0), false)
  | b :: _ => (l.foldl bestB b, true)
theorem fold_keep {b : T3} : ∀ {l : List T3}, (∀ p ∈ l, p.2.2 ≠ b.2.2) → l.foldl bestB b = b
  | [], _ => rfl
  | p :: l, h => by
    rw [List.foldl_cons, bestB, if_neg (h p List.mem_cons_self)]
    exact fold_keep fun q hq => h q (List.mem_cons_of_mem _ hq)
theorem fold_sec : ∀ {l : List T3} {b : T3}, (l.foldl bestB b).2.2 = b.2.2
  | [], b => rfl
  | p :: l, b => by
    rw [List.foldl_cons, fold_sec]
    unfold bestB; split
    · assumption
    · rfl
theorem fold_last {n : Int} : ∀ {l : List T3} {b : T3}, b.2.2 = n → (∀ p ∈ l, p.2.2 = n) → l.foldl bestB b = (l.getLast?).getD b
  | [], b, _, _ => rfl
  | p :: l, b, hb, h => by
    have hp := h p List.mem_cons_self
    rw [List.foldl_cons, bestB, if_pos (hp.trans hb.symm), fold_last hp fun q hq => h q (List.mem_cons_of_mem _ hq)]
    cases l with
    | nil => rfl
    | cons q l =>
      rw [List.getLast?_cons_cons]
      cases hg : (q :: l).getLast? with
      | none => simp at hg
      | some y => rfl
theorem best_app {l r : List T3} {n : Int} (hl : ∀ p ∈ l, p.2.2 < n) (hr : ∀ p ∈ r, p.2.2 = n) : bestF (l ++ r) = if l = [] then (match r.getLast? with | none => ((0, 0, 0), false) | some p => (p, true)) else bestF l := by
  cases l with
  | nil =>
    rw [if_pos rfl, List.nil_append]
    cases r with
    | nil => rfl
    | cons p r =>
      have hp := hr p List.mem_cons_self
      show (List.foldl bestB p (p :: r), true) = _
      rw [fold_last (n := n) hp hr]
      cases h : (p :: r).getLast? with
      | none => simp at h
      | some q => rfl
  | cons b l =>
    rw [if_neg (by simp)]
    show ((b :: l ++ r).foldl bestB b, true) = ((b :: l).foldl bestB b, true)
    rw [List.foldl_append, fold_keep (l := r)]
    intro p hp
    rw [fold_sec, hr p hp]
    have := hl b List.mem_cons_self
    omega
/-- The races of a variable, of the first n events. -/
def rcV (es : List T3) (R : Nat → Int) (v : Int) (n : Nat) : List T3 := (allL es R n).filter (fun p => decide (p.1 = v))
theorem rcV_next {es : List T3} {R : Nat → Int} {v : Int} {n : Nat} : rcV es R v (n + 1) = rcV es R v n ++ (if objN es n = v then prs es R n n else []) := by
  unfold rcV
  rw [allL_next, List.filter_append]
  congr 1
  split
  · rename_i h
    exact List.filter_eq_self.2 fun p hp => by rw [(prs_sec hp).2]; simpa using h
  · rename_i h
    exact List.filter_eq_nil_iff.2 fun p hp => by rw [(prs_sec hp).2]; simpa using h
/-- What is told of a variable, against its races. -/
def PI (l : List T3) (w : Tld) : Prop := bestF l = (w.1, w.2.2.1) ∧ (l = [] → w.2.2.1 = false ∧ w.1 = (0, 0, 0)) ∧ (l ≠ [] → w.2.2.1 = true ∧ l.getLast? = some w.2.1)
theorem pi_next {l r : List T3} {w : Tld} {n k t o : Int} {G : List Int} (h : PI l w) (hl : ∀ p ∈ l, p.2.2 < n) (hr : ∀ p ∈ r, p.2.2 = n) (hG : r.getLast? = G.getLast?.map fun z => (o, z, n)) : PI (l ++ r) (ntV n k t o G w) := by
  obtain ⟨h1, h2, h3⟩ := h
  unfold PI
  rw [best_app hl hr]
  cases hg : G.getLast? with
  | none =>
    rw [hg] at hG
    have hr0 : r = [] := by simpa using hG
    subst hr0
    have hn : ntV n k t o G w = (w.1, w.2.1, w.2.2.1, (k, t, o), n) := by unfold ntV; rw [hg]
    rw [hn, List.append_nil]
    refine ⟨?_, h2, h3⟩
    by_cases e : l = []
    · rw [if_pos e]
      obtain ⟨a, b⟩ := h2 e
      show ((0, 0, 0), false) = (w.1, w.2.2.1)
      rw [a, b]
    · rw [if_neg e]; exact h1
  | some z =>
    rw [hg] at hG
    have hn : ntV n k t o G w = (if w.2.2.1 = true then w.1 else (o, z, n), (o, z, n), true, (k, t, o), n) := by unfold ntV; rw [hg]
    rw [hn]
    simp only [Option.map_some] at hG
    have hrn : r ≠ [] := fun e => by rw [e] at hG; simp at hG
    refine ⟨?_, fun e => absurd (List.append_eq_nil_iff.1 e).2 hrn, fun _ => ⟨rfl, ?_⟩⟩
    · by_cases e : l = []
      · rw [if_pos e, hG]
        obtain ⟨a, b⟩ := h2 e
        show ((o, z, n), true) = (if w.2.2.1 = true then w.1 else (o, z, n), true)
        rw [if_neg (by rw [a]; decide)]
      · rw [if_neg e, h1]
        obtain ⟨a, -⟩ := h3 e
        show (w.1, w.2.2.1) = (if w.2.2.1 = true then w.1 else (o, z, n), true)
        rw [if_pos a, a]
    · rw [List.getLast?_append, hG]; rfl
theorem wH_next' {x : HS} {k t o : Int} (hx : SInv x) (hv : vcanF x.v k t o) (hk : k = 1 ∨ k = 2) : wH (heF x k t o) o = ntV x.v.ck.n k t o (agF x k t o) (wH x o) := by
  obtain ⟨o0, o1⟩ := acc_o hv.1 hk
  have hlen := hx.len
  obtain ⟨w, hw⟩ := get_lt (l := x.vars) (i := o.toNat) (by omega)
  have hl := (List.getElem?_eq_some_iff.1 hw).1
  have h1 : wH x o = w := by rw [wH, if_pos o0, hw]; rfl
  rw [h1, heF, if_pos hv, accF, if_pos hk]
  unfold wH ntF
  rw [if_pos o0]
  show ((x.vars.set o.toNat _)[o.toNat]?).getD t0 = _
  rw [List.getElem?_set_self hl, getD_some hw]; rfl
theorem wH_other {x : HS} {k t o v : Int} (hne : ¬ ((k = 1 ∨ k = 2) ∧ o = v)) (h0 : 0 ≤ v) (ho : k = 1 ∨ k = 2 → 0 ≤ o) : wH (heF x k t o) v = wH x v := by
  unfold heF
  split
  · unfold accF
    split
    · rename_i hk
      have hov : o ≠ v := fun e => hne ⟨hk, e⟩
      have := ho hk
      unfold wH ntF
      rw [if_pos h0, if_pos h0]
      show ((x.vars.set o.toNat _)[v.toNat]?).getD t0 = _
      rw [List.getElem?_set_ne (by omega)]
    · rfl
  · rfl
section
variable {th va vo lk : Int} {pl : List Int} {es : List T3}
theorem pi_all (hok : OkS th va vo lk pl) (hl : es.length ≤ 1000000) (hall : allC (newF th va vo lk pl) es es.length) {v : Int} (hv0 : 0 ≤ v) (hv1 : v < va) : ∀ n, n ≤ es.length → PI (rcV es (RR th va vo lk pl es) v n) (wH (hAll (hNew th va vo lk pl) (es.take n)) v)
  | 0, _ => by
    have hw : wH (hNew th va vo lk pl) v = t0 := by
      unfold wH; rw [if_pos hv0]
      show ((List.replicate va.toNat t0)[v.toNat]?).getD t0 = t0
      rw [List.getElem?_replicate]; split <;> rfl
    show PI [] (wH (hNew th va vo lk pl) v)
    rw [hw]
    exact ⟨rfl, fun _ => ⟨rfl, rfl⟩, fun h => absurd rfl h⟩
  | n + 1, hn => by
    have ih := pi_all hok hl hall hv0 hv1 n (by omega)
    obtain ⟨⟨k, t, o⟩, he⟩ := get_lt (l := es) (i := n) (by omega)
    have hc := l_can hok hl hall he
    have hL := l_all hok hl hall n (by omega)
    have hXi : SInv (hAll (hNew th va vo lk pl) (es.take n)) := hAll_inv (new_sinv hok) _
    have hob : objN es n = o := by rw [objN, getD_some he]
    rw [hAll_next he, rcV_next, hob]
    show PI _ (wH (heF (hAll (hNew th va vo lk pl) (es.take n)) k t o) v)
    have hsec : ∀ p ∈ rcV es (RR th va vo lk pl es) v n, p.2.2 < (n : Int) := fun p hp => allL_sec (List.mem_filter.1 hp).1
    by_cases hk : (k = 1 ∨ k = 2) ∧ o = v
    · obtain ⟨hk, rfl⟩ := hk
      rw [if_pos rfl, wH_next' hXi hc hk, hL.cn]
      refine pi_next ih hsec (fun p hp => (prs_sec hp).1) ?_
      have := prs_last (es := es) (R := RR th va vo lk pl es) (j := n) (ag_rise hXi hL k t o) (fun z hz => ag_race_j hok hl hall (f := (k, t, o)) hk he hz) (fun p hp hr => race_ag_j hok hl hall (f := (k, t, o)) hk he hp hr)
      rw [this, hob]
    · rw [wH_other hk hv0 (fun h => (acc_o hc.1 h).1)]
      have hr0 : (if o = v then prs es (RR th va vo lk pl es) n n else []) = [] := by
        split
        · rename_i h
          have hk2 : ¬ (k = 1 ∨ k = 2) := fun h2 => hk ⟨h2, h⟩
          unfold prs
          rw [List.map_eq_nil_iff, List.filter_eq_nil_iff]
          intro q _
          rw [race_no (f := (k, t, o)) hk2 he]; decide
        · rfl
      rw [hr0, List.append_nil]; exact ih
end
end Go.Ab.Hi
