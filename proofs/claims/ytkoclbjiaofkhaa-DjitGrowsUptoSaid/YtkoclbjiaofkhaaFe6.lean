/- Package feasible: the document's checker, done and told. -/
import Derived.Test.YtkoclbjiaofkhaaFe5
set_option linter.unusedVariables false
set_option linter.unusedSimpArgs false
set_option maxRecDepth 100000
namespace Go.Ab.Fe
open Go Go.Proofs Go.Ab
theorem rnext_spec (pa : Option Addr) (pc b : Nat) (x : CS) (hx : CInv x) (hn : x.n ≤ 1000000000000000) (pl : List Int) (hpl : x.pa = pl) (k t o : Int) : Spec Try.prog 27 [.pointer (some ⟨b, 0, none⟩), .agg #[.int .i64 k, .int .i64 t, .int .i64 o]] [rk pa pc b x, own 1 encZ pa pc pl] (fun (_ : Unit) => .int .i64 (nxE x k t o)) (fun _ => True) (fun _ => [rk pa pc b (nxF x k t o), own 1 encZ pa pc pl]) := by
 refine spec_mk (n := 123) Try.func27 rfl rfl rfl ?_
 intro Γ w0
 simp only [argE, List.cons_append, List.nil_append, Nat.zero_add, Nat.reduceAdd]
 have hn0 := hx.n0
 have htl := hx.tl
 have hol := hx.ol
 have hbl := hx.bl
 refine c_seq ?_
 refine c_plain ((.l 0 [] (.q 1 (.done)))) (by kernel_rfl) ?_
 refine l_box rfl rfl rfl rfl (us := [_, _, _]) rfl ?_
 intro b3
 refine ag_nil ?_
 refine q_assign rfl rfl rfl rfl ?_
 refine r_done ?_
 refine k_then_n ?_
 refine c_seq ?_
 refine c_seq ?_
 refine c_plain (.q 0 (.q 1 (.done))) (by kernel_rfl) ?_
 refine q_move rfl rfl rfl rfl ?_
 refine q_eq_nil rfl rfl rfl rfl Try.underlying58 ?_
 refine s_eq 8 rfl (v' := .bool false) rfl ?_
 refine r_done ?_
 refine k_then_n ?_
 refine c_cond_f rfl ?_
 refine c_skip ?_
 refine k_then_n ?_
 refine c_seq ?_
 refine c_plain (.q 0 (.q 1 ((.l 2 [] (.q 3 (.done)))))) (by kernel_rfl) ?_
 refine q_move rfl rfl rfl rfl ?_
 refine q_loadN_c rfl rfl rfl rfl Try.isAgg40 Try.sizeOf40 (by with_reducible (repeat (first | exact Z0 | apply Z1))) 0 (us := [_, _, _]) (by first | rfl | exact (Nat.add_zero _).symm) rfl rfl ?_
 have sp_1 := rcan_spec pa pc b x hx k t o
 refine l_call rfl rfl rfl rfl rfl rfl Try.call34 (sp_1) (by (repeat ((with_reducible apply Z2); focus (first | (with_reducible (repeat (first | exact Z0 | apply Z1)); done) | (repeat (first | exact Z0 | apply Z1))))); exact Z3) ?_
 rintro ⟨⟩ -
 try simp only [List.cons_append, List.nil_append]
 refine ag_nil ?_
 refine q_assign rfl rfl rfl rfl ?_
 refine r_done ?_
 refine s_keep [0, 3, 5] (e' := [(0, _), (3, _), (5, _)]) rfl ?_
 refine k_then_n ?_
 refine c_seq ?_
 refine c_seq ?_
 refine c_plain (.q 0 (.q 1 (.done))) (by kernel_rfl) ?_
 refine q_move rfl rfl rfl rfl ?_
 refine q_not rfl rfl rfl rfl ?_
 refine r_done ?_
 refine k_then_n ?_
 refine c_cond_np rfl (fun hc => ?_) (fun hc => ?_)
 ·
  refine c_seq ?_
  refine c_plain (.q 0 (.done)) (by kernel_rfl) ?_
  refine q_assign rfl rfl rfl rfl ?_
  refine r_done ?_
  refine s_keep [4] (e' := [(4, _)]) rfl ?_
  refine k_then_n ?_
  refine c_ret ?_
  refine k_then_ret ?_
  rw [show nxF x k t o = x from if_neg hc]
  refine ret1 rfl rfl (()) (by rw [show nxE x k t o = 6 from if_neg hc]) (by trivial) ?_
  (repeat ((with_reducible apply Z2); focus (first | (with_reducible (repeat (first | exact Z0 | apply Z1)); done) | (repeat (first | exact Z0 | apply Z1))))); (repeat (first | exact Z3 | exact Takes.self | refine takes_drop2 ?_))
 ·
  obtain ⟨o5, o7, o9, o10, o11⟩ := can_obj hx hc
  obtain ⟨n5, n6, n7, n9, n10, n11, nn⟩ := nxF_k hc
  obtain ⟨t0, t1, t2⟩ := stF_nz (can_th hc)
  refine c_skip ?_
  refine k_then_n ?_
  refine c_seq ?_
  refine s_take (A := rk pa pc b x) (by with_reducible (repeat (first | exact Z0 | apply Z1))) ?_
  refine rk_open fun ta tc oa oc ba bc => ?_
  refine c_plain (.q 0 (.q 1 (.q 2 (.q 3 (.q 4 (.q 5 (.q 6 ((.l 7 [] (.done)))))))))) (by kernel_rfl) ?_
  refine q_move rfl rfl rfl rfl ?_
  refine q_nil_p rfl rfl rfl rfl ?_
  refine q_field (k := 8) rfl rfl rfl rfl Try.underlying113 rfl Try.sizeOf3 rfl ?_
  refine q_load_c (j := 8) rfl rfl rfl rfl Try.isAgg3 (by with_reducible (repeat (first | exact Z0 | apply Z1))) (by first | rfl | exact (Nat.add_zero _).symm) (by rfl) ?_
  refine q_int rfl rfl rfl rfl rfl (b_add' _ (by exact fits_i64 (by omega) (by omega))) ?_
  refine q_nil_p rfl rfl rfl rfl ?_
  refine q_field (k := 8) rfl rfl rfl rfl Try.underlying113 rfl Try.sizeOf3 rfl ?_
  refine l_store (j := 8) rfl rfl rfl rfl Try.sizeOf3 (us := [_]) rfl rfl rfl (by with_reducible (repeat (first | exact Z0 | apply Z1))) (by first | rfl | exact (Nat.add_zero _).symm) (by first | decide | (simp; done) | omega) ?_
  simp only [setL, List.set]
  refine ag_nil ?_
  refine r_done ?_
  refine s_keep [0, 3] (e' := [(0, _), (3, _)]) rfl ?_
  refine k_then_n ?_
  refine c_seq ?_
  refine c_seq ?_
  refine c_plain (.q 0 (.q 1 (.done))) (by kernel_rfl) ?_
  refine q_field (k := 0) rfl rfl rfl rfl Try.underlying40 rfl Try.sizeOf38 rfl ?_
  refine q_load_c (j := 0) rfl rfl rfl rfl Try.isAgg38 (by with_reducible (repeat (first | exact Z0 | apply Z1))) (by first | rfl | exact (Nat.add_zero _).symm) (by rfl) ?_
  refine r_done ?_
  refine k_then_n ?_
  refine c_block ?_
  refine c_seq ?_
  refine c_plain (.q 0 (.q 1 (.done))) (by kernel_rfl) ?_
  refine q_int rfl rfl rfl rfl rfl (b_eql _ _ _ _) ?_
  refine q_assign rfl rfl rfl rfl ?_
  refine r_done ?_
  refine k_then_n ?_
  refine c_cond_p rfl (fun k5 => ?_) (fun k5 => ?_)
  ·
   have hel := owV_at (x := x) (l := o) (o5 (.inl k5)).1 (by have := (o5 (.inl k5)).2; omega)
   have q5 := o5 (.inl k5)
   refine c_draw rfl (.q 0 (.q 1 (.q 2 (.q 3 (.q 4 (.q 5 (.q 6 (.q 7 (.q 8 ((.l 9 [] (.done)))))))))))) (by kernel_rfl) ?_
   refine q_move rfl rfl rfl rfl ?_
   refine q_nil_p rfl rfl rfl rfl ?_
   refine q_field (k := 6) rfl rfl rfl rfl Try.underlying113 rfl Try.sizeOf22 rfl ?_
   refine q_load_c (j := 6) rfl rfl rfl rfl Try.isAgg22 (by with_reducible (repeat (first | exact Z0 | apply Z1))) (by first | rfl | exact (Nat.add_zero _).symm) (by rfl) ?_
   refine q_field (k := 2) rfl rfl rfl rfl Try.underlying40 rfl Try.sizeOf3 rfl ?_
   refine q_load_c (j := 2) rfl rfl rfl rfl Try.isAgg3 (by with_reducible (repeat (first | exact Z0 | apply Z1))) (by first | rfl | exact (Nat.add_zero _).symm) (by rfl) ?_
   refine q_field (k := 1) rfl rfl rfl rfl Try.underlying40 rfl Try.sizeOf3 rfl ?_
   refine q_load_c (j := 1) rfl rfl rfl rfl Try.isAgg3 (by with_reducible (repeat (first | exact Z0 | apply Z1))) (by first | rfl | exact (Nat.add_zero _).symm) (by rfl) ?_
   refine q_idxO (sz := 0) (k := o.toNat) (enc := encZ) (xs := x.O) rfl rfl rfl rfl rfl Try.underlying22 Try.sizeOf3 hel (by first | rfl | omega) (by omega) (by with_reducible (repeat (first | exact Z0 | apply Z1))) ?_
   intro ib33 io33 ha33 hl33 hc33
   refine l_store_O (j := 0) (k := o.toNat) (q := t) (enc := encZ) (off := io33) rfl rfl rfl rfl Try.sizeOf3 (us := [_]) rfl rfl rfl ha33 encZ_len hel (by with_reducible (repeat (first | exact Z0 | apply Z1))) (by first | rfl | exact (Nat.add_zero _).symm | omega) (by first | decide | exact Nat.le_of_ble_eq_true rfl) (by rfl) ?_
   refine ag_nil ?_
   refine r_done ?_
   refine s_keep [] (e' := []) rfl ?_
   refine k_blk_n ?_
   refine k_then_n ?_
   refine c_seq ?_
   refine c_plain (.q 0 (.done)) (by kernel_rfl) ?_
   refine q_assign rfl rfl rfl rfl ?_
   refine r_done ?_
   refine k_then_n ?_
   refine c_ret ?_
   rw [n5 k5]
   refine rk_fold (b := b) (⟨x.th, x.va, x.vo, x.lk, x.pa, x.T, x.O.set o.toNat t, x.B, x.n + 1⟩) (pa := pa) (pc := pc) (ta := ta) (tc := tc) (oa := oa) (oc := oc) (ba := ba) (bc := bc) (by (repeat ((with_reducible apply Z2); focus (first | (with_reducible (repeat (first | exact Z0 | apply Z1)); done) | (repeat (first | exact Z0 | apply Z1))))); exact Z3) (by rfl) (by rfl) (by simp) (by rfl) ?_
   refine ret1 rfl rfl (()) (by rw [show nxE x k t o = 0 from if_pos hc]) (by trivial) ?_
   (repeat ((with_reducible apply Z2); focus (first | (with_reducible (repeat (first | exact Z0 | apply Z1)); done) | (repeat (first | exact Z0 | apply Z1))))); (repeat (first | exact Z3 | exact Takes.self | refine takes_drop2 ?_))
  ·
   refine c_seq ?_
   refine c_plain (.q 0 (.q 1 (.done))) (by kernel_rfl) ?_
   refine q_int rfl rfl rfl rfl rfl (b_eql _ _ _ _) ?_
   refine q_assign rfl rfl rfl rfl ?_
   refine r_done ?_
   refine s_keep [0, 3, 22, 34] (e' := [(0, _), (3, _), (22, _), (34, _)]) rfl ?_
   refine k_then_n ?_
   refine c_cond_p rfl (fun k6 => ?_) (fun k6 => ?_)
   ·
    have hel := owV_at (x := x) (l := o) (o5 (.inr k6)).1 (by have := (o5 (.inr k6)).2; omega)
    have q5 := o5 (.inr k6)
    refine c_draw rfl (.q 0 (.q 1 (.q 2 (.q 3 (.q 4 (.q 5 (.q 6 ((.l 7 [] (.done)))))))))) (by kernel_rfl) ?_
    refine q_move rfl rfl rfl rfl ?_
    refine q_nil_p rfl rfl rfl rfl ?_
    refine q_field (k := 6) rfl rfl rfl rfl Try.underlying113 rfl Try.sizeOf22 rfl ?_
    refine q_load_c (j := 6) rfl rfl rfl rfl Try.isAgg22 (by with_reducible (repeat (first | exact Z0 | apply Z1))) (by first | rfl | exact (Nat.add_zero _).symm) (by rfl) ?_
    refine q_field (k := 2) rfl rfl rfl rfl Try.underlying40 rfl Try.sizeOf3 rfl ?_
    refine q_load_c (j := 2) rfl rfl rfl rfl Try.isAgg3 (by with_reducible (repeat (first | exact Z0 | apply Z1))) (by first | rfl | exact (Nat.add_zero _).symm) (by rfl) ?_
    refine q_idxO (sz := 0) (k := o.toNat) (enc := encZ) (xs := x.O) rfl rfl rfl rfl rfl Try.underlying22 Try.sizeOf3 hel (by first | rfl | omega) (by omega) (by with_reducible (repeat (first | exact Z0 | apply Z1))) ?_
    intro ib42 io42 ha42 hl42 hc42
    refine l_store_O (j := 0) (k := o.toNat) (q := (-1)) (enc := encZ) (off := io42) rfl rfl rfl rfl Try.sizeOf3 (us := [_]) rfl rfl rfl ha42 encZ_len hel (by with_reducible (repeat (first | exact Z0 | apply Z1))) (by first | rfl | exact (Nat.add_zero _).symm | omega) (by first | decide | exact Nat.le_of_ble_eq_true rfl) (by rfl) ?_
    refine ag_nil ?_
    refine r_done ?_
    refine s_keep [] (e' := []) rfl ?_
    refine k_blk_n ?_
    refine k_then_n ?_
    refine c_seq ?_
    refine c_plain (.q 0 (.done)) (by kernel_rfl) ?_
    refine q_assign rfl rfl rfl rfl ?_
    refine r_done ?_
    refine k_then_n ?_
    refine c_ret ?_
    rw [n6 k6]
    refine rk_fold (b := b) (⟨x.th, x.va, x.vo, x.lk, x.pa, x.T, x.O.set o.toNat (-1), x.B, x.n + 1⟩) (pa := pa) (pc := pc) (ta := ta) (tc := tc) (oa := oa) (oc := oc) (ba := ba) (bc := bc) (by (repeat ((with_reducible apply Z2); focus (first | (with_reducible (repeat (first | exact Z0 | apply Z1)); done) | (repeat (first | exact Z0 | apply Z1))))); exact Z3) (by rfl) (by rfl) (by simp) (by rfl) ?_
    refine ret1 rfl rfl (()) (by rw [show nxE x k t o = 0 from if_pos hc]) (by trivial) ?_
    (repeat ((with_reducible apply Z2); focus (first | (with_reducible (repeat (first | exact Z0 | apply Z1)); done) | (repeat (first | exact Z0 | apply Z1))))); (repeat (first | exact Z3 | exact Takes.self | refine takes_drop2 ?_))
   ·
    refine c_seq ?_
    refine c_plain (.q 0 (.q 1 (.done))) (by kernel_rfl) ?_
    refine q_int rfl rfl rfl rfl rfl (b_eql _ _ _ _) ?_
    refine q_assign rfl rfl rfl rfl ?_
    refine r_done ?_
    refine k_then_n ?_
    refine c_cond_p rfl (fun k7 => ?_) (fun k7 => ?_)
    ·
     have q7 := o7 k7
     have hel := stF_at (x := x) (t := o) q7.1 (by omega)
     have hz : (stF x o).2 = (0, 0) := (stF_inv hx o).2.2.2 (by rw [q7.2.2]; decide)
     refine c_draw rfl (.q 0 (.q 1 (.q 2 (.q 3 (.q 4 (.q 5 (.q 6 (.q 7 ((.l 8 [] (.done))))))))))) (by kernel_rfl) ?_
     refine q_move rfl rfl rfl rfl ?_
     refine q_nil_p rfl rfl rfl rfl ?_
     refine q_field (k := 5) rfl rfl rfl rfl Try.underlying113 rfl Try.sizeOf110 rfl ?_
     refine q_load_c (j := 5) rfl rfl rfl rfl Try.isAgg110 (by with_reducible (repeat (first | exact Z0 | apply Z1))) (by first | rfl | exact (Nat.add_zero _).symm) (by rfl) ?_
     refine q_field (k := 2) rfl rfl rfl rfl Try.underlying40 rfl Try.sizeOf3 rfl ?_
     refine q_load_c (j := 2) rfl rfl rfl rfl Try.isAgg3 (by with_reducible (repeat (first | exact Z0 | apply Z1))) (by first | rfl | exact (Nat.add_zero _).symm) (by rfl) ?_
     refine q_idxO (sz := 2) (k := o.toNat) (enc := enc3) (xs := x.T) rfl rfl rfl rfl rfl Try.underlying110 Try.sizeOf79 hel (by first | rfl | omega) (by omega) (by with_reducible (repeat (first | exact Z0 | apply Z1))) ?_
     intro ib51 io51 ha51 hl51 hc51
     refine q_field (k := 0) rfl rfl rfl rfl Try.underlying79 rfl Try.sizeOf77 rfl ?_
     refine l_store_O (j := 0) (k := o.toNat) (q := (1, 0, 0)) (enc := enc3) (off := io51) rfl rfl rfl rfl Try.sizeOf77 (us := [_]) rfl rfl rfl ha51 enc3_len hel (by with_reducible (repeat (first | exact Z0 | apply Z1))) (by first | rfl | exact (Nat.add_zero _).symm | omega) (by first | decide | exact Nat.le_of_ble_eq_true rfl) (by show [Value.int .i64 1, .int .i64 0, .int .i64 0] = [Value.int .i64 1, .int .i64 (stF x o).2.1, .int .i64 (stF x o).2.2]; rw [hz]) ?_
     refine ag_nil ?_
     refine r_done ?_
     refine s_keep [] (e' := []) rfl ?_
     refine k_blk_n ?_
     refine k_then_n ?_
     refine c_seq ?_
     refine c_plain (.q 0 (.done)) (by kernel_rfl) ?_
     refine q_assign rfl rfl rfl rfl ?_
     refine r_done ?_
     refine k_then_n ?_
     refine c_ret ?_
     rw [n7 k7]
     refine rk_fold (b := b) (⟨x.th, x.va, x.vo, x.lk, x.pa, x.T.set o.toNat (1, 0, 0), x.O, x.B, x.n + 1⟩) (pa := pa) (pc := pc) (ta := ta) (tc := tc) (oa := oa) (oc := oc) (ba := ba) (bc := bc) (by (repeat ((with_reducible apply Z2); focus (first | (with_reducible (repeat (first | exact Z0 | apply Z1)); done) | (repeat (first | exact Z0 | apply Z1))))); exact Z3) (by rfl) (by simp) (by rfl) (by rfl) ?_
     refine ret1 rfl rfl (()) (by rw [show nxE x k t o = 0 from if_pos hc]) (by trivial) ?_
     (repeat ((with_reducible apply Z2); focus (first | (with_reducible (repeat (first | exact Z0 | apply Z1)); done) | (repeat (first | exact Z0 | apply Z1))))); (repeat (first | exact Z3 | exact Takes.self | refine takes_drop2 ?_))
    ·
     refine c_seq ?_
     refine c_plain (.q 0 (.q 1 (.done))) (by kernel_rfl) ?_
     refine q_int rfl rfl rfl rfl rfl (b_eql _ _ _ _) ?_
     refine q_assign rfl rfl rfl rfl ?_
     refine r_done ?_
     refine s_keep [0, 3, 22, 53] (e' := [(0, _), (3, _), (22, _), (53, _)]) rfl ?_
     refine k_then_n ?_
     refine c_cond_p rfl (fun k9 => ?_) (fun k9 => ?_)
     ·
      refine c_seq ?_
      obtain ⟨p0, p1, p2, p3⟩ := o9 k9
      have hop := opF_at (x := x) (b := o) p0 (by omega)
      obtain ⟨pp, hpp⟩ := get_lt p2
      have hbp := hx.op _ _ _ hop hpp
      have hpr := hx.sh.pa pp (List.mem_of_getElem? hpp)
      refine c_draw rfl (.q 0 (.q 1 (.q 2 (.q 3 (.q 4 (.q 5 (.q 6 (.q 7 ((.l 8 [3, 5, 7] ((.l 9 [] (.done))))))))))))) (by kernel_rfl) ?_
      refine q_move rfl rfl rfl rfl ?_
      refine q_nil_p rfl rfl rfl rfl ?_
      refine q_field (k := 7) rfl rfl rfl rfl Try.underlying113 rfl Try.sizeOf111 rfl ?_
      refine q_load_c (j := 7) rfl rfl rfl rfl Try.isAgg111 (by with_reducible (repeat (first | exact Z0 | apply Z1))) (by first | rfl | exact (Nat.add_zero _).symm) (by rfl) ?_
      refine q_field (k := 2) rfl rfl rfl rfl Try.underlying40 rfl Try.sizeOf3 rfl ?_
      refine q_load_c (j := 2) rfl rfl rfl rfl Try.isAgg3 (by with_reducible (repeat (first | exact Z0 | apply Z1))) (by first | rfl | exact (Nat.add_zero _).symm) (by rfl) ?_
      refine q_idxO (sz := 1) (k := o.toNat) (enc := enc2) (xs := x.B) rfl rfl rfl rfl rfl Try.underlying111 Try.sizeOf74 hop (by first | rfl | omega) (by omega) (by with_reducible (repeat (first | exact Z0 | apply Z1))) ?_
      intro ib61 io61 ha61 hl61 hc61
      refine q_loadN_O (j := 0) (k' := o.toNat) (us := [_, _]) (enc := enc2) (off := io61) rfl rfl rfl rfl Try.isAgg74 Try.sizeOf74 ha61 enc2_len hop (by with_reducible (repeat (first | exact Z0 | apply Z1))) (by first | rfl | exact (Nat.add_zero _).symm | omega) (by rfl) rfl ?_
      refine l_alloc rfl rfl rfl Try.zeroValue74 (zs := [.int .i64 0, .int .i64 0]) rfl ?_
      intro b6
      refine ag_load_c (q := 7) rfl rfl rfl Try.isAgg111 (by with_reducible (repeat (first | exact Z0 | apply Z1))) (by first | rfl | exact (Nat.add_zero _).symm) (by rfl) ?_
      refine ag_load_c (q := 2) rfl rfl rfl Try.isAgg3 (by with_reducible (repeat (first | exact Z0 | apply Z1))) (by first | rfl | exact (Nat.add_zero _).symm) (by rfl) ?_
      refine ag_loadN_O (j := 0) (k' := o.toNat) (us := [_, _]) (enc := enc2) (off := io61) rfl rfl rfl Try.isAgg74 Try.sizeOf74 ha61 enc2_len hop (by with_reducible (repeat (first | exact Z0 | apply Z1))) (by first | rfl | exact (Nat.add_zero _).symm | omega) (by rfl) rfl ?_
      refine ag_nil ?_
      refine l_store (j := 0) rfl rfl rfl rfl Try.sizeOf74 (us := [_, _]) rfl rfl rfl (by with_reducible (repeat (first | exact Z0 | apply Z1))) (by first | rfl | exact (Nat.add_zero _).symm) (by first | decide | (simp; done) | omega) ?_
      simp only [setL, List.set]
      refine ag_nil ?_
      refine r_done ?_
      refine s_keep [0, 3, 6] (e' := [(0, _), (3, _), (6, _)]) rfl ?_
      refine k_then_n ?_
      refine c_seq ?_
      refine c_draw rfl (.q 0 (.q 1 (.q 2 (.q 3 (.q 4 (.q 5 (.q 6 (.q 7 (.q 8 (.q 9 (.q 10 (.q 11 ((.l 12 [] (.done))))))))))))))) (by kernel_rfl) ?_
      refine q_move rfl rfl rfl rfl ?_
      refine q_nil_p rfl rfl rfl rfl ?_
      refine q_field (k := 5) rfl rfl rfl rfl Try.underlying113 rfl Try.sizeOf110 rfl ?_
      refine q_load_c (j := 5) rfl rfl rfl rfl Try.isAgg110 (by with_reducible (repeat (first | exact Z0 | apply Z1))) (by first | rfl | exact (Nat.add_zero _).symm) (by rfl) ?_
      refine q_field (k := 1) rfl rfl rfl rfl Try.underlying40 rfl Try.sizeOf3 rfl ?_
      refine q_load_c (j := 1) rfl rfl rfl rfl Try.isAgg3 (by with_reducible (repeat (first | exact Z0 | apply Z1))) (by first | rfl | exact (Nat.add_zero _).symm) (by rfl) ?_
      refine q_field (k := 2) rfl rfl rfl rfl Try.underlying40 rfl Try.sizeOf3 rfl ?_
      refine q_load_c (j := 2) rfl rfl rfl rfl Try.isAgg3 (by with_reducible (repeat (first | exact Z0 | apply Z1))) (by first | rfl | exact (Nat.add_zero _).symm) (by rfl) ?_
      refine q_field (k := 0) rfl rfl rfl rfl Try.underlying74 rfl Try.sizeOf3 rfl ?_
      refine q_load_c (j := 0) rfl rfl rfl rfl Try.isAgg3 (by with_reducible (repeat (first | exact Z0 | apply Z1))) (by first | rfl | exact (Nat.add_zero _).symm) (by rfl) ?_
      refine q_build rfl rfl rfl rfl (vs := [_, _, _]) (run_buildS Try.underlying79 Try.zeroValue79 (ps := [(0, 1), (1, 1), (2, 1)]) ⟨rfl, Try.sizeOf77, rfl, Try.sizeOf3, rfl, Try.sizeOf3, trivial⟩ rfl) ?_
      refine q_idxO (sz := 2) (k := t.toNat) (enc := enc3) (xs := x.T) rfl rfl rfl rfl rfl Try.underlying110 Try.sizeOf79 t2 (by first | rfl | omega) (by omega) (by with_reducible (repeat (first | exact Z0 | apply Z1))) ?_
      intro ib74 io74 ha74 hl74 hc74
      refine l_store_O (j := 0) (k := t.toNat) (q := (2, o, (opF x o).1)) (enc := enc3) (off := io74) rfl rfl rfl rfl Try.sizeOf79 (us := [_, _, _]) rfl rfl rfl ha74 enc3_len t2 (by with_reducible (repeat (first | exact Z0 | apply Z1))) (by first | rfl | exact (Nat.add_zero _).symm | omega) (by first | decide | exact Nat.le_of_ble_eq_true rfl) (by rfl) ?_
      refine ag_nil ?_
      refine r_done ?_
      refine s_keep [0, 3, 6] (e' := [(0, _), (3, _), (6, _)]) rfl ?_
      refine k_then_n ?_
      refine c_seq ?_
      refine c_plain (.q 0 (.q 1 (.q 2 (.q 3 ((.l 4 [] (.done))))))) (by kernel_rfl) ?_
      refine q_field (k := 1) rfl rfl rfl rfl Try.underlying74 rfl Try.sizeOf3 rfl ?_
      refine q_load_c (j := 1) rfl rfl rfl rfl Try.isAgg3 (by with_reducible (repeat (first | exact Z0 | apply Z1))) (by first | rfl | exact (Nat.add_zero _).symm) (by rfl) ?_
      refine q_int rfl rfl rfl rfl rfl (b_add' _ (by exact fits_i64 (by omega) (by omega))) ?_
      refine q_field (k := 1) rfl rfl rfl rfl Try.underlying74 rfl Try.sizeOf3 rfl ?_
      refine l_store (j := 1) rfl rfl rfl rfl Try.sizeOf3 (us := [_]) rfl rfl rfl (by with_reducible (repeat (first | exact Z0 | apply Z1))) (by first | rfl | exact (Nat.add_zero _).symm) (by first | decide | (simp; done) | omega) ?_
      simp only [setL, List.set]
      refine ag_nil ?_
      refine r_done ?_
      refine s_keep [0, 3, 6] (e' := [(0, _), (3, _), (6, _)]) rfl ?_
      refine k_then_n ?_
      refine c_seq ?_
      refine c_seq ?_
      rw [hpl] at hpp p2
      refine c_draw rfl (.q 0 (.q 1 (.q 2 (.q 3 (.q 4 (.q 5 (.q 6 (.q 7 (.q 8 (.q 9 (.q 10 (.q 11 (.done))))))))))))) (by kernel_rfl) ?_
      refine q_field (k := 1) rfl rfl rfl rfl Try.underlying74 rfl Try.sizeOf3 rfl ?_
      refine q_load_c (j := 1) rfl rfl rfl rfl Try.isAgg3 (by with_reducible (repeat (first | exact Z0 | apply Z1))) (by first | rfl | exact (Nat.add_zero _).symm) (by rfl) ?_
      refine q_move rfl rfl rfl rfl ?_
      refine q_nil_p rfl rfl rfl rfl ?_
      refine q_field (k := 0) rfl rfl rfl rfl Try.underlying113 rfl Try.sizeOf24 rfl ?_
      refine q_field (k := 4) rfl rfl rfl rfl Try.underlying24 rfl Try.sizeOf22 rfl ?_
      refine q_load_c (j := 4) rfl rfl rfl rfl Try.isAgg22 (by with_reducible (repeat (first | exact Z0 | apply Z1))) (by first | rfl | exact (Nat.add_zero _).symm) (by rfl) ?_
      refine q_field (k := 2) rfl rfl rfl rfl Try.underlying40 rfl Try.sizeOf3 rfl ?_
      refine q_load_c (j := 2) rfl rfl rfl rfl Try.isAgg3 (by with_reducible (repeat (first | exact Z0 | apply Z1))) (by first | rfl | exact (Nat.add_zero _).symm) (by rfl) ?_
      refine q_idxO (sz := 0) (k := o.toNat) (enc := encZ) (xs := pl) rfl rfl rfl rfl rfl Try.underlying22 Try.sizeOf3 hpp (by omega) (by rw [hpl]; omega) (by with_reducible (repeat (first | exact Z0 | apply Z1))) ?_
      intro ib88 io88 ha88 hl88 hc88
      refine q_load_O (v := (.int .i64 pp)) (j := 0) (k' := o.toNat) (enc := encZ) (off := io88) rfl rfl rfl rfl Try.isAgg3 ha88 encZ_len hpp (by with_reducible (repeat (first | exact Z0 | apply Z1))) (by first | rfl | exact (Nat.add_zero _).symm | omega) (by rfl) ?_
      refine q_int rfl rfl rfl rfl rfl (b_eql _ _ _ _) ?_
      refine r_done ?_
      refine s_keep [0, 3, 6, 90] (e' := [(0, _), (3, _), (6, _), (90, _)]) rfl ?_
      refine k_then_n ?_
      refine c_cond_p rfl (fun hful => ?_) (fun hful => ?_)
      ·
       refine c_plain (.q 0 (.q 1 (.q 2 (.q 3 ((.l 4 [] (.done))))))) (by kernel_rfl) ?_
       refine q_field (k := 0) rfl rfl rfl rfl Try.underlying74 rfl Try.sizeOf3 rfl ?_
       refine q_load_c (j := 0) rfl rfl rfl rfl Try.isAgg3 (by with_reducible (repeat (first | exact Z0 | apply Z1))) (by first | rfl | exact (Nat.add_zero _).symm) (by rfl) ?_
       refine q_int rfl rfl rfl rfl rfl (b_add' _ (by exact fits_i64 (by omega) (by omega))) ?_
       refine q_build rfl rfl rfl rfl (vs := [_, _]) (run_buildS Try.underlying74 Try.zeroValue74 (ps := [(0, 1), (1, 1)]) ⟨rfl, Try.sizeOf3, rfl, Try.sizeOf3, trivial⟩ rfl) ?_
       refine l_store (j := 0) rfl rfl rfl rfl Try.sizeOf74 (us := [_, _]) rfl rfl rfl (by with_reducible (repeat (first | exact Z0 | apply Z1))) (by first | rfl | exact (Nat.add_zero _).symm) (by first | decide | (simp; done) | omega) ?_
       simp only [setL, List.set]
       refine ag_nil ?_
       refine r_done ?_
       refine s_keep [0, 3, 6] (e' := [(0, _), (3, _), (6, _)]) rfl ?_
       refine k_then_n ?_
       refine c_draw rfl (.q 0 (.q 1 (.q 2 (.q 3 (.q 4 (.q 5 (.q 6 (.q 7 ((.l 8 [] (.done))))))))))) (by kernel_rfl) ?_
       refine q_move rfl rfl rfl rfl ?_
       refine q_nil_p rfl rfl rfl rfl ?_
       refine q_field (k := 7) rfl rfl rfl rfl Try.underlying113 rfl Try.sizeOf111 rfl ?_
       refine q_load_c (j := 7) rfl rfl rfl rfl Try.isAgg111 (by with_reducible (repeat (first | exact Z0 | apply Z1))) (by first | rfl | exact (Nat.add_zero _).symm) (by rfl) ?_
       refine q_field (k := 2) rfl rfl rfl rfl Try.underlying40 rfl Try.sizeOf3 rfl ?_
       refine q_load_c (j := 2) rfl rfl rfl rfl Try.isAgg3 (by with_reducible (repeat (first | exact Z0 | apply Z1))) (by first | rfl | exact (Nat.add_zero _).symm) (by rfl) ?_
       refine q_loadN_c rfl rfl rfl rfl Try.isAgg74 Try.sizeOf74 (by with_reducible (repeat (first | exact Z0 | apply Z1))) 0 (us := [_, _]) (by first | rfl | exact (Nat.add_zero _).symm) rfl rfl ?_
       refine q_idxO (sz := 1) (k := o.toNat) (enc := enc2) (xs := x.B) rfl rfl rfl rfl rfl Try.underlying111 Try.sizeOf74 hop (by first | rfl | omega) (by omega) (by with_reducible (repeat (first | exact Z0 | apply Z1))) ?_
       intro ib102 io102 ha102 hl102 hc102
       refine l_store_O (j := 0) (k := o.toNat) (q := (((opF x o).1) + 1, 0)) (enc := enc2) (off := io102) rfl rfl rfl rfl Try.sizeOf74 (us := [_, _]) rfl rfl rfl ha102 enc2_len hop (by with_reducible (repeat (first | exact Z0 | apply Z1))) (by first | rfl | exact (Nat.add_zero _).symm | omega) (by first | decide | exact Nat.le_of_ble_eq_true rfl) (by rfl) ?_
       refine ag_nil ?_
       refine r_done ?_
       refine s_keep [] (e' := []) rfl ?_
       refine k_blk_n ?_
       refine k_then_n ?_
       refine c_seq ?_
       refine c_plain (.q 0 (.done)) (by kernel_rfl) ?_
       refine q_assign rfl rfl rfl rfl ?_
       refine r_done ?_
       refine k_then_n ?_
       refine c_ret ?_
       rw [n9 k9, hpl, getD_some hpp, ← hpl, show arrF (opF x o) pp = ((opF x o).1 + 1, 0) from if_pos hful]
       refine rk_fold (b := b) (⟨x.th, x.va, x.vo, x.lk, x.pa, x.T.set t.toNat (2, o, (opF x o).1), x.O, x.B.set o.toNat ((opF x o).1 + 1, 0), x.n + 1⟩) (pa := pa) (pc := pc) (ta := ta) (tc := tc) (oa := oa) (oc := oc) (ba := ba) (bc := bc) (by (repeat ((with_reducible apply Z2); focus (first | (with_reducible (repeat (first | exact Z0 | apply Z1)); done) | (repeat (first | exact Z0 | apply Z1))))); exact Z3) (by rfl) (by simp) (by rfl) (by simp) ?_
       refine ret1 rfl rfl (()) (by rw [show nxE x k t o = 0 from if_pos hc]) (by trivial) ?_
       (repeat ((with_reducible apply Z2); focus (first | (with_reducible (repeat (first | exact Z0 | apply Z1)); done) | (repeat (first | exact Z0 | apply Z1))))); (repeat (first | exact Z3 | exact Takes.self | refine takes_drop2 ?_))
      ·
       refine c_skip ?_
       refine k_then_n ?_
       refine c_draw rfl (.q 0 (.q 1 (.q 2 (.q 3 (.q 4 (.q 5 (.q 6 (.q 7 ((.l 8 [] (.done))))))))))) (by kernel_rfl) ?_
       refine q_move rfl rfl rfl rfl ?_
       refine q_nil_p rfl rfl rfl rfl ?_
       refine q_field (k := 7) rfl rfl rfl rfl Try.underlying113 rfl Try.sizeOf111 rfl ?_
       refine q_load_c (j := 7) rfl rfl rfl rfl Try.isAgg111 (by with_reducible (repeat (first | exact Z0 | apply Z1))) (by first | rfl | exact (Nat.add_zero _).symm) (by rfl) ?_
       refine q_field (k := 2) rfl rfl rfl rfl Try.underlying40 rfl Try.sizeOf3 rfl ?_
       refine q_load_c (j := 2) rfl rfl rfl rfl Try.isAgg3 (by with_reducible (repeat (first | exact Z0 | apply Z1))) (by first | rfl | exact (Nat.add_zero _).symm) (by rfl) ?_
       refine q_loadN_c rfl rfl rfl rfl Try.isAgg74 Try.sizeOf74 (by with_reducible (repeat (first | exact Z0 | apply Z1))) 0 (us := [_, _]) (by first | rfl | exact (Nat.add_zero _).symm) rfl rfl ?_
       refine q_idxO (sz := 1) (k := o.toNat) (enc := enc2) (xs := x.B) rfl rfl rfl rfl rfl Try.underlying111 Try.sizeOf74 hop (by first | rfl | omega) (by omega) (by with_reducible (repeat (first | exact Z0 | apply Z1))) ?_
       intro ib102 io102 ha102 hl102 hc102
       refine l_store_O (j := 0) (k := o.toNat) (q := ((opF x o).1, ((opF x o).2) + 1)) (enc := enc2) (off := io102) rfl rfl rfl rfl Try.sizeOf74 (us := [_, _]) rfl rfl rfl ha102 enc2_len hop (by with_reducible (repeat (first | exact Z0 | apply Z1))) (by first | rfl | exact (Nat.add_zero _).symm | omega) (by first | decide | exact Nat.le_of_ble_eq_true rfl) (by rfl) ?_
       refine ag_nil ?_
       refine r_done ?_
       refine s_keep [] (e' := []) rfl ?_
       refine k_blk_n ?_
       refine k_then_n ?_
       refine c_seq ?_
       refine c_plain (.q 0 (.done)) (by kernel_rfl) ?_
       refine q_assign rfl rfl rfl rfl ?_
       refine r_done ?_
       refine k_then_n ?_
       refine c_ret ?_
       rw [n9 k9, hpl, getD_some hpp, ← hpl, show arrF (opF x o) pp = ((opF x o).1, (opF x o).2 + 1) from if_neg hful]
       refine rk_fold (b := b) (⟨x.th, x.va, x.vo, x.lk, x.pa, x.T.set t.toNat (2, o, (opF x o).1), x.O, x.B.set o.toNat ((opF x o).1, (opF x o).2 + 1), x.n + 1⟩) (pa := pa) (pc := pc) (ta := ta) (tc := tc) (oa := oa) (oc := oc) (ba := ba) (bc := bc) (by (repeat ((with_reducible apply Z2); focus (first | (with_reducible (repeat (first | exact Z0 | apply Z1)); done) | (repeat (first | exact Z0 | apply Z1))))); exact Z3) (by rfl) (by simp) (by rfl) (by simp) ?_
       refine ret1 rfl rfl (()) (by rw [show nxE x k t o = 0 from if_pos hc]) (by trivial) ?_
       (repeat ((with_reducible apply Z2); focus (first | (with_reducible (repeat (first | exact Z0 | apply Z1)); done) | (repeat (first | exact Z0 | apply Z1))))); (repeat (first | exact Z3 | exact Takes.self | refine takes_drop2 ?_))
     ·
      refine c_seq ?_
      refine c_plain (.q 0 (.q 1 (.done))) (by kernel_rfl) ?_
      refine q_int rfl rfl rfl rfl rfl (b_eql _ _ _ _) ?_
      refine q_assign rfl rfl rfl rfl ?_
      refine r_done ?_
      refine k_then_n ?_
      refine c_cond_p rfl (fun k10 => ?_) (fun k10 => ?_)
      ·
       refine c_draw rfl (.q 0 (.q 1 (.q 2 (.q 3 (.q 4 (.q 5 (.q 6 (.q 7 ((.l 8 [] (.done))))))))))) (by kernel_rfl) ?_
       refine q_move rfl rfl rfl rfl ?_
       refine q_nil_p rfl rfl rfl rfl ?_
       refine q_field (k := 5) rfl rfl rfl rfl Try.underlying113 rfl Try.sizeOf110 rfl ?_
       refine q_load_c (j := 5) rfl rfl rfl rfl Try.isAgg110 (by with_reducible (repeat (first | exact Z0 | apply Z1))) (by first | rfl | exact (Nat.add_zero _).symm) (by rfl) ?_
       refine q_field (k := 1) rfl rfl rfl rfl Try.underlying40 rfl Try.sizeOf3 rfl ?_
       refine q_load_c (j := 1) rfl rfl rfl rfl Try.isAgg3 (by with_reducible (repeat (first | exact Z0 | apply Z1))) (by first | rfl | exact (Nat.add_zero _).symm) (by rfl) ?_
       refine q_build rfl rfl rfl rfl (vs := [_, _, _]) (run_buildS Try.underlying79 Try.zeroValue79 (ps := [(0, 1), (1, 1), (2, 1)]) ⟨rfl, Try.sizeOf77, rfl, Try.sizeOf3, rfl, Try.sizeOf3, trivial⟩ rfl) ?_
       refine q_idxO (sz := 2) (k := t.toNat) (enc := enc3) (xs := x.T) rfl rfl rfl rfl rfl Try.underlying110 Try.sizeOf79 t2 (by first | rfl | omega) (by omega) (by with_reducible (repeat (first | exact Z0 | apply Z1))) ?_
       intro ib112 io112 ha112 hl112 hc112
       refine l_store_O (j := 0) (k := t.toNat) (q := (1, 0, 0)) (enc := enc3) (off := io112) rfl rfl rfl rfl Try.sizeOf79 (us := [_, _, _]) rfl rfl rfl ha112 enc3_len t2 (by with_reducible (repeat (first | exact Z0 | apply Z1))) (by first | rfl | exact (Nat.add_zero _).symm | omega) (by first | decide | exact Nat.le_of_ble_eq_true rfl) (by rfl) ?_
       refine ag_nil ?_
       refine r_done ?_
       refine s_keep [] (e' := []) rfl ?_
       refine k_blk_n ?_
       refine k_then_n ?_
       refine c_seq ?_
       refine c_plain (.q 0 (.done)) (by kernel_rfl) ?_
       refine q_assign rfl rfl rfl rfl ?_
       refine r_done ?_
       refine k_then_n ?_
       refine c_ret ?_
       rw [n10 k10]
       refine rk_fold (b := b) (⟨x.th, x.va, x.vo, x.lk, x.pa, x.T.set t.toNat (1, 0, 0), x.O, x.B, x.n + 1⟩) (pa := pa) (pc := pc) (ta := ta) (tc := tc) (oa := oa) (oc := oc) (ba := ba) (bc := bc) (by (repeat ((with_reducible apply Z2); focus (first | (with_reducible (repeat (first | exact Z0 | apply Z1)); done) | (repeat (first | exact Z0 | apply Z1))))); exact Z3) (by rfl) (by simp) (by rfl) (by rfl) ?_
       refine ret1 rfl rfl (()) (by rw [show nxE x k t o = 0 from if_pos hc]) (by trivial) ?_
       (repeat ((with_reducible apply Z2); focus (first | (with_reducible (repeat (first | exact Z0 | apply Z1)); done) | (repeat (first | exact Z0 | apply Z1))))); (repeat (first | exact Z3 | exact Takes.self | refine takes_drop2 ?_))
      ·
       refine c_seq ?_
       refine c_plain (.q 0 (.q 1 (.done))) (by kernel_rfl) ?_
       refine q_int rfl rfl rfl rfl rfl (b_eql _ _ _ _) ?_
       refine q_assign rfl rfl rfl rfl ?_
       refine r_done ?_
       refine s_keep [0, 3, 113] (e' := [(0, _), (3, _), (113, _)]) rfl ?_
       refine k_then_n ?_
       refine c_cond_p rfl (fun k11 => ?_) (fun k11 => ?_)
       ·
        refine c_draw rfl (.q 0 (.q 1 (.q 2 (.q 3 (.q 4 (.q 5 (.q 6 (.q 7 ((.l 8 [] (.done))))))))))) (by kernel_rfl) ?_
        refine q_move rfl rfl rfl rfl ?_
        refine q_nil_p rfl rfl rfl rfl ?_
        refine q_field (k := 5) rfl rfl rfl rfl Try.underlying113 rfl Try.sizeOf110 rfl ?_
        refine q_load_c (j := 5) rfl rfl rfl rfl Try.isAgg110 (by with_reducible (repeat (first | exact Z0 | apply Z1))) (by first | rfl | exact (Nat.add_zero _).symm) (by rfl) ?_
        refine q_field (k := 1) rfl rfl rfl rfl Try.underlying40 rfl Try.sizeOf3 rfl ?_
        refine q_load_c (j := 1) rfl rfl rfl rfl Try.isAgg3 (by with_reducible (repeat (first | exact Z0 | apply Z1))) (by first | rfl | exact (Nat.add_zero _).symm) (by rfl) ?_
        refine q_build rfl rfl rfl rfl (vs := [_, _, _]) (run_buildS Try.underlying79 Try.zeroValue79 (ps := [(0, 1), (1, 1), (2, 1)]) ⟨rfl, Try.sizeOf77, rfl, Try.sizeOf3, rfl, Try.sizeOf3, trivial⟩ rfl) ?_
        refine q_idxO (sz := 2) (k := t.toNat) (enc := enc3) (xs := x.T) rfl rfl rfl rfl rfl Try.underlying110 Try.sizeOf79 t2 (by first | rfl | omega) (by omega) (by with_reducible (repeat (first | exact Z0 | apply Z1))) ?_
        intro ib122 io122 ha122 hl122 hc122
        refine l_store_O (j := 0) (k := t.toNat) (q := (3, 0, 0)) (enc := enc3) (off := io122) rfl rfl rfl rfl Try.sizeOf79 (us := [_, _, _]) rfl rfl rfl ha122 enc3_len t2 (by with_reducible (repeat (first | exact Z0 | apply Z1))) (by first | rfl | exact (Nat.add_zero _).symm | omega) (by first | decide | exact Nat.le_of_ble_eq_true rfl) (by rfl) ?_
        refine ag_nil ?_
        refine r_done ?_
        refine s_keep [] (e' := []) rfl ?_
        refine k_blk_n ?_
        refine k_then_n ?_
        refine c_seq ?_
        refine c_plain (.q 0 (.done)) (by kernel_rfl) ?_
        refine q_assign rfl rfl rfl rfl ?_
        refine r_done ?_
        refine k_then_n ?_
        refine c_ret ?_
        rw [n11 k11]
        refine rk_fold (b := b) (⟨x.th, x.va, x.vo, x.lk, x.pa, x.T.set t.toNat (3, 0, 0), x.O, x.B, x.n + 1⟩) (pa := pa) (pc := pc) (ta := ta) (tc := tc) (oa := oa) (oc := oc) (ba := ba) (bc := bc) (by (repeat ((with_reducible apply Z2); focus (first | (with_reducible (repeat (first | exact Z0 | apply Z1)); done) | (repeat (first | exact Z0 | apply Z1))))); exact Z3) (by rfl) (by simp) (by rfl) (by rfl) ?_
        refine ret1 rfl rfl (()) (by rw [show nxE x k t o = 0 from if_pos hc]) (by trivial) ?_
        (repeat ((with_reducible apply Z2); focus (first | (with_reducible (repeat (first | exact Z0 | apply Z1)); done) | (repeat (first | exact Z0 | apply Z1))))); (repeat (first | exact Z3 | exact Takes.self | refine takes_drop2 ?_))
       ·
        refine c_skip ?_
        refine k_blk_n ?_
        refine k_then_n ?_
        refine c_seq ?_
        refine c_plain (.q 0 (.done)) (by kernel_rfl) ?_
        refine q_assign rfl rfl rfl rfl ?_
        refine r_done ?_
        refine k_then_n ?_
        refine c_ret ?_
        rw [nn k5 k6 k7 k9 k10 k11]
        refine rk_fold (b := b) (⟨x.th, x.va, x.vo, x.lk, x.pa, x.T, x.O, x.B, x.n + 1⟩) (pa := pa) (pc := pc) (ta := ta) (tc := tc) (oa := oa) (oc := oc) (ba := ba) (bc := bc) (by (repeat ((with_reducible apply Z2); focus (first | (with_reducible (repeat (first | exact Z0 | apply Z1)); done) | (repeat (first | exact Z0 | apply Z1))))); exact Z3) (by rfl) (by rfl) (by rfl) (by rfl) ?_
        refine ret1 rfl rfl (()) (by rw [show nxE x k t o = 0 from if_pos hc]) (by trivial) ?_
        (repeat ((with_reducible apply Z2); focus (first | (with_reducible (repeat (first | exact Z0 | apply Z1)); done) | (repeat (first | exact Z0 | apply Z1))))); (repeat (first | exact Z3 | exact Takes.self | refine takes_drop2 ?_))

theorem rlen_spec (pa : Option Addr) (pc b : Nat) (x : CS) : Spec Try.prog 31 [.pointer (some ⟨b, 0, none⟩)] [rk pa pc b x] (fun (_ : Unit) => .int .i64 x.n) (fun _ => True) (fun _ => [rk pa pc b x]) := by
 refine spec_mk (n := 9) Try.func31 rfl rfl rfl ?_
 intro Γ w0
 simp only [argE, List.cons_append, List.nil_append, Nat.zero_add, Nat.reduceAdd]
 refine c_seq ?_
 refine c_plain (.q 0 (.done)) (by kernel_rfl) ?_
 refine q_assign rfl rfl rfl rfl ?_
 refine r_done ?_
 refine k_then_n ?_
 refine c_seq ?_
 refine c_seq ?_
 refine c_plain (.q 0 (.q 1 (.done))) (by kernel_rfl) ?_
 refine q_move rfl rfl rfl rfl ?_
 refine q_eq_nil rfl rfl rfl rfl Try.underlying58 ?_
 refine s_eq 4 rfl (v' := .bool false) rfl ?_
 refine r_done ?_
 refine k_then_n ?_
 refine c_cond_f rfl ?_
 refine c_skip ?_
 refine k_then_n ?_
 refine c_seq ?_
 refine s_take (A := rk pa pc b x) (by with_reducible (repeat (first | exact Z0 | apply Z1))) ?_
 refine rk_open fun ta tc oa oc ba bc => ?_
 refine c_plain (.q 0 (.q 1 (.q 2 (.q 3 (.q 4 (.done)))))) (by kernel_rfl) ?_
 refine q_move rfl rfl rfl rfl ?_
 refine q_nil_p rfl rfl rfl rfl ?_
 refine q_field (k := 8) rfl rfl rfl rfl Try.underlying113 rfl Try.sizeOf3 rfl ?_
 refine q_load_c (j := 8) rfl rfl rfl rfl Try.isAgg3 (by with_reducible (repeat (first | exact Z0 | apply Z1))) (by first | rfl | exact (Nat.add_zero _).symm) (by rfl) ?_
 refine q_assign rfl rfl rfl rfl ?_
 refine r_done ?_
 refine s_keep [2] (e' := [(2, _)]) rfl ?_
 refine k_then_n ?_
 refine c_ret ?_
 refine rk_fold (b := b) x (pa := pa) (pc := pc) (ta := ta) (tc := tc) (oa := oa) (oc := oc) (ba := ba) (bc := bc) (by (repeat ((with_reducible apply Z2); focus (first | (with_reducible (repeat (first | exact Z0 | apply Z1)); done) | (repeat (first | exact Z0 | apply Z1))))); exact Z3) (by rfl) (by rfl) (by rfl) (by rfl) ?_
 refine ret1 rfl rfl (()) (by first | rfl | (first | rfl | (congr 1; done) | (congr 1 <;> first | rfl | omega | (simp; done) | (simp; omega)))) (by trivial) ?_
 (repeat ((with_reducible apply Z2); focus (first | (with_reducible (repeat (first | exact Z0 | apply Z1)); done) | (repeat (first | exact Z0 | apply Z1))))); (repeat (first | exact Z3 | exact Takes.self | refine takes_drop2 ?_))

theorem rstand_spec (pa : Option Addr) (pc b : Nat) (x : CS) (hx : CInv x) (t : Int) : Spec Try.prog 36 [.pointer (some ⟨b, 0, none⟩), .int .i64 t] [rk pa pc b x] (fun (_ : Unit) => .tuple #[ev3 (stF x t), .int .i64 (if 0 ≤ t ∧ t < x.th then 0 else 2)]) (fun _ => True) (fun _ => [rk pa pc b x]) := by
 refine spec_mk (n := 25) Try.func36 rfl rfl rfl ?_
 intro Γ w0
 simp only [argE, List.cons_append, List.nil_append, Nat.zero_add, Nat.reduceAdd]
 have htl := hx.tl
 have hol := hx.ol
 have hbl := hx.bl
 refine c_seq ?_
 refine c_plain ((.l 0 [] (.q 1 (.done)))) (by kernel_rfl) ?_
 refine l_alloc rfl rfl rfl Try.zeroValue79 (zs := [.int .i64 0, .int .i64 0, .int .i64 0]) rfl ?_
 intro b4
 refine ag_nil ?_
 refine q_assign rfl rfl rfl rfl ?_
 refine r_done ?_
 refine k_then_n ?_
 refine c_seq ?_
 refine c_seq ?_
 refine c_plain (.q 0 (.q 1 (.done))) (by kernel_rfl) ?_
 refine q_move rfl rfl rfl rfl ?_
 refine q_eq_nil rfl rfl rfl rfl Try.underlying58 ?_
 refine s_eq 7 rfl (v' := .bool false) rfl ?_
 refine r_done ?_
 refine k_then_n ?_
 refine c_cond_f rfl ?_
 refine c_skip ?_
 refine k_then_n ?_
 refine c_seq ?_
 refine c_seq ?_
 refine s_take (A := rk pa pc b x) (by with_reducible (repeat (first | exact Z0 | apply Z1))) ?_
 refine rk_open fun ta tc oa oc ba bc => ?_
 refine c_plain (.q 0 (.q 1 (.q 2 (.q 3 (.q 4 (.q 5 ((.l 6 [] (.q 7 (.done)))))))))) (by kernel_rfl) ?_
 refine q_move rfl rfl rfl rfl ?_
 refine q_move rfl rfl rfl rfl ?_
 refine q_nil_p rfl rfl rfl rfl ?_
 refine q_field (k := 5) rfl rfl rfl rfl Try.underlying113 rfl Try.sizeOf110 rfl ?_
 refine q_load_c (j := 5) rfl rfl rfl rfl Try.isAgg110 (by with_reducible (repeat (first | exact Z0 | apply Z1))) (by first | rfl | exact (Nat.add_zero _).symm) (by rfl) ?_
 refine q_len rfl rfl rfl rfl Try.underlying110 ?_
 have sp_1 := below_spec t ((x.T.length : Nat) : Int)
 refine l_call rfl rfl rfl rfl rfl rfl Try.call52 (sp_1) (by (repeat ((with_reducible apply Z2); focus (first | (with_reducible (repeat (first | exact Z0 | apply Z1)); done) | (repeat (first | exact Z0 | apply Z1))))); exact Z3) ?_
 rintro ⟨⟩ -
 try simp only [List.cons_append, List.nil_append]
 refine ag_nil ?_
 refine q_not rfl rfl rfl rfl ?_
 refine r_done ?_
 refine s_keep [0, 1, 4, 16] (e' := [(0, _), (1, _), (4, _), (16, _)]) rfl ?_
 refine k_then_n ?_
 refine c_cond_np rfl (fun hin => ?_) (fun hin => ?_)
 ·
  have hno : ¬ (0 ≤ t ∧ t < x.th) := fun h => hin (by omega)
  refine c_seq ?_
  refine c_plain (.q 0 ((.l 1 [] (.q 2 (.done))))) (by kernel_rfl) ?_
  refine q_build rfl rfl rfl rfl (vs := [_, _, _]) (run_buildS Try.underlying79 Try.zeroValue79 (ps := [(0, 1), (1, 1), (2, 1)]) ⟨rfl, Try.sizeOf77, rfl, Try.sizeOf3, rfl, Try.sizeOf3, trivial⟩ rfl) ?_
  refine l_store (j := 0) rfl rfl rfl rfl Try.sizeOf79 (us := [_, _, _]) rfl rfl rfl (by with_reducible (repeat (first | exact Z0 | apply Z1))) (by first | rfl | exact (Nat.add_zero _).symm) (by first | decide | (simp; done) | omega) ?_
  simp only [setL, List.set]
  refine ag_nil ?_
  refine q_assign rfl rfl rfl rfl ?_
  refine r_done ?_
  refine s_keep [4, 5] (e' := [(4, _), (5, _)]) rfl ?_
  refine k_then_n ?_
  refine c_ret ?_
  refine k_then_ret ?_
  refine rk_fold (b := b) x (pa := pa) (pc := pc) (ta := ta) (tc := tc) (oa := oa) (oc := oc) (ba := ba) (bc := bc) (by (repeat ((with_reducible apply Z2); focus (first | (with_reducible (repeat (first | exact Z0 | apply Z1)); done) | (repeat (first | exact Z0 | apply Z1))))); exact Z3) (by rfl) (by rfl) (by rfl) (by rfl) ?_
  refine retL (us := [_, _]) rfl ⟨rv_cellN rfl Try.isAgg79 Try.sizeOf79 (by with_reducible (repeat (first | exact Z0 | apply Z1))) 0 rfl (us := [_, _, _]) rfl rfl, rv_tmp rfl, trivial⟩ (()) (by rw [if_neg hno, stF_out (by omega)]; rfl) (by trivial) ?_
  (repeat ((with_reducible apply Z2); focus (first | (with_reducible (repeat (first | exact Z0 | apply Z1)); done) | (repeat (first | exact Z0 | apply Z1))))); (repeat (first | exact Z3 | exact Takes.self | refine takes_drop2 ?_))
 ·
  have hyes : 0 ≤ t ∧ t < x.th := by omega
  have hel := stF_at (x := x) (t := t) hin.1 hin.2
  refine c_skip ?_
  refine k_then_n ?_
  refine c_seq ?_
  refine c_plain (.q 0 (.q 1 (.q 2 (.q 3 (.q 4 (.q 5 (.q 6 ((.l 7 [] (.q 8 (.done))))))))))) (by kernel_rfl) ?_
  refine q_move rfl rfl rfl rfl ?_
  refine q_nil_p rfl rfl rfl rfl ?_
  refine q_field (k := 5) rfl rfl rfl rfl Try.underlying113 rfl Try.sizeOf110 rfl ?_
  refine q_load_c (j := 5) rfl rfl rfl rfl Try.isAgg110 (by with_reducible (repeat (first | exact Z0 | apply Z1))) (by first | rfl | exact (Nat.add_zero _).symm) (by rfl) ?_
  refine q_move rfl rfl rfl rfl ?_
  refine q_idxO (sz := 2) (k := t.toNat) (enc := enc3) (xs := x.T) rfl rfl rfl rfl rfl Try.underlying110 Try.sizeOf79 hel (by first | rfl | omega) (by omega) (by with_reducible (repeat (first | exact Z0 | apply Z1))) ?_
  intro ib23 io23 ha23 hl23 hc23
  refine q_loadN_O (j := 0) (k' := t.toNat) (us := [_, _, _]) (enc := enc3) (off := io23) rfl rfl rfl rfl Try.isAgg79 Try.sizeOf79 ha23 enc3_len hel (by with_reducible (repeat (first | exact Z0 | apply Z1))) (by first | rfl | exact (Nat.add_zero _).symm | omega) (by rfl) rfl ?_
  refine l_store (j := 0) rfl rfl rfl rfl Try.sizeOf79 (us := [_, _, _]) rfl rfl rfl (by with_reducible (repeat (first | exact Z0 | apply Z1))) (by first | rfl | exact (Nat.add_zero _).symm) (by first | decide | (simp; done) | omega) ?_
  simp only [setL, List.set]
  refine ag_nil ?_
  refine q_assign rfl rfl rfl rfl ?_
  refine r_done ?_
  refine s_keep [4, 5] (e' := [(4, _), (5, _)]) rfl ?_
  refine k_then_n ?_
  refine c_ret ?_
  refine rk_fold (b := b) x (pa := pa) (pc := pc) (ta := ta) (tc := tc) (oa := oa) (oc := oc) (ba := ba) (bc := bc) (by (repeat ((with_reducible apply Z2); focus (first | (with_reducible (repeat (first | exact Z0 | apply Z1)); done) | (repeat (first | exact Z0 | apply Z1))))); exact Z3) (by rfl) (by rfl) (by rfl) (by rfl) ?_
  refine retL (us := [_, _]) rfl ⟨rv_cellN rfl Try.isAgg79 Try.sizeOf79 (by with_reducible (repeat (first | exact Z0 | apply Z1))) 0 rfl (us := [_, _, _]) rfl rfl, rv_tmp rfl, trivial⟩ (()) (by rw [if_pos hyes]; rfl) (by trivial) ?_
  (repeat ((with_reducible apply Z2); focus (first | (with_reducible (repeat (first | exact Z0 | apply Z1)); done) | (repeat (first | exact Z0 | apply Z1))))); (repeat (first | exact Z3 | exact Takes.self | refine takes_drop2 ?_))


theorem rround_spec (pa : Option Addr) (pc b : Nat) (x : CS) (l : Int) : Spec Try.prog 35 [.pointer (some ⟨b, 0, none⟩), .int .i64 l] [rk pa pc b x] (fun (_ : Unit) => .tuple #[ev2 (if 0 ≤ l ∧ l < (x.B.length : Int) then opF x l else (0, 0)), .int .i64 (if 0 ≤ l ∧ l < (x.B.length : Int) then 0 else 2)]) (fun _ => True) (fun _ => [rk pa pc b x]) := by
 refine spec_mk (n := 25) Try.func35 rfl rfl rfl ?_
 intro Γ w0
 simp only [argE, List.cons_append, List.nil_append, Nat.zero_add, Nat.reduceAdd]
 refine c_seq ?_
 refine c_plain ((.l 0 [] (.q 1 (.done)))) (by kernel_rfl) ?_
 refine l_alloc rfl rfl rfl Try.zeroValue74 (zs := [.int .i64 0, .int .i64 0]) rfl ?_
 intro b4
 refine ag_nil ?_
 refine q_assign rfl rfl rfl rfl ?_
 refine r_done ?_
 refine k_then_n ?_
 refine c_seq ?_
 refine c_seq ?_
 refine c_plain (.q 0 (.q 1 (.done))) (by kernel_rfl) ?_
 refine q_move rfl rfl rfl rfl ?_
 refine q_eq_nil rfl rfl rfl rfl Try.underlying58 ?_
 refine s_eq 7 rfl (v' := .bool false) rfl ?_
 refine r_done ?_
 refine k_then_n ?_
 refine c_cond_f rfl ?_
 refine c_skip ?_
 refine k_then_n ?_
 refine c_seq ?_
 refine c_seq ?_
 refine s_take (A := rk pa pc b x) (by with_reducible (repeat (first | exact Z0 | apply Z1))) ?_
 refine rk_open fun ta tc oa oc ba bc => ?_
 refine c_plain (.q 0 (.q 1 (.q 2 (.q 3 (.q 4 (.q 5 ((.l 6 [] (.q 7 (.done)))))))))) (by kernel_rfl) ?_
 refine q_move rfl rfl rfl rfl ?_
 refine q_move rfl rfl rfl rfl ?_
 refine q_nil_p rfl rfl rfl rfl ?_
 refine q_field (k := 7) rfl rfl rfl rfl Try.underlying113 rfl Try.sizeOf111 rfl ?_
 refine q_load_c (j := 7) rfl rfl rfl rfl Try.isAgg111 (by with_reducible (repeat (first | exact Z0 | apply Z1))) (by first | rfl | exact (Nat.add_zero _).symm) (by rfl) ?_
 refine q_len rfl rfl rfl rfl Try.underlying111 ?_
 have sp_1 := below_spec l ((x.B.length : Nat) : Int)
 refine l_call rfl rfl rfl rfl rfl rfl Try.call52 (sp_1) (by (repeat ((with_reducible apply Z2); focus (first | (with_reducible (repeat (first | exact Z0 | apply Z1)); done) | (repeat (first | exact Z0 | apply Z1))))); exact Z3) ?_
 rintro ⟨⟩ -
 try simp only [List.cons_append, List.nil_append]
 refine ag_nil ?_
 refine q_not rfl rfl rfl rfl ?_
 refine r_done ?_
 refine s_keep [0, 1, 4, 16] (e' := [(0, _), (1, _), (4, _), (16, _)]) rfl ?_
 refine k_then_n ?_
 refine c_cond_np rfl (fun hin => ?_) (fun hin => ?_)
 ·
  have hno : ¬ (0 ≤ l ∧ l < (x.B.length : Int)) := fun h => hin (by omega)
  refine c_seq ?_
  refine c_plain (.q 0 ((.l 1 [] (.q 2 (.done))))) (by kernel_rfl) ?_
  refine q_build rfl rfl rfl rfl (vs := [_, _]) (run_buildS Try.underlying74 Try.zeroValue74 (ps := [(0, 1), (1, 1)]) ⟨rfl, Try.sizeOf3, rfl, Try.sizeOf3, trivial⟩ rfl) ?_
  refine l_store (j := 0) rfl rfl rfl rfl Try.sizeOf74 (us := [_, _]) rfl rfl rfl (by with_reducible (repeat (first | exact Z0 | apply Z1))) (by first | rfl | exact (Nat.add_zero _).symm) (by first | decide | (simp; done) | omega) ?_
  simp only [setL, List.set]
  refine ag_nil ?_
  refine q_assign rfl rfl rfl rfl ?_
  refine r_done ?_
  refine s_keep [4, 5] (e' := [(4, _), (5, _)]) rfl ?_
  refine k_then_n ?_
  refine c_ret ?_
  refine k_then_ret ?_
  refine rk_fold (b := b) x (pa := pa) (pc := pc) (ta := ta) (tc := tc) (oa := oa) (oc := oc) (ba := ba) (bc := bc) (by (repeat ((with_reducible apply Z2); focus (first | (with_reducible (repeat (first | exact Z0 | apply Z1)); done) | (repeat (first | exact Z0 | apply Z1))))); exact Z3) (by rfl) (by rfl) (by rfl) (by rfl) ?_
  refine retL (us := [_, _]) rfl ⟨rv_cellN rfl Try.isAgg74 Try.sizeOf74 (by with_reducible (repeat (first | exact Z0 | apply Z1))) 0 rfl (us := [_, _]) rfl rfl, rv_tmp rfl, trivial⟩ (()) (by rw [if_neg hno, if_neg hno]; rfl) (by trivial) ?_
  (repeat ((with_reducible apply Z2); focus (first | (with_reducible (repeat (first | exact Z0 | apply Z1)); done) | (repeat (first | exact Z0 | apply Z1))))); (repeat (first | exact Z3 | exact Takes.self | refine takes_drop2 ?_))
 ·
  have hyes : 0 ≤ l ∧ l < (x.B.length : Int) := by omega
  have hel := opF_at (x := x) (b := l) hin.1 hin.2
  refine c_skip ?_
  refine k_then_n ?_
  refine c_seq ?_
  refine c_plain (.q 0 (.q 1 (.q 2 (.q 3 (.q 4 (.q 5 (.q 6 ((.l 7 [] (.q 8 (.done))))))))))) (by kernel_rfl) ?_
  refine q_move rfl rfl rfl rfl ?_
  refine q_nil_p rfl rfl rfl rfl ?_
  refine q_field (k := 7) rfl rfl rfl rfl Try.underlying113 rfl Try.sizeOf111 rfl ?_
  refine q_load_c (j := 7) rfl rfl rfl rfl Try.isAgg111 (by with_reducible (repeat (first | exact Z0 | apply Z1))) (by first | rfl | exact (Nat.add_zero _).symm) (by rfl) ?_
  refine q_move rfl rfl rfl rfl ?_
  refine q_idxO (sz := 1) (k := l.toNat) (enc := enc2) (xs := x.B) rfl rfl rfl rfl rfl Try.underlying111 Try.sizeOf74 hel (by first | rfl | omega) (by omega) (by with_reducible (repeat (first | exact Z0 | apply Z1))) ?_
  intro ib23 io23 ha23 hl23 hc23
  refine q_loadN_O (j := 0) (k' := l.toNat) (us := [_, _]) (enc := enc2) (off := io23) rfl rfl rfl rfl Try.isAgg74 Try.sizeOf74 ha23 enc2_len hel (by with_reducible (repeat (first | exact Z0 | apply Z1))) (by first | rfl | exact (Nat.add_zero _).symm | omega) (by rfl) rfl ?_
  refine l_store (j := 0) rfl rfl rfl rfl Try.sizeOf74 (us := [_, _]) rfl rfl rfl (by with_reducible (repeat (first | exact Z0 | apply Z1))) (by first | rfl | exact (Nat.add_zero _).symm) (by first | decide | (simp; done) | omega) ?_
  simp only [setL, List.set]
  refine ag_nil ?_
  refine q_assign rfl rfl rfl rfl ?_
  refine r_done ?_
  refine s_keep [4, 5] (e' := [(4, _), (5, _)]) rfl ?_
  refine k_then_n ?_
  refine c_ret ?_
  refine rk_fold (b := b) x (pa := pa) (pc := pc) (ta := ta) (tc := tc) (oa := oa) (oc := oc) (ba := ba) (bc := bc) (by (repeat ((with_reducible apply Z2); focus (first | (with_reducible (repeat (first | exact Z0 | apply Z1)); done) | (repeat (first | exact Z0 | apply Z1))))); exact Z3) (by rfl) (by rfl) (by rfl) (by rfl) ?_
  refine retL (us := [_, _]) rfl ⟨rv_cellN rfl Try.isAgg74 Try.sizeOf74 (by with_reducible (repeat (first | exact Z0 | apply Z1))) 0 rfl (us := [_, _]) rfl rfl, rv_tmp rfl, trivial⟩ (()) (by rw [if_pos hyes, if_pos hyes]; rfl) (by trivial) ?_
  (repeat ((with_reducible apply Z2); focus (first | (with_reducible (repeat (first | exact Z0 | apply Z1)); done) | (repeat (first | exact Z0 | apply Z1))))); (repeat (first | exact Z3 | exact Takes.self | refine takes_drop2 ?_))

end Go.Ab.Fe
