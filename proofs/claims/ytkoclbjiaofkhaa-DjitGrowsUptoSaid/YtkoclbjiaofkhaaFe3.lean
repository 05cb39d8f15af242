/- Package feasible: what is done. -/
import Derived.Test.YtkoclbjiaofkhaaFe2
set_option linter.unusedVariables false
set_option linter.unusedSimpArgs false
set_option maxRecDepth 100000
namespace Go.Ab.Fe
open Go Go.Proofs Go.Ab
theorem owF_put {t : Int} (h : t ≠ -1) : (if t = -1 then none else some t) = some t := if_neg h
theorem rel_own {x : CS} {Fs : Int → Option T3} {Fo : Int → Option Int} (hR : RelC Fs Fo x) {l v : Int} (h0 : 0 ≤ l) (h : l.toNat < x.O.length) (hv : v ≠ -1) {th va vo lk : Int} {pa : List Int} {B : List T2} {n : Int} : RelC Fs (upd Fo l (some v)) ⟨th, va, vo, lk, pa, x.T, x.O.set l.toNat v, B, n⟩ := by
  have h := rel_ow hR h0 h (v := v) (th := th) (va := va) (vo := vo) (lk := lk) (pa := pa) (B := B) (n := n)
  rwa [owF_put hv] at h
theorem set_set {α : Type} (l : List α) (i : Nat) (a b : α) : (l.set i a).set i b = l.set i b := by simp
theorem owF_some {x : CS} {l v : Int} (h : owF x l = some v) : owV x l = v := by
  unfold owF at h; split at h
  · cases h
  · cases h; rfl
theorem owF_none {x : CS} {l : Int} (h : owF x l = none) : owV x l = -1 := by
  unfold owF at h; split at h
  · assumption
  · cases h
abbrev ev2 (x : T2) : Value := .agg #[.int .i64 x.1, .int .i64 x.2]
theorem next_spec (pa : Option Addr) (pc b : Nat) (x : CS) (hx : CInv x) (hn : x.n ≤ 1000000000000000) (pl : List Int) (hpl : x.pa = pl) (k t o : Int) : Spec Try.prog 72 [.pointer (some ⟨b, 0, none⟩), .agg #[.int .i64 k, .int .i64 t, .int .i64 o]] [ck pa pc b x, own 1 encZ pa pc pl] (fun (_ : Unit) => .int .i64 (nxE x k t o)) (fun _ => True) (fun _ => [ck pa pc b (nxF x k t o), own 1 encZ pa pc pl]) := by
 refine spec_mk (n := 117) Try.func72 rfl rfl rfl ?_
 intro Γ w0
 simp only [argE, List.cons_append, List.nil_append, Nat.zero_add, Nat.reduceAdd]
 have hn0 := hx.n0
 refine c_seq ?_
 refine c_plain ((.l 0 [] (.q 1 (.done)))) (by kernel_rfl) ?_
 refine l_box rfl rfl rfl rfl (us := [_, _, _]) rfl ?_
 intro b3
 refine ag_nil ?_
 refine q_assign rfl rfl rfl rfl ?_
 refine r_done ?_
 refine k_then_n ?_
 refine c_seq ?_
 refine c_seq ?_
 refine c_plain (.q 0 ((.l 1 [] (.done)))) (by kernel_rfl) ?_
 refine q_move rfl rfl rfl rfl ?_
 have sp_1 := none_spec pa pc b x
 refine l_call rfl rfl rfl rfl rfl rfl Try.call62 (sp_1) (by (repeat ((with_reducible apply Z2); focus (first | (with_reducible (repeat (first | exact Z0 | apply Z1)); done) | (repeat (first | exact Z0 | apply Z1))))); exact Z3) ?_
 rintro ⟨⟩ -
 try simp only [List.cons_append, List.nil_append]
 refine ag_nil ?_
 refine r_done ?_
 refine k_then_n ?_
 refine c_cond_f rfl ?_
 refine c_skip ?_
 refine k_then_n ?_
 refine c_seq ?_
 refine c_seq ?_
 refine c_plain (.q 0 (.q 1 ((.l 2 [] (.q 3 (.done)))))) (by kernel_rfl) ?_
 refine q_move rfl rfl rfl rfl ?_
 refine q_loadN_c rfl rfl rfl rfl Try.isAgg40 Try.sizeOf40 (by with_reducible (repeat (first | exact Z0 | apply Z1))) 0 (us := [_, _, _]) (by first | rfl | exact (Nat.add_zero _).symm) rfl rfl ?_
 have sp_2 := can_spec pa pc b x hx k t o
 refine l_call rfl rfl rfl rfl rfl rfl Try.call60 (sp_2) (by (repeat ((with_reducible apply Z2); focus (first | (with_reducible (repeat (first | exact Z0 | apply Z1)); done) | (repeat (first | exact Z0 | apply Z1))))); exact Z3) ?_
 rintro ⟨⟩ -
 try simp only [List.cons_append, List.nil_append]
 refine ag_nil ?_
 refine q_not rfl rfl rfl rfl ?_
 refine r_done ?_
 refine s_keep [0, 3, 11] (e' := [(0, _), (3, _), (11, _)]) rfl ?_
 refine k_then_n ?_
 refine c_cond_np rfl (fun hc => ?_) (fun hc => ?_)
 ·
  have hc : ¬ canF x k t o := hc
  refine c_seq ?_
  refine c_plain (.q 0 (.done)) (by kernel_rfl) ?_
  refine q_assign rfl rfl rfl rfl ?_
  refine r_done ?_
  refine k_then_n ?_
  refine c_ret ?_
  refine k_then_ret ?_
  rw [show nxF x k t o = x from if_neg hc]
  refine ret1 rfl rfl (()) (by rw [show nxE x k t o = 6 from if_neg hc]) (by trivial) ?_
  (repeat ((with_reducible apply Z2); focus (first | (with_reducible (repeat (first | exact Z0 | apply Z1)); done) | (repeat (first | exact Z0 | apply Z1))))); (repeat (first | exact Z3 | exact Takes.self | refine takes_drop2 ?_))
 ·
  obtain ⟨o5, o7, o9, o10, o11⟩ := can_obj hx hc
  obtain ⟨n5, n6, n7, n9, n10, n11, nn⟩ := nxF_k hc
  obtain ⟨t0, t1, t2⟩ := stF_nz (can_th hc)
  refine c_skip ?_
  refine k_then_n ?_
  refine c_seq ?_
  refine s_take (A := ck pa pc b x) (by with_reducible (repeat (first | exact Z0 | apply Z1))) ?_
  refine ck_open fun m1 m2 Fs Fo oa oc hR => ?_
  refine c_plain (.q 0 (.q 1 (.q 2 (.q 3 (.q 4 (.q 5 (.q 6 ((.l 7 [] (.done)))))))))) (by kernel_rfl) ?_
  refine q_move rfl rfl rfl rfl ?_
  refine q_nil_p rfl rfl rfl rfl ?_
  refine q_field (k := 8) rfl rfl rfl rfl Try.underlying129 rfl Try.sizeOf3 rfl ?_
  refine q_load_c (j := 8) rfl rfl rfl rfl Try.isAgg3 (by with_reducible (repeat (first | exact Z0 | apply Z1))) (by first | rfl | exact (Nat.add_zero _).symm) (by rfl) ?_
  refine q_int rfl rfl rfl rfl rfl (b_add' _ (by exact fits_i64 (by omega) (by omega))) ?_
  refine q_nil_p rfl rfl rfl rfl ?_
  refine q_field (k := 8) rfl rfl rfl rfl Try.underlying129 rfl Try.sizeOf3 rfl ?_
  refine l_store (j := 8) rfl rfl rfl rfl Try.sizeOf3 (us := [_]) rfl rfl rfl (by with_reducible (repeat (first | exact Z0 | apply Z1))) (by first | rfl | exact (Nat.add_zero _).symm) (by first | decide | (simp; done) | omega) ?_
  simp only [setL, List.set]
  refine ag_nil ?_
  refine r_done ?_
  refine s_keep [0, 3] (e' := [(0, _), (3, _)]) rfl ?_
  refine k_then_n ?_
  refine c_seq ?_
  refine c_seq ?_
  refine c_plain (.q 0 (.q 1 (.done))) (by kernel_rfl) ?_
  refine q_field (k := 0) rfl rfl rfl rfl Try.underlying40 rfl Try.sizeOf38 rfl ?_
  refine q_load_c (j := 0) rfl rfl rfl rfl Try.isAgg38 (by with_reducible (repeat (first | exact Z0 | apply Z1))) (by first | rfl | exact (Nat.add_zero _).symm) (by rfl) ?_
  refine r_done ?_
  refine k_then_n ?_
  refine c_block ?_
  refine c_seq ?_
  refine c_plain (.q 0 (.q 1 (.done))) (by kernel_rfl) ?_
  refine q_int rfl rfl rfl rfl rfl (b_eql _ _ _ _) ?_
  refine q_assign rfl rfl rfl rfl ?_
  refine r_done ?_
  refine k_then_n ?_
  refine c_cond_p rfl (fun k5 => ?_) (fun k5 => ?_)
  ·
   refine c_draw rfl (.q 0 (.q 1 (.q 2 (.q 3 (.q 4 (.q 5 (.q 6 (.q 7 ((.l 8 [] (.done))))))))))) (by kernel_rfl) ?_
   refine q_move rfl rfl rfl rfl ?_
   refine q_nil_p rfl rfl rfl rfl ?_
   refine q_field (k := 6) rfl rfl rfl rfl Try.underlying129 rfl Try.sizeOf127 rfl ?_
   refine q_load_c (j := 6) rfl rfl rfl rfl Try.isAgg127 (by with_reducible (repeat (first | exact Z0 | apply Z1))) (by first | rfl | exact (Nat.add_zero _).symm) (by rfl) ?_
   refine q_field (k := 2) rfl rfl rfl rfl Try.underlying40 rfl Try.sizeOf3 rfl ?_
   refine q_load_c (j := 2) rfl rfl rfl rfl Try.isAgg3 (by with_reducible (repeat (first | exact Z0 | apply Z1))) (by first | rfl | exact (Nat.add_zero _).symm) (by rfl) ?_
   refine q_field (k := 1) rfl rfl rfl rfl Try.underlying40 rfl Try.sizeOf3 rfl ?_
   refine q_load_c (j := 1) rfl rfl rfl rfl Try.isAgg3 (by with_reducible (repeat (first | exact Z0 | apply Z1))) (by first | rfl | exact (Nat.add_zero _).symm) (by rfl) ?_
   refine l_mapUpd (ek := ekZ) (ev1 := ekZ) (F := Fo) (m := m2) (k := o) (v := t) (by first | exact .inl rfl | exact .inr rfl) rfl rfl rfl rfl Try.underlying127 (keyOK_int Try.underlying3) (by with_reducible (repeat (first | exact Z0 | apply Z1))) ?_
   refine ag_nil ?_
   refine r_done ?_
   refine s_keep [] (e' := []) rfl ?_
   refine k_blk_n ?_
   refine k_then_n ?_
   refine c_seq ?_
   refine c_plain (.q 0 (.done)) (by kernel_rfl) ?_
   refine q_assign rfl rfl rfl rfl ?_
   refine r_done ?_
   refine k_then_n ?_
   refine c_ret ?_
   rw [n5 k5]
   refine ck_fold (b := b) (⟨x.th, x.va, x.vo, x.lk, x.pa, x.T, x.O.set o.toNat t, x.B, x.n + 1⟩) (pa := pa) (pc := pc) (m1 := m1) (m2 := m2) (oa := oa) (oc := oc) (by (repeat ((with_reducible apply Z2); focus (first | (with_reducible (repeat (first | exact Z0 | apply Z1)); done) | (repeat (first | exact Z0 | apply Z1))))); exact Z3) (by rfl) (by rfl) (rel_own hR (o5 (.inl k5)).1 (o5 (.inl k5)).2 (by omega)) ?_
   refine ret1 rfl rfl (()) (by rw [show nxE x k t o = 0 from if_pos hc]) (by trivial) ?_
   (repeat ((with_reducible apply Z2); focus (first | (with_reducible (repeat (first | exact Z0 | apply Z1)); done) | (repeat (first | exact Z0 | apply Z1))))); (repeat (first | exact Z3 | exact Takes.self | refine takes_drop2 ?_))
  ·
   refine c_seq ?_
   refine c_plain (.q 0 (.q 1 (.done))) (by kernel_rfl) ?_
   refine q_int rfl rfl rfl rfl rfl (b_eql _ _ _ _) ?_
   refine q_assign rfl rfl rfl rfl ?_
   refine r_done ?_
   refine s_keep [0, 3, 20, 31] (e' := [(0, _), (3, _), (20, _), (31, _)]) rfl ?_
   refine k_then_n ?_
   refine c_cond_p rfl (fun k6 => ?_) (fun k6 => ?_)
   ·
    refine c_draw rfl (.q 0 (.q 1 (.q 2 (.q 3 (.q 4 (.q 5 ((.l 6 [] (.done))))))))) (by kernel_rfl) ?_
    refine q_move rfl rfl rfl rfl ?_
    refine q_nil_p rfl rfl rfl rfl ?_
    refine q_field (k := 6) rfl rfl rfl rfl Try.underlying129 rfl Try.sizeOf127 rfl ?_
    refine q_load_c (j := 6) rfl rfl rfl rfl Try.isAgg127 (by with_reducible (repeat (first | exact Z0 | apply Z1))) (by first | rfl | exact (Nat.add_zero _).symm) (by rfl) ?_
    refine q_field (k := 2) rfl rfl rfl rfl Try.underlying40 rfl Try.sizeOf3 rfl ?_
    refine q_load_c (j := 2) rfl rfl rfl rfl Try.isAgg3 (by with_reducible (repeat (first | exact Z0 | apply Z1))) (by first | rfl | exact (Nat.add_zero _).symm) (by rfl) ?_
    refine l_delete (ek := ekZ) (ev1 := ekZ) (F := Fo) (m := m2) (k := o) rfl rfl rfl rfl Try.underlying127 (keyOK_int Try.underlying3) (by with_reducible (repeat (first | exact Z0 | apply Z1))) ?_
    refine ag_nil ?_
    refine r_done ?_
    refine s_keep [] (e' := []) rfl ?_
    refine k_blk_n ?_
    refine k_then_n ?_
    refine c_seq ?_
    refine c_plain (.q 0 (.done)) (by kernel_rfl) ?_
    refine q_assign rfl rfl rfl rfl ?_
    refine r_done ?_
    refine k_then_n ?_
    refine c_ret ?_
    rw [n6 k6]
    refine ck_fold (b := b) (⟨x.th, x.va, x.vo, x.lk, x.pa, x.T, x.O.set o.toNat (-1), x.B, x.n + 1⟩) (pa := pa) (pc := pc) (m1 := m1) (m2 := m2) (oa := oa) (oc := oc) (by (repeat ((with_reducible apply Z2); focus (first | (with_reducible (repeat (first | exact Z0 | apply Z1)); done) | (repeat (first | exact Z0 | apply Z1))))); exact Z3) (by rfl) (by rfl) (rel_ow hR (v := -1) (o5 (.inr k6)).1 (o5 (.inr k6)).2) ?_
    refine ret1 rfl rfl (()) (by rw [show nxE x k t o = 0 from if_pos hc]) (by trivial) ?_
    (repeat ((with_reducible apply Z2); focus (first | (with_reducible (repeat (first | exact Z0 | apply Z1)); done) | (repeat (first | exact Z0 | apply Z1))))); (repeat (first | exact Z3 | exact Takes.self | refine takes_drop2 ?_))
   ·
    refine c_seq ?_
    refine c_plain (.q 0 (.q 1 (.done))) (by kernel_rfl) ?_
    refine q_int rfl rfl rfl rfl rfl (b_eql _ _ _ _) ?_
    refine q_assign rfl rfl rfl rfl ?_
    refine r_done ?_
    refine k_then_n ?_
    refine c_cond_p rfl (fun k7 => ?_) (fun k7 => ?_)
    ·
     refine c_draw rfl (.q 0 (.q 1 (.q 2 (.q 3 (.q 4 (.q 5 (.q 6 ((.l 7 [] (.done)))))))))) (by kernel_rfl) ?_
     refine q_move rfl rfl rfl rfl ?_
     refine q_nil_p rfl rfl rfl rfl ?_
     refine q_field (k := 5) rfl rfl rfl rfl Try.underlying129 rfl Try.sizeOf126 rfl ?_
     refine q_load_c (j := 5) rfl rfl rfl rfl Try.isAgg126 (by with_reducible (repeat (first | exact Z0 | apply Z1))) (by first | rfl | exact (Nat.add_zero _).symm) (by rfl) ?_
     refine q_field (k := 2) rfl rfl rfl rfl Try.underlying40 rfl Try.sizeOf3 rfl ?_
     refine q_load_c (j := 2) rfl rfl rfl rfl Try.isAgg3 (by with_reducible (repeat (first | exact Z0 | apply Z1))) (by first | rfl | exact (Nat.add_zero _).symm) (by rfl) ?_
     refine q_build rfl rfl rfl rfl (vs := [_, _, _]) (run_buildS Try.underlying79 Try.zeroValue79 (ps := [(0, 1), (1, 1), (2, 1)]) ⟨rfl, Try.sizeOf77, rfl, Try.sizeOf3, rfl, Try.sizeOf3, trivial⟩ rfl) ?_
     refine l_mapUpd (ek := ekZ) (ev1 := ev3) (F := Fs) (m := m1) (k := o) (v := (1, 0, 0)) (by first | exact .inl rfl | exact .inr rfl) rfl rfl rfl rfl Try.underlying126 (keyOK_int Try.underlying3) (by with_reducible (repeat (first | exact Z0 | apply Z1))) ?_
     refine ag_nil ?_
     refine r_done ?_
     refine s_keep [] (e' := []) rfl ?_
     refine k_blk_n ?_
     refine k_then_n ?_
     refine c_seq ?_
     refine c_plain (.q 0 (.done)) (by kernel_rfl) ?_
     refine q_assign rfl rfl rfl rfl ?_
     refine r_done ?_
     refine k_then_n ?_
     refine c_ret ?_
     rw [n7 k7]
     refine ck_fold (b := b) (⟨x.th, x.va, x.vo, x.lk, x.pa, x.T.set o.toNat (1, 0, 0), x.O, x.B, x.n + 1⟩) (pa := pa) (pc := pc) (m1 := m1) (m2 := m2) (oa := oa) (oc := oc) (by (repeat ((with_reducible apply Z2); focus (first | (with_reducible (repeat (first | exact Z0 | apply Z1)); done) | (repeat (first | exact Z0 | apply Z1))))); exact Z3) (by rfl) (by rfl) (rel_st hR (o7 k7).1 (o7 k7).2.1) ?_
     refine ret1 rfl rfl (()) (by rw [show nxE x k t o = 0 from if_pos hc]) (by trivial) ?_
     (repeat ((with_reducible apply Z2); focus (first | (with_reducible (repeat (first | exact Z0 | apply Z1)); done) | (repeat (first | exact Z0 | apply Z1))))); (repeat (first | exact Z3 | exact Takes.self | refine takes_drop2 ?_))
    ·
     refine c_seq ?_
     refine c_plain (.q 0 (.q 1 (.done))) (by kernel_rfl) ?_
     refine q_int rfl rfl rfl rfl rfl (b_eql _ _ _ _) ?_
     refine q_assign rfl rfl rfl rfl ?_
     refine r_done ?_
     refine s_keep [0, 3, 20, 48] (e' := [(0, _), (3, _), (20, _), (48, _)]) rfl ?_
     refine k_then_n ?_
     refine c_cond_p rfl (fun k9 => ?_) (fun k9 => ?_)
     ·
      refine c_seq ?_
      obtain ⟨p0, p1, p2, p3⟩ := o9 k9
      have hop := opF_at (x := x) (b := o) p0 (by omega)
      obtain ⟨pp, hpp⟩ := get_lt p2
      have hbp := hx.op _ _ _ hop hpp
      have hpr := hx.sh.pa pp (List.mem_of_getElem? hpp)
      refine c_draw rfl (.q 0 (.q 1 (.q 2 (.q 3 (.q 4 (.q 5 (.q 6 (.q 7 (.done))))))))) (by kernel_rfl) ?_
      refine q_move rfl rfl rfl rfl ?_
      refine q_nil_p rfl rfl rfl rfl ?_
      refine q_field (k := 7) rfl rfl rfl rfl Try.underlying129 rfl Try.sizeOf111 rfl ?_
      refine q_load_c (j := 7) rfl rfl rfl rfl Try.isAgg111 (by with_reducible (repeat (first | exact Z0 | apply Z1))) (by first | rfl | exact (Nat.add_zero _).symm) (by rfl) ?_
      refine q_field (k := 2) rfl rfl rfl rfl Try.underlying40 rfl Try.sizeOf3 rfl ?_
      refine q_load_c (j := 2) rfl rfl rfl rfl Try.isAgg3 (by with_reducible (repeat (first | exact Z0 | apply Z1))) (by first | rfl | exact (Nat.add_zero _).symm) (by rfl) ?_
      refine q_idxO (sz := 1) (k := o.toNat) (enc := enc2) (xs := x.B) rfl rfl rfl rfl rfl Try.underlying111 Try.sizeOf74 hop (by first | rfl | omega) (by omega) (by with_reducible (repeat (first | exact Z0 | apply Z1))) ?_
      intro ib56 io56 ha56 hl56 hc56
      refine q_assign rfl rfl rfl rfl ?_
      refine r_done ?_
      refine s_keep [0, 3, 5] (e' := [(0, _), (3, _), (5, _)]) rfl ?_
      refine k_then_n ?_
      refine c_seq ?_
      refine c_draw rfl (.q 0 (.q 1 (.q 2 (.q 3 (.q 4 (.q 5 (.q 6 (.q 7 (.q 8 (.q 9 (.q 10 (.q 11 (.q 12 ((.l 13 [] (.done)))))))))))))))) (by kernel_rfl) ?_
      refine q_move rfl rfl rfl rfl ?_
      refine q_nil_p rfl rfl rfl rfl ?_
      refine q_field (k := 5) rfl rfl rfl rfl Try.underlying129 rfl Try.sizeOf126 rfl ?_
      refine q_load_c (j := 5) rfl rfl rfl rfl Try.isAgg126 (by with_reducible (repeat (first | exact Z0 | apply Z1))) (by first | rfl | exact (Nat.add_zero _).symm) (by rfl) ?_
      refine q_field (k := 1) rfl rfl rfl rfl Try.underlying40 rfl Try.sizeOf3 rfl ?_
      refine q_load_c (j := 1) rfl rfl rfl rfl Try.isAgg3 (by with_reducible (repeat (first | exact Z0 | apply Z1))) (by first | rfl | exact (Nat.add_zero _).symm) (by rfl) ?_
      refine q_field (k := 2) rfl rfl rfl rfl Try.underlying40 rfl Try.sizeOf3 rfl ?_
      refine q_load_c (j := 2) rfl rfl rfl rfl Try.isAgg3 (by with_reducible (repeat (first | exact Z0 | apply Z1))) (by first | rfl | exact (Nat.add_zero _).symm) (by rfl) ?_
      refine q_move rfl rfl rfl rfl ?_
      refine q_nil_p rfl rfl rfl rfl ?_
      refine q_field (k := 0) rfl rfl rfl rfl Try.underlying74 rfl Try.sizeOf3 rfl ?_
      refine q_load_O (v := (.int .i64 ((opF x o).1))) (j := 0) (k' := o.toNat) (enc := enc2) (off := io56) rfl rfl rfl rfl Try.isAgg3 ha56 enc2_len hop (by with_reducible (repeat (first | exact Z0 | apply Z1))) (by first | rfl | exact (Nat.add_zero _).symm | omega) (by rfl) ?_
      refine q_build rfl rfl rfl rfl (vs := [_, _, _]) (run_buildS Try.underlying79 Try.zeroValue79 (ps := [(0, 1), (1, 1), (2, 1)]) ⟨rfl, Try.sizeOf77, rfl, Try.sizeOf3, rfl, Try.sizeOf3, trivial⟩ rfl) ?_
      refine l_mapUpd (ek := ekZ) (ev1 := ev3) (F := Fs) (m := m1) (k := t) (v := (2, o, (opF x o).1)) (by first | exact .inl rfl | exact .inr rfl) rfl rfl rfl rfl Try.underlying126 (keyOK_int Try.underlying3) (by with_reducible (repeat (first | exact Z0 | apply Z1))) ?_
      refine ag_nil ?_
      refine r_done ?_
      refine s_keep [0, 3, 5] (e' := [(0, _), (3, _), (5, _)]) rfl ?_
      refine k_then_n ?_
      refine c_seq ?_
      refine c_plain (.q 0 (.q 1 (.q 2 (.q 3 (.q 4 (.q 5 (.q 6 ((.l 7 [] (.done)))))))))) (by kernel_rfl) ?_
      refine q_move rfl rfl rfl rfl ?_
      refine q_nil_p rfl rfl rfl rfl ?_
      refine q_field (k := 1) rfl rfl rfl rfl Try.underlying74 rfl Try.sizeOf3 rfl ?_
      refine q_load_O (v := (.int .i64 ((opF x o).2))) (j := 1) (k' := o.toNat) (enc := enc2) (off := io56) rfl rfl rfl rfl Try.isAgg3 ha56 enc2_len hop (by with_reducible (repeat (first | exact Z0 | apply Z1))) (by first | rfl | exact (Nat.add_zero _).symm | omega) (by rfl) ?_
      refine q_int rfl rfl rfl rfl rfl (b_add' _ (by exact fits_i64 (by omega) (by omega))) ?_
      refine q_nil_p rfl rfl rfl rfl ?_
      refine q_field (k := 1) rfl rfl rfl rfl Try.underlying74 rfl Try.sizeOf3 rfl ?_
      refine l_store_O (j := 1) (k := o.toNat) (q := ((opF x o).1, (opF x o).2 + 1)) (enc := enc2) (off := io56) rfl rfl rfl rfl Try.sizeOf3 (us := [_]) rfl rfl rfl ha56 enc2_len hop (by with_reducible (repeat (first | exact Z0 | apply Z1))) (by first | rfl | exact (Nat.add_zero _).symm | omega) (by first | decide | exact Nat.le_of_ble_eq_true rfl) (by rfl) ?_
      refine ag_nil ?_
      have hop2 : (x.B.set o.toNat ((opF x o).1, (opF x o).2 + 1))[o.toNat]? = some ((opF x o).1, (opF x o).2 + 1) := List.getElem?_set_self p1
      refine r_done ?_
      refine s_keep [0, 3, 5] (e' := [(0, _), (3, _), (5, _)]) rfl ?_
      refine k_then_n ?_
      refine c_seq ?_
      rw [hpl] at hpp p2
      refine c_draw rfl (.q 0 (.q 1 (.q 2 (.q 3 (.q 4 (.q 5 (.q 6 (.q 7 (.q 8 (.q 9 (.q 10 (.q 11 (.q 12 (.q 13 (.done))))))))))))))) (by kernel_rfl) ?_
      refine q_move rfl rfl rfl rfl ?_
      refine q_nil_p rfl rfl rfl rfl ?_
      refine q_field (k := 1) rfl rfl rfl rfl Try.underlying74 rfl Try.sizeOf3 rfl ?_
      refine q_load_O (v := (.int .i64 ((opF x o).2 + 1))) (j := 1) (k' := o.toNat) (enc := enc2) (off := io56) rfl rfl rfl rfl Try.isAgg3 ha56 enc2_len hop2 (by with_reducible (repeat (first | exact Z0 | apply Z1))) (by first | rfl | exact (Nat.add_zero _).symm | omega) (by rfl) ?_
      refine q_move rfl rfl rfl rfl ?_
      refine q_nil_p rfl rfl rfl rfl ?_
      refine q_field (k := 0) rfl rfl rfl rfl Try.underlying129 rfl Try.sizeOf24 rfl ?_
      refine q_field (k := 4) rfl rfl rfl rfl Try.underlying24 rfl Try.sizeOf22 rfl ?_
      refine q_load_c (j := 4) rfl rfl rfl rfl Try.isAgg22 (by with_reducible (repeat (first | exact Z0 | apply Z1))) (by first | rfl | exact (Nat.add_zero _).symm) (by rfl) ?_
      refine q_field (k := 2) rfl rfl rfl rfl Try.underlying40 rfl Try.sizeOf3 rfl ?_
      refine q_load_c (j := 2) rfl rfl rfl rfl Try.isAgg3 (by with_reducible (repeat (first | exact Z0 | apply Z1))) (by first | rfl | exact (Nat.add_zero _).symm) (by rfl) ?_
      refine q_idxO (sz := 0) (k := o.toNat) (enc := encZ) (xs := pl) rfl rfl rfl rfl rfl Try.underlying22 Try.sizeOf3 hpp (by omega) (by rw [hpl]; omega) (by with_reducible (repeat (first | exact Z0 | apply Z1))) ?_
      intro ib88 io88 ha88 hl88 hc88
      refine q_load_O (v := (.int .i64 pp)) (j := 0) (k' := o.toNat) (enc := encZ) (off := io88) rfl rfl rfl rfl Try.isAgg3 ha88 encZ_len hpp (by with_reducible (repeat (first | exact Z0 | apply Z1))) (by first | rfl | exact (Nat.add_zero _).symm | omega) (by rfl) ?_
      refine q_int rfl rfl rfl rfl rfl (b_eql _ _ _ _) ?_
      refine r_done ?_
      refine s_keep [5, 90] (e' := [(5, _), (90, _)]) rfl ?_
      refine k_then_n ?_
      refine c_cond_p rfl (fun hful => ?_) (fun hful => ?_)
      ·
       refine c_plain (.q 0 (.q 1 (.q 2 (.q 3 (.q 4 (.q 5 (.q 6 (.q 7 ((.l 8 [] (.done))))))))))) (by kernel_rfl) ?_
       refine q_move rfl rfl rfl rfl ?_
       refine q_move rfl rfl rfl rfl ?_
       refine q_nil_p rfl rfl rfl rfl ?_
       refine q_field (k := 0) rfl rfl rfl rfl Try.underlying74 rfl Try.sizeOf3 rfl ?_
       refine q_load_O (v := (.int .i64 ((opF x o).1))) (j := 0) (k' := o.toNat) (enc := enc2) (off := io56) rfl rfl rfl rfl Try.isAgg3 ha56 enc2_len hop2 (by with_reducible (repeat (first | exact Z0 | apply Z1))) (by first | rfl | exact (Nat.add_zero _).symm | omega) (by rfl) ?_
       refine q_int rfl rfl rfl rfl rfl (b_add' _ (by exact fits_i64 (by omega) (by omega))) ?_
       refine q_build rfl rfl rfl rfl (vs := [_, _]) (run_buildS Try.underlying74 Try.zeroValue74 (ps := [(0, 1), (1, 1)]) ⟨rfl, Try.sizeOf3, rfl, Try.sizeOf3, trivial⟩ rfl) ?_
       refine q_nil_p rfl rfl rfl rfl ?_
       refine l_store_O (j := 0) (k := o.toNat) (q := ((opF x o).1 + 1, 0)) (enc := enc2) (off := io56) rfl rfl rfl rfl Try.sizeOf74 (us := [_, _]) rfl rfl rfl ha56 enc2_len hop2 (by with_reducible (repeat (first | exact Z0 | apply Z1))) (by first | rfl | exact (Nat.add_zero _).symm | omega) (by first | decide | exact Nat.le_of_ble_eq_true rfl) (by rfl) ?_
       refine ag_nil ?_
       rw [set_set]
       refine r_done ?_
       refine s_keep [] (e' := []) rfl ?_
       refine k_blk_n ?_
       refine k_then_n ?_
       refine c_seq ?_
       refine c_plain (.q 0 (.done)) (by kernel_rfl) ?_
       refine q_assign rfl rfl rfl rfl ?_
       refine r_done ?_
       refine k_then_n ?_
       refine c_ret ?_
       rw [n9 k9, hpl, getD_some hpp, ← hpl, show arrF (opF x o) pp = ((opF x o).1 + 1, 0) from if_pos hful]
       refine ck_fold (b := b) (⟨x.th, x.va, x.vo, x.lk, x.pa, x.T.set t.toNat (2, o, (opF x o).1), x.O, x.B.set o.toNat ((opF x o).1 + 1, 0), x.n + 1⟩) (pa := pa) (pc := pc) (m1 := m1) (m2 := m2) (oa := oa) (oc := oc) (by (repeat ((with_reducible apply Z2); focus (first | (with_reducible (repeat (first | exact Z0 | apply Z1)); done) | (repeat (first | exact Z0 | apply Z1))))); exact Z3) (by rfl) (by simp) (rel_st hR t0 t1) ?_
       refine ret1 rfl rfl (()) (by rw [show nxE x k t o = 0 from if_pos hc]) (by trivial) ?_
       (repeat ((with_reducible apply Z2); focus (first | (with_reducible (repeat (first | exact Z0 | apply Z1)); done) | (repeat (first | exact Z0 | apply Z1))))); (repeat (first | exact Z3 | exact Takes.self | refine takes_drop2 ?_))
      ·
       refine c_skip ?_
       refine k_blk_n ?_
       refine k_then_n ?_
       refine c_seq ?_
       refine c_plain (.q 0 (.done)) (by kernel_rfl) ?_
       refine q_assign rfl rfl rfl rfl ?_
       refine r_done ?_
       refine k_then_n ?_
       refine c_ret ?_
       rw [n9 k9, hpl, getD_some hpp, ← hpl, show arrF (opF x o) pp = ((opF x o).1, (opF x o).2 + 1) from if_neg hful]
       refine ck_fold (b := b) (⟨x.th, x.va, x.vo, x.lk, x.pa, x.T.set t.toNat (2, o, (opF x o).1), x.O, x.B.set o.toNat ((opF x o).1, (opF x o).2 + 1), x.n + 1⟩) (pa := pa) (pc := pc) (m1 := m1) (m2 := m2) (oa := oa) (oc := oc) (by (repeat ((with_reducible apply Z2); focus (first | (with_reducible (repeat (first | exact Z0 | apply Z1)); done) | (repeat (first | exact Z0 | apply Z1))))); exact Z3) (by rfl) (by simp) (rel_st hR t0 t1) ?_
       refine ret1 rfl rfl (()) (by rw [show nxE x k t o = 0 from if_pos hc]) (by trivial) ?_
       (repeat ((with_reducible apply Z2); focus (first | (with_reducible (repeat (first | exact Z0 | apply Z1)); done) | (repeat (first | exact Z0 | apply Z1))))); (repeat (first | exact Z3 | exact Takes.self | refine takes_drop2 ?_))
     ·
      refine c_seq ?_
      refine c_plain (.q 0 (.q 1 (.done))) (by kernel_rfl) ?_
      refine q_int rfl rfl rfl rfl rfl (b_eql _ _ _ _) ?_
      refine q_assign rfl rfl rfl rfl ?_
      refine r_done ?_
      refine k_then_n ?_
      refine c_cond_p rfl (fun k10 => ?_) (fun k10 => ?_)
      ·
       refine c_draw rfl (.q 0 (.q 1 (.q 2 (.q 3 (.q 4 (.q 5 (.q 6 ((.l 7 [] (.done)))))))))) (by kernel_rfl) ?_
       refine q_move rfl rfl rfl rfl ?_
       refine q_nil_p rfl rfl rfl rfl ?_
       refine q_field (k := 5) rfl rfl rfl rfl Try.underlying129 rfl Try.sizeOf126 rfl ?_
       refine q_load_c (j := 5) rfl rfl rfl rfl Try.isAgg126 (by with_reducible (repeat (first | exact Z0 | apply Z1))) (by first | rfl | exact (Nat.add_zero _).symm) (by rfl) ?_
       refine q_field (k := 1) rfl rfl rfl rfl Try.underlying40 rfl Try.sizeOf3 rfl ?_
       refine q_load_c (j := 1) rfl rfl rfl rfl Try.isAgg3 (by with_reducible (repeat (first | exact Z0 | apply Z1))) (by first | rfl | exact (Nat.add_zero _).symm) (by rfl) ?_
       refine q_build rfl rfl rfl rfl (vs := [_, _, _]) (run_buildS Try.underlying79 Try.zeroValue79 (ps := [(0, 1), (1, 1), (2, 1)]) ⟨rfl, Try.sizeOf77, rfl, Try.sizeOf3, rfl, Try.sizeOf3, trivial⟩ rfl) ?_
       refine l_mapUpd (ek := ekZ) (ev1 := ev3) (F := Fs) (m := m1) (k := t) (v := (1, 0, 0)) (by first | exact .inl rfl | exact .inr rfl) rfl rfl rfl rfl Try.underlying126 (keyOK_int Try.underlying3) (by with_reducible (repeat (first | exact Z0 | apply Z1))) ?_
       refine ag_nil ?_
       refine r_done ?_
       refine s_keep [] (e' := []) rfl ?_
       refine k_blk_n ?_
       refine k_then_n ?_
       refine c_seq ?_
       refine c_plain (.q 0 (.done)) (by kernel_rfl) ?_
       refine q_assign rfl rfl rfl rfl ?_
       refine r_done ?_
       refine k_then_n ?_
       refine c_ret ?_
       rw [n10 k10]
       refine ck_fold (b := b) (⟨x.th, x.va, x.vo, x.lk, x.pa, x.T.set t.toNat (1, 0, 0), x.O, x.B, x.n + 1⟩) (pa := pa) (pc := pc) (m1 := m1) (m2 := m2) (oa := oa) (oc := oc) (by (repeat ((with_reducible apply Z2); focus (first | (with_reducible (repeat (first | exact Z0 | apply Z1)); done) | (repeat (first | exact Z0 | apply Z1))))); exact Z3) (by rfl) (by rfl) (rel_st hR t0 t1) ?_
       refine ret1 rfl rfl (()) (by rw [show nxE x k t o = 0 from if_pos hc]) (by trivial) ?_
       (repeat ((with_reducible apply Z2); focus (first | (with_reducible (repeat (first | exact Z0 | apply Z1)); done) | (repeat (first | exact Z0 | apply Z1))))); (repeat (first | exact Z3 | exact Takes.self | refine takes_drop2 ?_))
      ·
       refine c_seq ?_
       refine c_plain (.q 0 (.q 1 (.done))) (by kernel_rfl) ?_
       refine q_int rfl rfl rfl rfl rfl (b_eql _ _ _ _) ?_
       refine q_assign rfl rfl rfl rfl ?_
       refine r_done ?_
       refine s_keep [0, 3, 108] (e' := [(0, _), (3, _), (108, _)]) rfl ?_
       refine k_then_n ?_
       refine c_cond_p rfl (fun k11 => ?_) (fun k11 => ?_)
       ·
        refine c_draw rfl (.q 0 (.q 1 (.q 2 (.q 3 (.q 4 (.q 5 (.q 6 ((.l 7 [] (.done)))))))))) (by kernel_rfl) ?_
        refine q_move rfl rfl rfl rfl ?_
        refine q_nil_p rfl rfl rfl rfl ?_
        refine q_field (k := 5) rfl rfl rfl rfl Try.underlying129 rfl Try.sizeOf126 rfl ?_
        refine q_load_c (j := 5) rfl rfl rfl rfl Try.isAgg126 (by with_reducible (repeat (first | exact Z0 | apply Z1))) (by first | rfl | exact (Nat.add_zero _).symm) (by rfl) ?_
        refine q_field (k := 1) rfl rfl rfl rfl Try.underlying40 rfl Try.sizeOf3 rfl ?_
        refine q_load_c (j := 1) rfl rfl rfl rfl Try.isAgg3 (by with_reducible (repeat (first | exact Z0 | apply Z1))) (by first | rfl | exact (Nat.add_zero _).symm) (by rfl) ?_
        refine q_build rfl rfl rfl rfl (vs := [_, _, _]) (run_buildS Try.underlying79 Try.zeroValue79 (ps := [(0, 1), (1, 1), (2, 1)]) ⟨rfl, Try.sizeOf77, rfl, Try.sizeOf3, rfl, Try.sizeOf3, trivial⟩ rfl) ?_
        refine l_mapUpd (ek := ekZ) (ev1 := ev3) (F := Fs) (m := m1) (k := t) (v := (3, 0, 0)) (by first | exact .inl rfl | exact .inr rfl) rfl rfl rfl rfl Try.underlying126 (keyOK_int Try.underlying3) (by with_reducible (repeat (first | exact Z0 | apply Z1))) ?_
        refine ag_nil ?_
        refine r_done ?_
        refine s_keep [] (e' := []) rfl ?_
        refine k_blk_n ?_
        refine k_then_n ?_
        refine c_seq ?_
        refine c_plain (.q 0 (.done)) (by kernel_rfl) ?_
        refine q_assign rfl rfl rfl rfl ?_
        refine r_done ?_
        refine k_then_n ?_
        refine c_ret ?_
        rw [n11 k11]
        refine ck_fold (b := b) (⟨x.th, x.va, x.vo, x.lk, x.pa, x.T.set t.toNat (3, 0, 0), x.O, x.B, x.n + 1⟩) (pa := pa) (pc := pc) (m1 := m1) (m2 := m2) (oa := oa) (oc := oc) (by (repeat ((with_reducible apply Z2); focus (first | (with_reducible (repeat (first | exact Z0 | apply Z1)); done) | (repeat (first | exact Z0 | apply Z1))))); exact Z3) (by rfl) (by rfl) (rel_st hR t0 t1) ?_
        refine ret1 rfl rfl (()) (by rw [show nxE x k t o = 0 from if_pos hc]) (by trivial) ?_
        (repeat ((with_reducible apply Z2); focus (first | (with_reducible (repeat (first | exact Z0 | apply Z1)); done) | (repeat (first | exact Z0 | apply Z1))))); (repeat (first | exact Z3 | exact Takes.self | refine takes_drop2 ?_))
       ·
        refine c_skip ?_
        refine k_blk_n ?_
        refine k_then_n ?_
        refine c_seq ?_
        refine c_plain (.q 0 (.done)) (by kernel_rfl) ?_
        refine q_assign rfl rfl rfl rfl ?_
        refine r_done ?_
        refine k_then_n ?_
        refine c_ret ?_
        rw [nn k5 k6 k7 k9 k10 k11]
        refine ck_fold (b := b) (⟨x.th, x.va, x.vo, x.lk, x.pa, x.T, x.O, x.B, x.n + 1⟩) (pa := pa) (pc := pc) (m1 := m1) (m2 := m2) (oa := oa) (oc := oc) (by (repeat ((with_reducible apply Z2); focus (first | (with_reducible (repeat (first | exact Z0 | apply Z1)); done) | (repeat (first | exact Z0 | apply Z1))))); exact Z3) (by rfl) (by rfl) (rel_n hR) ?_
        refine ret1 rfl rfl (()) (by rw [show nxE x k t o = 0 from if_pos hc]) (by trivial) ?_
        (repeat ((with_reducible apply Z2); focus (first | (with_reducible (repeat (first | exact Z0 | apply Z1)); done) | (repeat (first | exact Z0 | apply Z1))))); (repeat (first | exact Z3 | exact Takes.self | refine takes_drop2 ?_))

theorem len_spec (pa : Option Addr) (pc b : Nat) (x : CS) : Spec Try.prog 46 [.pointer (some ⟨b, 0, none⟩)] [ck pa pc b x] (fun (_ : Unit) => .int .i64 x.n) (fun _ => True) (fun _ => [ck pa pc b x]) := by
 refine spec_mk (n := 9) Try.func46 rfl rfl rfl ?_
 intro Γ w0
 simp only [argE, List.cons_append, List.nil_append, Nat.zero_add, Nat.reduceAdd]
 refine c_seq ?_
 refine c_plain (.q 0 (.done)) (by kernel_rfl) ?_
 refine q_assign rfl rfl rfl rfl ?_
 refine r_done ?_
 refine k_then_n ?_
 refine c_seq ?_
 refine c_seq ?_
 refine c_plain (.q 0 ((.l 1 [] (.done)))) (by kernel_rfl) ?_
 refine q_move rfl rfl rfl rfl ?_
 have sp_1 := none_spec pa pc b x
 refine l_call rfl rfl rfl rfl rfl rfl Try.call62 (sp_1) (by (repeat ((with_reducible apply Z2); focus (first | (with_reducible (repeat (first | exact Z0 | apply Z1)); done) | (repeat (first | exact Z0 | apply Z1))))); exact Z3) ?_
 rintro ⟨⟩ -
 try simp only [List.cons_append, List.nil_append]
 refine ag_nil ?_
 refine r_done ?_
 refine k_then_n ?_
 refine c_cond_f rfl ?_
 refine c_skip ?_
 refine k_then_n ?_
 refine c_seq ?_
 refine s_take (A := ck pa pc b x) (by with_reducible (repeat (first | exact Z0 | apply Z1))) ?_
 refine ck_open fun m1 m2 Fs Fo oa oc hR => ?_
 refine c_plain (.q 0 (.q 1 (.q 2 (.q 3 (.q 4 (.done)))))) (by kernel_rfl) ?_
 refine q_move rfl rfl rfl rfl ?_
 refine q_nil_p rfl rfl rfl rfl ?_
 refine q_field (k := 8) rfl rfl rfl rfl Try.underlying129 rfl Try.sizeOf3 rfl ?_
 refine q_load_c (j := 8) rfl rfl rfl rfl Try.isAgg3 (by with_reducible (repeat (first | exact Z0 | apply Z1))) (by first | rfl | exact (Nat.add_zero _).symm) (by rfl) ?_
 refine q_assign rfl rfl rfl rfl ?_
 refine r_done ?_
 refine s_keep [2] (e' := [(2, _)]) rfl ?_
 refine k_then_n ?_
 refine c_ret ?_
 refine ck_fold (b := b) x (pa := pa) (pc := pc) (m1 := m1) (m2 := m2) (oa := oa) (oc := oc) (by (repeat ((with_reducible apply Z2); focus (first | (with_reducible (repeat (first | exact Z0 | apply Z1)); done) | (repeat (first | exact Z0 | apply Z1))))); exact Z3) (by rfl) (by rfl) (hR) ?_
 refine ret1 rfl rfl (()) (by first | rfl | (first | rfl | (congr 1; done) | (congr 1 <;> first | rfl | omega | (simp; done) | (simp; omega)))) (by trivial) ?_
 (repeat ((with_reducible apply Z2); focus (first | (with_reducible (repeat (first | exact Z0 | apply Z1)); done) | (repeat (first | exact Z0 | apply Z1))))); (repeat (first | exact Z3 | exact Takes.self | refine takes_drop2 ?_))

theorem stand_spec (pa : Option Addr) (pc b : Nat) (x : CS) (t : Int) : Spec Try.prog 79 [.pointer (some ⟨b, 0, none⟩), .int .i64 t] [ck pa pc b x] (fun (_ : Unit) => .tuple #[ev3 (stF x t), .int .i64 (if 0 ≤ t ∧ t < x.th then 0 else 2)]) (fun _ => True) (fun _ => [ck pa pc b x]) := by
 refine spec_mk (n := 23) Try.func79 rfl rfl rfl ?_
 intro Γ w0
 simp only [argE, List.cons_append, List.nil_append, Nat.zero_add, Nat.reduceAdd]
 refine c_seq ?_
 refine c_plain ((.l 0 [] (.q 1 (.done)))) (by kernel_rfl) ?_
 refine l_alloc rfl rfl rfl Try.zeroValue79 (zs := [.int .i64 0, .int .i64 0, .int .i64 0]) rfl ?_
 intro b4
 refine ag_nil ?_
 refine q_assign rfl rfl rfl rfl ?_
 refine r_done ?_
 refine k_then_n ?_
 refine c_seq ?_
 refine c_seq ?_
 refine c_plain (.q 0 ((.l 1 [] (.done)))) (by kernel_rfl) ?_
 refine q_move rfl rfl rfl rfl ?_
 have sp_1 := none_spec pa pc b x
 refine l_call rfl rfl rfl rfl rfl rfl Try.call62 (sp_1) (by (repeat ((with_reducible apply Z2); focus (first | (with_reducible (repeat (first | exact Z0 | apply Z1)); done) | (repeat (first | exact Z0 | apply Z1))))); exact Z3) ?_
 rintro ⟨⟩ -
 try simp only [List.cons_append, List.nil_append]
 refine ag_nil ?_
 refine r_done ?_
 refine k_then_n ?_
 refine c_cond_f rfl ?_
 refine c_skip ?_
 refine k_then_n ?_
 refine c_seq ?_
 refine s_take (A := ck pa pc b x) (by with_reducible (repeat (first | exact Z0 | apply Z1))) ?_
 refine ck_open fun m1 m2 Fs Fo oa oc hR => ?_
 refine c_draw rfl (.q 0 (.q 1 (.q 2 (.q 3 (.q 4 (.q 5 (.q 6 (.q 7 (.q 8 (.q 9 (.q 10 (.q 11 (.q 12 ((.l 13 [3, 5] ((.l 14 [] (.q 15 (.done))))))))))))))))))) (by kernel_rfl) ?_
 refine q_move rfl rfl rfl rfl ?_
 refine q_nil_p rfl rfl rfl rfl ?_
 refine q_field (k := 5) rfl rfl rfl rfl Try.underlying129 rfl Try.sizeOf126 rfl ?_
 refine q_load_c (j := 5) rfl rfl rfl rfl Try.isAgg126 (by with_reducible (repeat (first | exact Z0 | apply Z1))) (by first | rfl | exact (Nat.add_zero _).symm) (by rfl) ?_
 refine q_move rfl rfl rfl rfl ?_
 refine q_lookup1 (ek := ekZ) (ev1 := ev3) (F := Fs) (m := m1) (k := t) (0, 0, 0) rfl rfl rfl rfl rfl Try.underlying126 (keyOK_int Try.underlying3) Try.zeroValue79 (by with_reducible (repeat (first | exact Z0 | apply Z1))) ?_
 refine s_eq 14 rfl (v' := .agg #[.int .i64 ((stF x t).1), .int .i64 ((stF x t).2.1), .int .i64 ((stF x t).2.2)]) (by rw [hR.st]) ?_
 refine q_move rfl rfl rfl rfl ?_
 refine q_move rfl rfl rfl rfl ?_
 refine q_move rfl rfl rfl rfl ?_
 refine q_nil_p rfl rfl rfl rfl ?_
 refine q_field (k := 0) rfl rfl rfl rfl Try.underlying129 rfl Try.sizeOf24 rfl ?_
 refine q_field (k := 0) rfl rfl rfl rfl Try.underlying24 rfl Try.sizeOf3 rfl ?_
 refine q_load_c (j := 0) rfl rfl rfl rfl Try.isAgg3 (by with_reducible (repeat (first | exact Z0 | apply Z1))) (by first | rfl | exact (Nat.add_zero _).symm) (by rfl) ?_
 refine l_call rfl rfl rfl rfl rfl rfl Try.call80 (asked_spec _ t x.th) (by (repeat ((with_reducible apply Z2); focus (first | (with_reducible (repeat (first | exact Z0 | apply Z1)); done) | (repeat (first | exact Z0 | apply Z1))))); exact Z3) ?_
 rintro ⟨⟩ -
 try simp only [List.cons_append, List.nil_append]
 refine ag_load_c (q := 5) rfl rfl rfl Try.isAgg126 (by with_reducible (repeat (first | exact Z0 | apply Z1))) (by first | rfl | exact (Nat.add_zero _).symm) (by rfl) ?_
 refine ag_lookup1 (ek := ekZ) (ev1 := ev3) (F := Fs) (m := m1) (k := t) (0, 0, 0) rfl rfl (by first | rfl | (rw [hR.st])) rfl rfl Try.underlying126 (keyOK_int Try.underlying3) Try.zeroValue79 (by with_reducible (repeat (first | exact Z0 | apply Z1))) ?_
 refine ag_nil ?_
 refine l_store (j := 0) rfl rfl rfl rfl Try.sizeOf79 (us := [_, _, _]) rfl rfl rfl (by with_reducible (repeat (first | exact Z0 | apply Z1))) (by first | rfl | exact (Nat.add_zero _).symm) (by first | decide | (simp; done) | omega) ?_
 simp only [setL, List.set]
 refine ag_nil ?_
 refine q_assign rfl rfl rfl rfl ?_
 refine r_done ?_
 refine s_keep [4, 5] (e' := [(4, _), (5, _)]) rfl ?_
 refine k_then_n ?_
 refine c_ret ?_
 refine ck_fold (b := b) x (pa := pa) (pc := pc) (m1 := m1) (m2 := m2) (oa := oa) (oc := oc) (by (repeat ((with_reducible apply Z2); focus (first | (with_reducible (repeat (first | exact Z0 | apply Z1)); done) | (repeat (first | exact Z0 | apply Z1))))); exact Z3) (by rfl) (by rfl) (hR) ?_
 refine retL (us := [_, _]) rfl ⟨rv_cellN rfl Try.isAgg79 Try.sizeOf79 (by with_reducible (repeat (first | exact Z0 | apply Z1))) 0 rfl (us := [_, _, _]) rfl rfl, rv_tmp rfl, trivial⟩ (()) (by first | rfl | (first | rfl | (congr 1; done) | (congr 1 <;> first | rfl | omega | (simp; done) | (simp; omega)))) (by trivial) ?_
 (repeat ((with_reducible apply Z2); focus (first | (with_reducible (repeat (first | exact Z0 | apply Z1)); done) | (repeat (first | exact Z0 | apply Z1))))); (repeat (first | exact Z3 | exact Takes.self | refine takes_drop2 ?_))


theorem round_spec (pa : Option Addr) (pc b : Nat) (x : CS) (l : Int) : Spec Try.prog 71 [.pointer (some ⟨b, 0, none⟩), .int .i64 l] [ck pa pc b x] (fun (_ : Unit) => .tuple #[ev2 (if 0 ≤ l ∧ l < (x.B.length : Int) then opF x l else (0, 0)), .int .i64 (if 0 ≤ l ∧ l < (x.B.length : Int) then 0 else 2)]) (fun _ => True) (fun _ => [ck pa pc b x]) := by
 refine spec_mk (n := 29) Try.func71 rfl rfl rfl ?_
 intro Γ w0
 simp only [argE, List.cons_append, List.nil_append, Nat.zero_add, Nat.reduceAdd]
 refine c_seq ?_
 refine c_plain ((.l 0 [] (.q 1 (.done)))) (by kernel_rfl) ?_
 refine l_alloc rfl rfl rfl Try.zeroValue74 (zs := [.int .i64 0, .int .i64 0]) rfl ?_
 intro b4
 refine ag_nil ?_
 refine q_assign rfl rfl rfl rfl ?_
 refine r_done ?_
 refine k_then_n ?_
 refine c_seq ?_
 refine c_seq ?_
 refine c_plain (.q 0 ((.l 1 [] (.done)))) (by kernel_rfl) ?_
 refine q_move rfl rfl rfl rfl ?_
 have sp_1 := none_spec pa pc b x
 refine l_call rfl rfl rfl rfl rfl rfl Try.call62 (sp_1) (by (repeat ((with_reducible apply Z2); focus (first | (with_reducible (repeat (first | exact Z0 | apply Z1)); done) | (repeat (first | exact Z0 | apply Z1))))); exact Z3) ?_
 rintro ⟨⟩ -
 try simp only [List.cons_append, List.nil_append]
 refine ag_nil ?_
 refine r_done ?_
 refine k_then_n ?_
 refine c_cond_f rfl ?_
 refine c_skip ?_
 refine k_then_n ?_
 refine c_seq ?_
 refine c_seq ?_
 refine s_take (A := ck pa pc b x) (by with_reducible (repeat (first | exact Z0 | apply Z1))) ?_
 refine ck_open fun m1 m2 Fs Fo oa oc hR => ?_
 refine c_plain (.q 0 (.q 1 (.q 2 (.q 3 (.q 4 (.q 5 (.q 6 ((.l 7 [] (.q 8 (.done))))))))))) (by kernel_rfl) ?_
 refine q_move rfl rfl rfl rfl ?_
 refine q_move rfl rfl rfl rfl ?_
 refine q_move rfl rfl rfl rfl ?_
 refine q_nil_p rfl rfl rfl rfl ?_
 refine q_field (k := 7) rfl rfl rfl rfl Try.underlying129 rfl Try.sizeOf111 rfl ?_
 refine q_load_c (j := 7) rfl rfl rfl rfl Try.isAgg111 (by with_reducible (repeat (first | exact Z0 | apply Z1))) (by first | rfl | exact (Nat.add_zero _).symm) (by rfl) ?_
 refine q_len rfl rfl rfl rfl Try.underlying111 ?_
 refine l_call rfl rfl rfl rfl rfl rfl Try.call80 (asked_spec _ l ((x.B.length : Nat) : Int)) (by (repeat ((with_reducible apply Z2); focus (first | (with_reducible (repeat (first | exact Z0 | apply Z1)); done) | (repeat (first | exact Z0 | apply Z1))))); exact Z3) ?_
 rintro ⟨⟩ -
 try simp only [List.cons_append, List.nil_append]
 refine ag_nil ?_
 refine q_assign rfl rfl rfl rfl ?_
 refine r_done ?_
 refine s_keep [0, 1, 4, 6] (e' := [(0, _), (1, _), (4, _), (6, _)]) rfl ?_
 refine k_then_n ?_
 refine c_seq ?_
 refine c_plain (.q 0 (.q 1 (.done))) (by kernel_rfl) ?_
 refine q_move rfl rfl rfl rfl ?_
 refine q_int rfl rfl rfl rfl rfl (b_neq _ _ _ _) ?_
 refine r_done ?_
 refine k_then_n ?_
 refine c_cond_p rfl (fun he => ?_) (fun he => ?_)
 ·
  have hno : ¬ (0 ≤ l ∧ l < (x.B.length : Int)) := fun h => he (if_pos h)
  refine c_seq ?_
  refine c_plain (.q 0 (.q 1 ((.l 2 [] (.q 3 (.done)))))) (by kernel_rfl) ?_
  refine q_build rfl rfl rfl rfl (vs := [_, _]) (run_buildS Try.underlying74 Try.zeroValue74 (ps := [(0, 1), (1, 1)]) ⟨rfl, Try.sizeOf3, rfl, Try.sizeOf3, trivial⟩ rfl) ?_
  refine q_move rfl rfl rfl rfl ?_
  refine l_store (j := 0) rfl rfl rfl rfl Try.sizeOf74 (us := [_, _]) rfl rfl rfl (by with_reducible (repeat (first | exact Z0 | apply Z1))) (by first | rfl | exact (Nat.add_zero _).symm) (by first | decide | (simp; done) | omega) ?_
  simp only [setL, List.set]
  refine ag_nil ?_
  refine q_assign rfl rfl rfl rfl ?_
  refine r_done ?_
  refine s_keep [4, 5] (e' := [(4, _), (5, _)]) rfl ?_
  refine k_then_n ?_
  refine c_ret ?_
  refine k_then_ret ?_
  refine ck_fold (b := b) x (pa := pa) (pc := pc) (m1 := m1) (m2 := m2) (oa := oa) (oc := oc) (by (repeat ((with_reducible apply Z2); focus (first | (with_reducible (repeat (first | exact Z0 | apply Z1)); done) | (repeat (first | exact Z0 | apply Z1))))); exact Z3) (by rfl) (by rfl) (hR) ?_
  refine retL (us := [_, _]) rfl ⟨rv_cellN rfl Try.isAgg74 Try.sizeOf74 (by with_reducible (repeat (first | exact Z0 | apply Z1))) 0 rfl (us := [_, _]) rfl rfl, rv_tmp rfl, trivial⟩ (()) (by rw [if_neg hno, if_neg hno]; rfl) (by trivial) ?_
  (repeat ((with_reducible apply Z2); focus (first | (with_reducible (repeat (first | exact Z0 | apply Z1)); done) | (repeat (first | exact Z0 | apply Z1))))); (repeat (first | exact Z3 | exact Takes.self | refine takes_drop2 ?_))
 ·
  have hyes : 0 ≤ l ∧ l < (x.B.length : Int) := Classical.byContradiction fun h => he (by rw [if_neg h]; decide)
  have hop := opF_at hyes.1 hyes.2
  refine c_skip ?_
  refine k_then_n ?_
  refine c_seq ?_
  refine c_plain (.q 0 (.q 1 (.q 2 (.q 3 (.q 4 (.q 5 (.q 6 ((.l 7 [] (.q 8 (.done))))))))))) (by kernel_rfl) ?_
  refine q_move rfl rfl rfl rfl ?_
  refine q_nil_p rfl rfl rfl rfl ?_
  refine q_field (k := 7) rfl rfl rfl rfl Try.underlying129 rfl Try.sizeOf111 rfl ?_
  refine q_load_c (j := 7) rfl rfl rfl rfl Try.isAgg111 (by with_reducible (repeat (first | exact Z0 | apply Z1))) (by first | rfl | exact (Nat.add_zero _).symm) (by rfl) ?_
  refine q_move rfl rfl rfl rfl ?_
  refine q_idxO (sz := 1) (k := l.toNat) (enc := enc2) (xs := x.B) rfl rfl rfl rfl rfl Try.underlying111 Try.sizeOf74 hop (by first | rfl | omega) (by omega) (by with_reducible (repeat (first | exact Z0 | apply Z1))) ?_
  intro ib27 io27 ha27 hl27 hc27
  refine q_loadN_O (j := 0) (k' := l.toNat) (us := [_, _]) (enc := enc2) (off := io27) rfl rfl rfl rfl Try.isAgg74 Try.sizeOf74 ha27 enc2_len hop (by with_reducible (repeat (first | exact Z0 | apply Z1))) (by first | rfl | exact (Nat.add_zero _).symm | omega) (by rfl) rfl ?_
  refine l_store (j := 0) rfl rfl rfl rfl Try.sizeOf74 (us := [_, _]) rfl rfl rfl (by with_reducible (repeat (first | exact Z0 | apply Z1))) (by first | rfl | exact (Nat.add_zero _).symm) (by first | decide | (simp; done) | omega) ?_
  simp only [setL, List.set]
  refine ag_nil ?_
  refine q_assign rfl rfl rfl rfl ?_
  refine r_done ?_
  refine s_keep [4, 5] (e' := [(4, _), (5, _)]) rfl ?_
  refine k_then_n ?_
  refine c_ret ?_
  refine ck_fold (b := b) x (pa := pa) (pc := pc) (m1 := m1) (m2 := m2) (oa := oa) (oc := oc) (by (repeat ((with_reducible apply Z2); focus (first | (with_reducible (repeat (first | exact Z0 | apply Z1)); done) | (repeat (first | exact Z0 | apply Z1))))); exact Z3) (by rfl) (by rfl) (hR) ?_
  refine retL (us := [_, _]) rfl ⟨rv_cellN rfl Try.isAgg74 Try.sizeOf74 (by with_reducible (repeat (first | exact Z0 | apply Z1))) 0 rfl (us := [_, _]) rfl rfl, rv_tmp rfl, trivial⟩ (()) (by rw [if_pos hyes, if_pos hyes]; rfl) (by trivial) ?_
  (repeat ((with_reducible apply Z2); focus (first | (with_reducible (repeat (first | exact Z0 | apply Z1)); done) | (repeat (first | exact Z0 | apply Z1))))); (repeat (first | exact Z3 | exact Takes.self | refine takes_drop2 ?_))
end Go.Ab.Fe
