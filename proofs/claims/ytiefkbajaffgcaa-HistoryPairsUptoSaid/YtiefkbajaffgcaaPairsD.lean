/- What the law Pairs rests on, part 4 of 6. -/
import Derived.Test.YtiefkbajaffgcaaPairsC
set_option linter.unusedVariables false
set_option linter.unusedSimpArgs false
set_option maxRecDepth 100000
namespace Go.Ab.Hi
open Go Go.Proofs Go.Ab Go.Ab.Fe Go.Ab.Vc Go.Ab.Dj Go.Ab.So
theorem agF_len (x : HS) (k t o : Int) : (agF x k t o).length ≤ 2 * x.keys.length := by
  unfold agF
  split
  · rw [isort_len]; exact flat_len (agK_len _ _ _ _ _) _
  · simp
theorem set_two {α : Type} {l : List α} {i : Nat} {a b : α} : (l.set i a).set i b = l.set i b := List.set_set ..
theorem ntV_no {n k t o : Int} {l : List Int} {w : Tld} (h : ¬ (0 : Int) < ((l.length : Nat) : Int)) : ntV n k t o l w = (w.1, w.2.1, w.2.2.1, (k, t, o), n) := by
  have : l = [] := List.eq_nil_of_length_eq_zero (by omega)
  subst this; rfl
theorem ntV_at {n k t o z : Int} {l : List Int} {w : Tld} (h : l[l.length - 1]? = some z) : ntV n k t o l w = (if w.2.2.1 = true then w.1 else (o, z, n), (o, z, n), true, (k, t, o), n) := by
  unfold ntV
  rw [List.getLast?_eq_getElem?, h]
theorem note_spec (pa : Option Addr) (pc : Nat) (po : Option Addr) (poc b : Nat) (x : HS) (hx : SInv x) (hn : x.v.ck.n ≤ 100000000000) (k t o : Int) (hc : canF x.v.ck k t o) (hk : k = 1 ∨ k = 2) : Spec Try.prog 30 [.pointer (some ⟨b, 0, none⟩), .agg #[.int .i64 k, .int .i64 t, .int .i64 o]] [hsR pa pc po poc b x] (fun (_ : Unit) => .tuple #[]) (fun _ => True) (fun _ => [hsR pa pc po poc b (ntF x k t o)]) := by
 refine spec_mk (n := 104) Try.func30 rfl rfl rfl ?_
 intro Γ w0
 simp only [argE, List.cons_append, List.nil_append, Nat.zero_add, Nat.reduceAdd]
 refine c_seq ?_
 refine c_plain ((.l 0 [] (.done))) (by kernel_rfl) ?_
 refine l_box rfl rfl rfl rfl (us := [_, _, _]) rfl ?_
 intro b3
 refine ag_nil ?_
 refine r_done ?_
 refine k_then_n ?_
 refine c_seq ?_
 obtain ⟨l, hth⟩ := th_some hx.v (can_th hc)
 obtain ⟨h0, h1⟩ := th_rng hx.v (can_th hc)
 have hlc := hx.v.thc _ _ hth
 have hkn := hx.kn
 have hlen := hx.len
 have hn0 := hx.v.ck.n0
 have hlg := g_rng hlc.rng (by decide) t.toNat
 have hmx : maxC = 281474976710655 := rfl
 have hagl := agF_len x k t o
 obtain ⟨o0, o1⟩ := acc_o hc hk
 obtain ⟨w, hw⟩ := get_lt (l := x.vars) (i := o.toNat) (by omega)
 refine s_take (A := hsR pa pc po poc b x) Tk ?_
 refine hs_open fun vb mk va vc => ?_
 refine s_take (A := vsR pa pc po poc vb x.v) Tk ?_
 refine vs_open fun cb m1 m2 m3 m4 F1 F2 F3 F4 => ?_
 refine c_plain (.q 0 (.q 1 (.q 2 (.q 3 (.q 4 (.q 5 (.q 6 ((.l 7 [] (.q 8 (.done))))))))))) (by kernel_rfl) ?_
 refine q_move rfl rfl rfl rfl ?_
 refine q_nil_p rfl rfl rfl rfl ?_
 refine q_field (k := 0) rfl rfl rfl rfl Try.underlying70 rfl Try.sizeOf64 rfl ?_
 refine q_load_c (j := 0) rfl rfl rfl rfl Try.isAgg64 Tk (by first | rfl | exact (Nat.add_zero _).symm) (by rfl) ?_
 refine q_nil_p rfl rfl rfl rfl ?_
 refine q_field (k := 0) rfl rfl rfl rfl Try.underlying80 rfl Try.sizeOf76 rfl ?_
 refine q_load_c (j := 0) rfl rfl rfl rfl Try.isAgg76 Tk (by first | rfl | exact (Nat.add_zero _).symm) (by rfl) ?_
 have sp_1 := Fe.len_spec pa pc cb x.v.ck
 refine l_call rfl rfl rfl rfl rfl rfl Try.call43 (sp_1) Ts ?_
 rintro ⟨⟩ -
 try simp only [List.cons_append, List.nil_append]
 refine ag_nil ?_
 refine q_assign rfl rfl rfl rfl ?_
 refine r_done ?_
 refine s_keep [0, 3, 4] (e' := [(0, _), (3, _), (4, _)]) rfl ?_
 refine k_then_n ?_
 refine c_seq ?_
 refine c_draw rfl (.q 0 (.q 1 (.q 2 (.q 3 (.q 4 (.q 5 (.q 6 (.q 7 (.done))))))))) (by kernel_rfl) ?_
 refine q_move rfl rfl rfl rfl ?_
 refine q_nil_p rfl rfl rfl rfl ?_
 refine q_field (k := 2) rfl rfl rfl rfl Try.underlying70 rfl Try.sizeOf67 rfl ?_
 refine q_load_c (j := 2) rfl rfl rfl rfl Try.isAgg67 Tk (by first | rfl | exact (Nat.add_zero _).symm) (by rfl) ?_
 refine q_field (k := 2) rfl rfl rfl rfl Try.underlying36 rfl Try.sizeOf3 rfl ?_
 refine q_load_c (j := 2) rfl rfl rfl rfl Try.isAgg3 Tk (by first | rfl | exact (Nat.add_zero _).symm) (by rfl) ?_
 refine q_idxO (sz := 10) (k := o.toNat) (enc := encD) (xs := x.vars) rfl rfl rfl rfl rfl Try.underlying67 Try.sizeOf102 hw (by first | rfl | omega) (by omega) Tk ?_
 intro ib22 io22 ha22 hl22 hc22
 refine q_assign rfl rfl rfl rfl ?_
 refine r_done ?_
 refine s_keep [0, 3, 4, 5] (e' := [(0, _), (3, _), (4, _), (5, _)]) rfl ?_
 refine k_then_n ?_
 refine c_seq ?_
 refine c_seq ?_
 refine s_rest_take (F := F1) (T := x.v.th) (S := []) t Tk (by simp) hth fun tv htF => ?_
 refine s_vec Tk fun tb ta tc hta => ?_
 subst hta
 refine c_plain (.q 0 (.q 1 ((.l 2 [] (.q 3 (.done)))))) (by kernel_rfl) ?_
 refine q_move rfl rfl rfl rfl ?_
 refine q_loadN_c rfl rfl rfl rfl Try.isAgg36 Try.sizeOf36 Tk 0 (us := [_, _, _]) (by first | rfl | exact (Nat.add_zero _).symm) rfl rfl ?_
 have sp_2 := Hi.against_spec b vb mk m1 tb (.int .i64 x.v.ck.th) (.slice va x.vars.length vc) (.pointer (some ⟨cb, 0, none⟩)) (.slice po x.v.ck.pa.length poc) (.map (some m2)) (.map (some m3)) (.map (some m4)) x.kept F1  ta tc l x.keys k t o htF hx.nd hx.ks hx.kt (by omega)
 refine l_call rfl rfl rfl rfl rfl rfl Try.call35 (sp_2) Ts ?_
 rintro ⟨ga, gc⟩ -
 rw [show (if k = 1 ∨ k = 2 then isort (x.keys.flatMap (agK x.kept k t o l)) else []) = agF x k t o from by unfold agF; rw [thF_eq hth]]
 try simp only [List.cons_append, List.nil_append]
 refine ag_nil ?_
 refine q_assign rfl rfl rfl rfl ?_
 refine r_done ?_
 refine k_then_n ?_
 refine c_seq ?_
 refine c_plain (.q 0 (.q 1 (.q 2 (.done)))) (by kernel_rfl) ?_
 refine q_move rfl rfl rfl rfl ?_
 refine q_len rfl rfl rfl rfl Try.underlying23 ?_
 refine q_int rfl rfl rfl rfl rfl (b_gtr _ _ _ _) ?_
 refine r_done ?_
 refine s_keep [0, 3, 4, 5, 6, 28] (e' := [(0, _), (3, _), (4, _), (5, _), (6, _), (28, _)]) rfl ?_
 refine k_then_n ?_
 refine c_cond_p rfl (fun hgp => ?_) (fun hgp => ?_)
 ·
  obtain ⟨z, hz⟩ := get_lt (l := (agF x k t o)) (i := (agF x k t o).length - 1) (by omega)
  refine c_seq ?_
  refine c_draw rfl (.q 0 (.q 1 (.q 2 (.q 3 (.q 4 (.q 5 (.q 6 (.q 7 (.q 8 (.q 9 (.q 10 (.q 11 (.q 12 ((.l 13 [] (.done)))))))))))))))) (by kernel_rfl) ?_
  refine q_move rfl rfl rfl rfl ?_
  refine q_field (k := 2) rfl rfl rfl rfl Try.underlying36 rfl Try.sizeOf3 rfl ?_
  refine q_load_c (j := 2) rfl rfl rfl rfl Try.isAgg3 Tk (by first | rfl | exact (Nat.add_zero _).symm) (by rfl) ?_
  refine q_move rfl rfl rfl rfl ?_
  refine q_move rfl rfl rfl rfl ?_
  refine q_len rfl rfl rfl rfl Try.underlying23 ?_
  refine q_int rfl rfl rfl rfl rfl (b_sub' _ (by exact fits_i64 (by omega) (by omega))) ?_
  refine q_idxO (sz := 0) (k := ((agF x k t o).length - 1)) (enc := encZ) (xs := (agF x k t o)) rfl rfl rfl rfl rfl Try.underlying23 Try.sizeOf3 hz (by first | rfl | omega) (by omega) Tk ?_
  intro ib36 io36 ha36 hl36 hc36
  refine q_load_O (v := (.int .i64 z)) (j := 0) (k' := ((agF x k t o).length - 1)) (enc := encZ) (off := io36) rfl rfl rfl rfl Try.isAgg3 ha36 encZ_len hz Tk (by first | rfl | exact (Nat.add_zero _).symm | omega) (by rfl) ?_
  refine q_move rfl rfl rfl rfl ?_
  refine q_build rfl rfl rfl rfl (vs := [_, _, _]) (run_buildS Try.underlying56 Try.zeroValue56 (ps := [(0, 1), (1, 1), (2, 1)]) ⟨rfl, Try.sizeOf3, rfl, Try.sizeOf3, rfl, Try.sizeOf3, trivial⟩ rfl) ?_
  refine q_nil_p rfl rfl rfl rfl ?_
  refine q_field (k := 3) rfl rfl rfl rfl Try.underlying102 rfl Try.sizeOf56 rfl ?_
  refine l_store_O (j := 3) (k := o.toNat) (q := (w.1, (o, z, x.v.ck.n), w.2.2.1, w.2.2.2.1, w.2.2.2.2)) (enc := encD) (off := io22) rfl rfl rfl rfl Try.sizeOf56 (us := [_, _, _]) rfl rfl rfl ha22 encD_len hw Tk (by first | rfl | exact (Nat.add_zero _).symm | omega) (by first | decide | exact Nat.le_of_ble_eq_true rfl) (by rfl) ?_
  refine ag_nil ?_
  have hs1 : (x.vars.set o.toNat (w.1, (o, z, x.v.ck.n), w.2.2.1, w.2.2.2.1, w.2.2.2.2))[o.toNat]? = some ((w.1, (o, z, x.v.ck.n), w.2.2.1, w.2.2.2.1, w.2.2.2.2) : Tld) := List.getElem?_set_self (by first | omega | (simp only [List.length_set]; omega))
  refine r_done ?_
  refine s_keep [0, 3, 4, 5] (e' := [(0, _), (3, _), (4, _), (5, _)]) rfl ?_
  refine k_then_n ?_
  refine c_seq ?_
  refine c_plain (.q 0 (.q 1 (.q 2 (.q 3 (.q 4 (.done)))))) (by kernel_rfl) ?_
  refine q_move rfl rfl rfl rfl ?_
  refine q_nil_p rfl rfl rfl rfl ?_
  refine q_field (k := 6) rfl rfl rfl rfl Try.underlying102 rfl Try.sizeOf4 rfl ?_
  refine q_load_O (v := (.bool w.2.2.1)) (j := 6) (k' := o.toNat) (enc := encD) (off := io22) rfl rfl rfl rfl Try.isAgg4 ha22 encD_len hs1 Tk (by first | rfl | exact (Nat.add_zero _).symm | omega) (by rfl) ?_
  refine q_not rfl rfl rfl rfl ?_
  refine r_done ?_
  refine s_keep [0, 3, 4, 5, 46] (e' := [(0, _), (3, _), (4, _), (5, _), (46, _)]) rfl ?_
  refine k_then_n ?_
  refine c_cond rfl (fun hra => ?_) (fun hra => ?_)
  ·
   try simp only [Bool.and_eq_true, Bool.or_eq_true, Bool.not_eq_true', Bool.not_eq_false', Bool.and_eq_false_iff, Bool.or_eq_false_iff, decide_eq_true_eq, decide_eq_false_iff_not] at hra
   refine c_plain (.q 0 (.q 1 (.q 2 (.q 3 (.q 4 (.q 5 (.q 6 (.q 7 ((.l 8 [] (.q 9 (.q 10 ((.l 11 [] (.done))))))))))))))) (by kernel_rfl) ?_
   refine q_move rfl rfl rfl rfl ?_
   refine q_move rfl rfl rfl rfl ?_
   refine q_move rfl rfl rfl rfl ?_
   refine q_nil_p rfl rfl rfl rfl ?_
   refine q_field (k := 3) rfl rfl rfl rfl Try.underlying102 rfl Try.sizeOf56 rfl ?_
   refine q_loadN_O (j := 3) (k' := o.toNat) (us := [_, _, _]) (enc := encD) (off := io22) rfl rfl rfl rfl Try.isAgg56 Try.sizeOf56 ha22 encD_len hs1 Tk (by first | rfl | exact (Nat.add_zero _).symm | omega) (by rfl) rfl ?_
   refine q_nil_p rfl rfl rfl rfl ?_
   refine q_field (k := 0) rfl rfl rfl rfl Try.underlying102 rfl Try.sizeOf56 rfl ?_
   refine l_store_O (j := 0) (k := o.toNat) (q := ((o, z, x.v.ck.n), (o, z, x.v.ck.n), w.2.2.1, w.2.2.2.1, w.2.2.2.2)) (enc := encD) (off := io22) rfl rfl rfl rfl Try.sizeOf56 (us := [_, _, _]) rfl rfl rfl ha22 encD_len hs1 Tk (by first | rfl | exact (Nat.add_zero _).symm | omega) (by first | decide | exact Nat.le_of_ble_eq_true rfl) (by rfl) ?_
   refine ag_nil ?_
   have hs2 : ((x.vars.set o.toNat (w.1, (o, z, x.v.ck.n), w.2.2.1, w.2.2.2.1, w.2.2.2.2)).set o.toNat ((o, z, x.v.ck.n), (o, z, x.v.ck.n), w.2.2.1, w.2.2.2.1, w.2.2.2.2))[o.toNat]? = some (((o, z, x.v.ck.n), (o, z, x.v.ck.n), w.2.2.1, w.2.2.2.1, w.2.2.2.2) : Tld) := List.getElem?_set_self (by first | omega | (simp only [List.length_set]; omega))
   refine q_nil_p rfl rfl rfl rfl ?_
   refine q_field (k := 6) rfl rfl rfl rfl Try.underlying102 rfl Try.sizeOf4 rfl ?_
   refine l_store_O (j := 6) (k := o.toNat) (q := ((o, z, x.v.ck.n), (o, z, x.v.ck.n), true, w.2.2.2.1, w.2.2.2.2)) (enc := encD) (off := io22) rfl rfl rfl rfl Try.sizeOf4 (us := [_]) rfl rfl rfl ha22 encD_len hs2 Tk (by first | rfl | exact (Nat.add_zero _).symm | omega) (by first | decide | exact Nat.le_of_ble_eq_true rfl) (by rfl) ?_
   refine ag_nil ?_
   have hs3 : (((x.vars.set o.toNat (w.1, (o, z, x.v.ck.n), w.2.2.1, w.2.2.2.1, w.2.2.2.2)).set o.toNat ((o, z, x.v.ck.n), (o, z, x.v.ck.n), w.2.2.1, w.2.2.2.1, w.2.2.2.2)).set o.toNat ((o, z, x.v.ck.n), (o, z, x.v.ck.n), true, w.2.2.2.1, w.2.2.2.2))[o.toNat]? = some (((o, z, x.v.ck.n), (o, z, x.v.ck.n), true, w.2.2.2.1, w.2.2.2.2) : Tld) := List.getElem?_set_self (by first | omega | (simp only [List.length_set]; omega))
   refine r_done ?_
   refine s_keep [0, 3, 4, 5] (e' := [(0, _), (3, _), (4, _), (5, _)]) rfl ?_
   refine k_then_n ?_
   refine c_seq ?_
   refine c_plain (.q 0 (.q 1 (.q 2 (.q 3 (.q 4 (.q 5 ((.l 6 [] (.q 7 (.q 8 ((.l 9 [] (.done))))))))))))) (by kernel_rfl) ?_
   refine q_move rfl rfl rfl rfl ?_
   refine q_move rfl rfl rfl rfl ?_
   refine q_loadN_c rfl rfl rfl rfl Try.isAgg36 Try.sizeOf36 Tk 0 (us := [_, _, _]) (by first | rfl | exact (Nat.add_zero _).symm) rfl rfl ?_
   refine q_move rfl rfl rfl rfl ?_
   refine q_nil_p rfl rfl rfl rfl ?_
   refine q_field (k := 7) rfl rfl rfl rfl Try.underlying102 rfl Try.sizeOf36 rfl ?_
   refine l_store_O (j := 7) (k := o.toNat) (q := ((o, z, x.v.ck.n), (o, z, x.v.ck.n), true, (k, t, o), w.2.2.2.2)) (enc := encD) (off := io22) rfl rfl rfl rfl Try.sizeOf36 (us := [_, _, _]) rfl rfl rfl ha22 encD_len hs3 Tk (by first | rfl | exact (Nat.add_zero _).symm | omega) (by first | decide | exact Nat.le_of_ble_eq_true rfl) (by rfl) ?_
   refine ag_nil ?_
   have hs4 : ((((x.vars.set o.toNat (w.1, (o, z, x.v.ck.n), w.2.2.1, w.2.2.2.1, w.2.2.2.2)).set o.toNat ((o, z, x.v.ck.n), (o, z, x.v.ck.n), w.2.2.1, w.2.2.2.1, w.2.2.2.2)).set o.toNat ((o, z, x.v.ck.n), (o, z, x.v.ck.n), true, w.2.2.2.1, w.2.2.2.2)).set o.toNat ((o, z, x.v.ck.n), (o, z, x.v.ck.n), true, (k, t, o), w.2.2.2.2))[o.toNat]? = some (((o, z, x.v.ck.n), (o, z, x.v.ck.n), true, (k, t, o), w.2.2.2.2) : Tld) := List.getElem?_set_self (by first | omega | (simp only [List.length_set]; omega))
   refine q_nil_p rfl rfl rfl rfl ?_
   refine q_field (k := 10) rfl rfl rfl rfl Try.underlying102 rfl Try.sizeOf3 rfl ?_
   refine l_store_O (j := 10) (k := o.toNat) (q := ((o, z, x.v.ck.n), (o, z, x.v.ck.n), true, (k, t, o), x.v.ck.n)) (enc := encD) (off := io22) rfl rfl rfl rfl Try.sizeOf3 (us := [_]) rfl rfl rfl ha22 encD_len hs4 Tk (by first | rfl | exact (Nat.add_zero _).symm | omega) (by first | decide | exact Nat.le_of_ble_eq_true rfl) (by rfl) ?_
   refine ag_nil ?_
   have hs5 : (((((x.vars.set o.toNat (w.1, (o, z, x.v.ck.n), w.2.2.1, w.2.2.2.1, w.2.2.2.2)).set o.toNat ((o, z, x.v.ck.n), (o, z, x.v.ck.n), w.2.2.1, w.2.2.2.1, w.2.2.2.2)).set o.toNat ((o, z, x.v.ck.n), (o, z, x.v.ck.n), true, w.2.2.2.1, w.2.2.2.2)).set o.toNat ((o, z, x.v.ck.n), (o, z, x.v.ck.n), true, (k, t, o), w.2.2.2.2)).set o.toNat ((o, z, x.v.ck.n), (o, z, x.v.ck.n), true, (k, t, o), x.v.ck.n))[o.toNat]? = some (((o, z, x.v.ck.n), (o, z, x.v.ck.n), true, (k, t, o), x.v.ck.n) : Tld) := List.getElem?_set_self (by first | omega | (simp only [List.length_set]; omega))
   refine r_done ?_
   refine s_keep [0, 3, 4] (e' := [(0, _), (3, _), (4, _)]) rfl ?_
   refine k_then_n ?_
   refine c_seq ?_
   refine c_plain (.q 0 (.q 1 (.q 2 (.q 3 (.q 4 ((.l 5 [] ((.l 6 [] ((.l 7 [] (.done)))))))))))) (by kernel_rfl) ?_
   refine q_move rfl rfl rfl rfl ?_
   refine q_field (k := 2) rfl rfl rfl rfl Try.underlying36 rfl Try.sizeOf3 rfl ?_
   refine q_load_c (j := 2) rfl rfl rfl rfl Try.isAgg3 Tk (by first | rfl | exact (Nat.add_zero _).symm) (by rfl) ?_
   refine q_field (k := 1) rfl rfl rfl rfl Try.underlying36 rfl Try.sizeOf3 rfl ?_
   refine q_load_c (j := 1) rfl rfl rfl rfl Try.isAgg3 Tk (by first | rfl | exact (Nat.add_zero _).symm) (by rfl) ?_
   have sp_3 := Hi.touched_spec b mk (.pointer (some ⟨vb, 0, none⟩)) (.int .i64 x.v.ck.th) (.slice va x.vars.length vc) x.kept o t
   refine l_call rfl rfl rfl rfl rfl rfl Try.call33 (sp_3) Ts ?_
   rintro ⟨⟩ -
   try simp only [List.cons_append, List.nil_append]
   refine ag_nil ?_
   refine l_alloc rfl rfl rfl Try.zeroValue39 (zs := [.int .i64 0, .int .i64 0, .int .u64 0, .int .u64 0]) rfl ?_
   intro b7
   refine ag_nil ?_
   refine l_store (j := 0) rfl rfl rfl rfl Try.sizeOf39 (us := [_, _, _, _]) rfl rfl rfl Tk (by first | rfl | exact (Nat.add_zero _).symm) (by first | decide | (simp; done) | omega) ?_
   simp only [setL, List.set]
   refine ag_nil ?_
   refine r_done ?_
   refine s_keep [0, 3, 4, 7] (e' := [(0, _), (3, _), (4, _), (7, _)]) rfl ?_
   refine k_then_n ?_
   refine c_seq ?_
   refine c_seq ?_
   refine c_plain (.q 0 (.q 1 (.q 2 (.done)))) (by kernel_rfl) ?_
   refine q_field (k := 0) rfl rfl rfl rfl Try.underlying36 rfl Try.sizeOf34 rfl ?_
   refine q_load_c (j := 0) rfl rfl rfl rfl Try.isAgg34 Tk (by first | rfl | exact (Nat.add_zero _).symm) (by rfl) ?_
   refine q_int rfl rfl rfl rfl rfl (b_eql _ _ _ _) ?_
   refine r_done ?_
   refine k_then_n ?_
   refine c_cond_p rfl (fun hk1 => ?_) (fun hk1 => ?_)
   ·
    refine c_draw rfl (.q 0 (.q 1 (.q 2 (.q 3 (.q 4 (.q 5 (.q 6 (.q 8 ((.l 7 [] ((.l 9 [] (.q 10 ((.l 11 [] (.done)))))))))))))))) (by kernel_rfl) ?_
    refine q_move rfl rfl rfl rfl ?_
    refine q_move rfl rfl rfl rfl ?_
    refine q_nil_p rfl rfl rfl rfl ?_
    refine q_field (k := 0) rfl rfl rfl rfl Try.underlying70 rfl Try.sizeOf64 rfl ?_
    refine q_load_c (j := 0) rfl rfl rfl rfl Try.isAgg64 Tk (by first | rfl | exact (Nat.add_zero _).symm) (by rfl) ?_
    refine q_field (k := 1) rfl rfl rfl rfl Try.underlying36 rfl Try.sizeOf3 rfl ?_
    refine q_load_c (j := 1) rfl rfl rfl rfl Try.isAgg3 Tk (by first | rfl | exact (Nat.add_zero _).symm) (by rfl) ?_
    refine q_field (k := 0) rfl rfl rfl rfl Try.underlying39 rfl Try.sizeOf3 rfl ?_
    have sp_4 := clock_spec vb m1 (.pointer (some ⟨cb, 0, none⟩)) (.slice po x.v.ck.pa.length poc) (.map (some m2)) (.map (some m3)) (.map (some m4)) F1 tb (ta) (tc) l t (by omega) htF
    refine l_call rfl rfl rfl rfl rfl rfl Try.call50 (sp_4) Ts ?_
    rintro ⟨⟩ -
    try simp only [List.cons_append, List.nil_append]
    refine ag_nil ?_
    refine l_store (j := 0) rfl rfl rfl rfl Try.sizeOf3 (us := [_]) rfl rfl rfl Tk (by first | rfl | exact (Nat.add_zero _).symm) (by first | decide | (simp; done) | omega) ?_
    simp only [setL, List.set]
    refine ag_nil ?_
    refine q_field (k := 2) rfl rfl rfl rfl Try.underlying39 rfl Try.sizeOf37 rfl ?_
    refine l_store (j := 2) rfl rfl rfl rfl Try.sizeOf37 (us := [_]) rfl rfl rfl Tk (by first | rfl | exact (Nat.add_zero _).symm) (by first | decide | (simp; done) | omega) ?_
    simp only [setL, List.set]
    refine ag_nil ?_
    refine r_done ?_
    refine s_keep [0, 3, 7] (e' := [(0, _), (3, _), (7, _)]) rfl ?_
    refine k_then_n ?_
    refine c_draw rfl (.q 0 (.q 1 (.q 2 (.q 3 (.q 4 (.q 5 (.q 6 (.q 7 (.q 8 (.q 9 ((.l 10 [] (.done))))))))))))) (by kernel_rfl) ?_
    refine q_move rfl rfl rfl rfl ?_
    refine q_nil_p rfl rfl rfl rfl ?_
    refine q_field (k := 3) rfl rfl rfl rfl Try.underlying70 rfl Try.sizeOf68 rfl ?_
    refine q_load_c (j := 3) rfl rfl rfl rfl Try.isAgg68 Tk (by first | rfl | exact (Nat.add_zero _).symm) (by rfl) ?_
    refine q_field (k := 2) rfl rfl rfl rfl Try.underlying36 rfl Try.sizeOf3 rfl ?_
    refine q_load_c (j := 2) rfl rfl rfl rfl Try.isAgg3 Tk (by first | rfl | exact (Nat.add_zero _).symm) (by rfl) ?_
    refine q_field (k := 1) rfl rfl rfl rfl Try.underlying36 rfl Try.sizeOf3 rfl ?_
    refine q_load_c (j := 1) rfl rfl rfl rfl Try.isAgg3 Tk (by first | rfl | exact (Nat.add_zero _).symm) (by rfl) ?_
    refine q_build rfl rfl rfl rfl (vs := [_, _]) (run_buildS Try.underlying111 Try.zeroValue111 (ps := [(0, 1), (1, 1)]) ⟨rfl, Try.sizeOf3, rfl, Try.sizeOf3, trivial⟩ rfl) ?_
    refine q_loadN_c rfl rfl rfl rfl Try.isAgg39 Try.sizeOf39 Tk 0 (us := [_, _, _, _]) (by first | rfl | exact (Nat.add_zero _).symm) rfl rfl ?_
    refine l_mapUpd (ek := ek2) (ev1 := evT) (F := x.kept) (m := mk) (k := (o, t)) (v := (x.v.ck.n, ((x.kept (o, t)).getD (-1, -1, 0, 0)).2.1, l.getD t.toNat 0, ((x.kept (o, t)).getD (-1, -1, 0, 0)).2.2.2)) (by first | exact .inl rfl | exact .inr rfl) rfl rfl rfl rfl Try.underlying68 (keyOK_pair Try.underlying111 rfl rfl rfl rfl Try.underlying3 Try.underlying3 Try.isAgg3 Try.isAgg3 (by kernel_rfl)) Tk ?_
    refine ag_nil ?_
    have hfx : ntF x k t o = ⟨x.v, (((((x.vars.set o.toNat (w.1, (o, z, x.v.ck.n), w.2.2.1, w.2.2.2.1, w.2.2.2.2)).set o.toNat ((o, z, x.v.ck.n), (o, z, x.v.ck.n), w.2.2.1, w.2.2.2.1, w.2.2.2.2)).set o.toNat ((o, z, x.v.ck.n), (o, z, x.v.ck.n), true, w.2.2.2.1, w.2.2.2.2)).set o.toNat ((o, z, x.v.ck.n), (o, z, x.v.ck.n), true, (k, t, o), w.2.2.2.2)).set o.toNat ((o, z, x.v.ck.n), (o, z, x.v.ck.n), true, (k, t, o), x.v.ck.n)), (if (x.kept (o, t)).isSome then x.keys else x.keys ++ [(o, t)]), upd x.kept (o, t) (some (x.v.ck.n, ((x.kept (o, t)).getD (-1, -1, 0, 0)).2.1, l.getD t.toNat 0, ((x.kept (o, t)).getD (-1, -1, 0, 0)).2.2.2))⟩ := by
      have h5 : (x.v.ck.n, ((x.kept (o, t)).getD (-1, -1, 0, 0)).2.1, l.getD t.toNat 0, ((x.kept (o, t)).getD (-1, -1, 0, 0)).2.2.2) = ntK x.v.ck.n k ((thF x.v t).getD t.toNat 0) (tchF x o t) := by
        rw [thF_eq hth]; unfold ntK tchF
        first | rw [if_pos hk1] | rw [if_neg hk1]
      have h6 : (((((x.vars.set o.toNat (w.1, (o, z, x.v.ck.n), w.2.2.1, w.2.2.2.1, w.2.2.2.2)).set o.toNat ((o, z, x.v.ck.n), (o, z, x.v.ck.n), w.2.2.1, w.2.2.2.1, w.2.2.2.2)).set o.toNat ((o, z, x.v.ck.n), (o, z, x.v.ck.n), true, w.2.2.2.1, w.2.2.2.2)).set o.toNat ((o, z, x.v.ck.n), (o, z, x.v.ck.n), true, (k, t, o), w.2.2.2.2)).set o.toNat ((o, z, x.v.ck.n), (o, z, x.v.ck.n), true, (k, t, o), x.v.ck.n)) = x.vars.set o.toNat (ntV x.v.ck.n k t o (agF x k t o) (x.vars.getD o.toNat t0)) := by
        rw [getD_some hw]
        simp only [set_two]
        congr 1
        symm
        rw [ntV_at hz, if_neg (by simpa using hra)]
      rw [h5, h6]; rfl
    refine s_vecF tb ta tc l Ts ?_
    refine s_rest_put (F := F1) (T := x.v.th) (S := []) t F1 x.v.th Ts (by simp) htF (fun _ _ _ => rfl) hth (fun _ _ _ => rfl) ?_
    refine vs_fold (b := vb) x.v (pa := pa) (pc := pc) (po := po) (poc := poc) (cb := cb) (m1 := m1) (m2 := m2) (m3 := m3) (m4 := m4) Ts (by rfl) (by rfl) ?_
    refine hs_fold (b := b) (ntF x k t o) (pa := pa) (pc := pc) (po := po) (poc := poc) (vb := vb) (va := va) (vc := vc) (mk := mk) (K := (if (x.kept (o, t)).isSome then x.keys else x.keys ++ [(o, t)])) Ts (by exact hfx) (by simp) (by rfl) ?_
    refine r_done ?_
    refine s_keep [] (e' := []) rfl ?_
    refine ret_end ?_
    refine ret0 rfl (()) (by first | rfl | (first | rfl | (congr 1; done) | (congr 1 <;> first | rfl | omega | (simp; done) | (simp; omega)))) (by trivial) ?_
    exact Tf
   ·
    refine c_draw rfl (.q 0 (.q 1 (.q 2 (.q 3 (.q 4 (.q 5 (.q 6 (.q 8 ((.l 7 [] ((.l 9 [] (.q 10 ((.l 11 [] (.done)))))))))))))))) (by kernel_rfl) ?_
    refine q_move rfl rfl rfl rfl ?_
    refine q_move rfl rfl rfl rfl ?_
    refine q_nil_p rfl rfl rfl rfl ?_
    refine q_field (k := 0) rfl rfl rfl rfl Try.underlying70 rfl Try.sizeOf64 rfl ?_
    refine q_load_c (j := 0) rfl rfl rfl rfl Try.isAgg64 Tk (by first | rfl | exact (Nat.add_zero _).symm) (by rfl) ?_
    refine q_field (k := 1) rfl rfl rfl rfl Try.underlying36 rfl Try.sizeOf3 rfl ?_
    refine q_load_c (j := 1) rfl rfl rfl rfl Try.isAgg3 Tk (by first | rfl | exact (Nat.add_zero _).symm) (by rfl) ?_
    refine q_field (k := 1) rfl rfl rfl rfl Try.underlying39 rfl Try.sizeOf3 rfl ?_
    have sp_5 := clock_spec vb m1 (.pointer (some ⟨cb, 0, none⟩)) (.slice po x.v.ck.pa.length poc) (.map (some m2)) (.map (some m3)) (.map (some m4)) F1 tb (ta) (tc) l t (by omega) htF
    refine l_call rfl rfl rfl rfl rfl rfl Try.call50 (sp_5) Ts ?_
    rintro ⟨⟩ -
    try simp only [List.cons_append, List.nil_append]
    refine ag_nil ?_
    refine l_store (j := 1) rfl rfl rfl rfl Try.sizeOf3 (us := [_]) rfl rfl rfl Tk (by first | rfl | exact (Nat.add_zero _).symm) (by first | decide | (simp; done) | omega) ?_
    simp only [setL, List.set]
    refine ag_nil ?_
    refine q_field (k := 3) rfl rfl rfl rfl Try.underlying39 rfl Try.sizeOf37 rfl ?_
    refine l_store (j := 3) rfl rfl rfl rfl Try.sizeOf37 (us := [_]) rfl rfl rfl Tk (by first | rfl | exact (Nat.add_zero _).symm) (by first | decide | (simp; done) | omega) ?_
    simp only [setL, List.set]
    refine ag_nil ?_
    refine r_done ?_
    refine s_keep [0, 3, 7] (e' := [(0, _), (3, _), (7, _)]) rfl ?_
    refine k_then_n ?_
    refine c_draw rfl (.q 0 (.q 1 (.q 2 (.q 3 (.q 4 (.q 5 (.q 6 (.q 7 (.q 8 (.q 9 ((.l 10 [] (.done))))))))))))) (by kernel_rfl) ?_
    refine q_move rfl rfl rfl rfl ?_
    refine q_nil_p rfl rfl rfl rfl ?_
    refine q_field (k := 3) rfl rfl rfl rfl Try.underlying70 rfl Try.sizeOf68 rfl ?_
    refine q_load_c (j := 3) rfl rfl rfl rfl Try.isAgg68 Tk (by first | rfl | exact (Nat.add_zero _).symm) (by rfl) ?_
    refine q_field (k := 2) rfl rfl rfl rfl Try.underlying36 rfl Try.sizeOf3 rfl ?_
    refine q_load_c (j := 2) rfl rfl rfl rfl Try.isAgg3 Tk (by first | rfl | exact (Nat.add_zero _).symm) (by rfl) ?_
    refine q_field (k := 1) rfl rfl rfl rfl Try.underlying36 rfl Try.sizeOf3 rfl ?_
    refine q_load_c (j := 1) rfl rfl rfl rfl Try.isAgg3 Tk (by first | rfl | exact (Nat.add_zero _).symm) (by rfl) ?_
    refine q_build rfl rfl rfl rfl (vs := [_, _]) (run_buildS Try.underlying111 Try.zeroValue111 (ps := [(0, 1), (1, 1)]) ⟨rfl, Try.sizeOf3, rfl, Try.sizeOf3, trivial⟩ rfl) ?_
    refine q_loadN_c rfl rfl rfl rfl Try.isAgg39 Try.sizeOf39 Tk 0 (us := [_, _, _, _]) (by first | rfl | exact (Nat.add_zero _).symm) rfl rfl ?_
    refine l_mapUpd (ek := ek2) (ev1 := evT) (F := x.kept) (m := mk) (k := (o, t)) (v := (((x.kept (o, t)).getD (-1, -1, 0, 0)).1, x.v.ck.n, ((x.kept (o, t)).getD (-1, -1, 0, 0)).2.2.1, l.getD t.toNat 0)) (by first | exact .inl rfl | exact .inr rfl) rfl rfl rfl rfl Try.underlying68 (keyOK_pair Try.underlying111 rfl rfl rfl rfl Try.underlying3 Try.underlying3 Try.isAgg3 Try.isAgg3 (by kernel_rfl)) Tk ?_
    refine ag_nil ?_
    have hfx : ntF x k t o = ⟨x.v, (((((x.vars.set o.toNat (w.1, (o, z, x.v.ck.n), w.2.2.1, w.2.2.2.1, w.2.2.2.2)).set o.toNat ((o, z, x.v.ck.n), (o, z, x.v.ck.n), w.2.2.1, w.2.2.2.1, w.2.2.2.2)).set o.toNat ((o, z, x.v.ck.n), (o, z, x.v.ck.n), true, w.2.2.2.1, w.2.2.2.2)).set o.toNat ((o, z, x.v.ck.n), (o, z, x.v.ck.n), true, (k, t, o), w.2.2.2.2)).set o.toNat ((o, z, x.v.ck.n), (o, z, x.v.ck.n), true, (k, t, o), x.v.ck.n)), (if (x.kept (o, t)).isSome then x.keys else x.keys ++ [(o, t)]), upd x.kept (o, t) (some (((x.kept (o, t)).getD (-1, -1, 0, 0)).1, x.v.ck.n, ((x.kept (o, t)).getD (-1, -1, 0, 0)).2.2.1, l.getD t.toNat 0))⟩ := by
      have h5 : (((x.kept (o, t)).getD (-1, -1, 0, 0)).1, x.v.ck.n, ((x.kept (o, t)).getD (-1, -1, 0, 0)).2.2.1, l.getD t.toNat 0) = ntK x.v.ck.n k ((thF x.v t).getD t.toNat 0) (tchF x o t) := by
        rw [thF_eq hth]; unfold ntK tchF
        first | rw [if_pos hk1] | rw [if_neg hk1]
      have h6 : (((((x.vars.set o.toNat (w.1, (o, z, x.v.ck.n), w.2.2.1, w.2.2.2.1, w.2.2.2.2)).set o.toNat ((o, z, x.v.ck.n), (o, z, x.v.ck.n), w.2.2.1, w.2.2.2.1, w.2.2.2.2)).set o.toNat ((o, z, x.v.ck.n), (o, z, x.v.ck.n), true, w.2.2.2.1, w.2.2.2.2)).set o.toNat ((o, z, x.v.ck.n), (o, z, x.v.ck.n), true, (k, t, o), w.2.2.2.2)).set o.toNat ((o, z, x.v.ck.n), (o, z, x.v.ck.n), true, (k, t, o), x.v.ck.n)) = x.vars.set o.toNat (ntV x.v.ck.n k t o (agF x k t o) (x.vars.getD o.toNat t0)) := by
        rw [getD_some hw]
        simp only [set_two]
        congr 1
        symm
        rw [ntV_at hz, if_neg (by simpa using hra)]
      rw [h5, h6]; rfl
    refine s_vecF tb ta tc l Ts ?_
    refine s_rest_put (F := F1) (T := x.v.th) (S := []) t F1 x.v.th Ts (by simp) htF (fun _ _ _ => rfl) hth (fun _ _ _ => rfl) ?_
    refine vs_fold (b := vb) x.v (pa := pa) (pc := pc) (po := po) (poc := poc) (cb := cb) (m1 := m1) (m2 := m2) (m3 := m3) (m4 := m4) Ts (by rfl) (by rfl) ?_
    refine hs_fold (b := b) (ntF x k t o) (pa := pa) (pc := pc) (po := po) (poc := poc) (vb := vb) (va := va) (vc := vc) (mk := mk) (K := (if (x.kept (o, t)).isSome then x.keys else x.keys ++ [(o, t)])) Ts (by exact hfx) (by simp) (by rfl) ?_
    refine r_done ?_
    refine s_keep [] (e' := []) rfl ?_
    refine ret_end ?_
    refine ret0 rfl (()) (by first | rfl | (first | rfl | (congr 1; done) | (congr 1 <;> first | rfl | omega | (simp; done) | (simp; omega)))) (by trivial) ?_
    exact Tf
  ·
   try simp only [Bool.and_eq_true, Bool.or_eq_true, Bool.not_eq_true', Bool.not_eq_false', Bool.and_eq_false_iff, Bool.or_eq_false_iff, decide_eq_true_eq, decide_eq_false_iff_not] at hra
   refine c_skip ?_
   refine k_then_n ?_
   refine c_seq ?_
   refine c_plain (.q 0 (.q 1 (.q 2 (.q 3 (.q 4 (.q 5 ((.l 6 [] (.q 7 (.q 8 ((.l 9 [] (.done))))))))))))) (by kernel_rfl) ?_
   refine q_move rfl rfl rfl rfl ?_
   refine q_move rfl rfl rfl rfl ?_
   refine q_loadN_c rfl rfl rfl rfl Try.isAgg36 Try.sizeOf36 Tk 0 (us := [_, _, _]) (by first | rfl | exact (Nat.add_zero _).symm) rfl rfl ?_
   refine q_move rfl rfl rfl rfl ?_
   refine q_nil_p rfl rfl rfl rfl ?_
   refine q_field (k := 7) rfl rfl rfl rfl Try.underlying102 rfl Try.sizeOf36 rfl ?_
   refine l_store_O (j := 7) (k := o.toNat) (q := (w.1, (o, z, x.v.ck.n), w.2.2.1, (k, t, o), w.2.2.2.2)) (enc := encD) (off := io22) rfl rfl rfl rfl Try.sizeOf36 (us := [_, _, _]) rfl rfl rfl ha22 encD_len hs1 Tk (by first | rfl | exact (Nat.add_zero _).symm | omega) (by first | decide | exact Nat.le_of_ble_eq_true rfl) (by rfl) ?_
   refine ag_nil ?_
   have hs6 : ((x.vars.set o.toNat (w.1, (o, z, x.v.ck.n), w.2.2.1, w.2.2.2.1, w.2.2.2.2)).set o.toNat (w.1, (o, z, x.v.ck.n), w.2.2.1, (k, t, o), w.2.2.2.2))[o.toNat]? = some ((w.1, (o, z, x.v.ck.n), w.2.2.1, (k, t, o), w.2.2.2.2) : Tld) := List.getElem?_set_self (by first | omega | (simp only [List.length_set]; omega))
   refine q_nil_p rfl rfl rfl rfl ?_
   refine q_field (k := 10) rfl rfl rfl rfl Try.underlying102 rfl Try.sizeOf3 rfl ?_
   refine l_store_O (j := 10) (k := o.toNat) (q := (w.1, (o, z, x.v.ck.n), w.2.2.1, (k, t, o), x.v.ck.n)) (enc := encD) (off := io22) rfl rfl rfl rfl Try.sizeOf3 (us := [_]) rfl rfl rfl ha22 encD_len hs6 Tk (by first | rfl | exact (Nat.add_zero _).symm | omega) (by first | decide | exact Nat.le_of_ble_eq_true rfl) (by rfl) ?_
   refine ag_nil ?_
   have hs7 : (((x.vars.set o.toNat (w.1, (o, z, x.v.ck.n), w.2.2.1, w.2.2.2.1, w.2.2.2.2)).set o.toNat (w.1, (o, z, x.v.ck.n), w.2.2.1, (k, t, o), w.2.2.2.2)).set o.toNat (w.1, (o, z, x.v.ck.n), w.2.2.1, (k, t, o), x.v.ck.n))[o.toNat]? = some ((w.1, (o, z, x.v.ck.n), w.2.2.1, (k, t, o), x.v.ck.n) : Tld) := List.getElem?_set_self (by first | omega | (simp only [List.length_set]; omega))
   refine r_done ?_
   refine s_keep [0, 3, 4] (e' := [(0, _), (3, _), (4, _)]) rfl ?_
   refine k_then_n ?_
   refine c_seq ?_
   refine c_plain (.q 0 (.q 1 (.q 2 (.q 3 (.q 4 ((.l 5 [] ((.l 6 [] ((.l 7 [] (.done)))))))))))) (by kernel_rfl) ?_
   refine q_move rfl rfl rfl rfl ?_
   refine q_field (k := 2) rfl rfl rfl rfl Try.underlying36 rfl Try.sizeOf3 rfl ?_
   refine q_load_c (j := 2) rfl rfl rfl rfl Try.isAgg3 Tk (by first | rfl | exact (Nat.add_zero _).symm) (by rfl) ?_
   refine q_field (k := 1) rfl rfl rfl rfl Try.underlying36 rfl Try.sizeOf3 rfl ?_
   refine q_load_c (j := 1) rfl rfl rfl rfl Try.isAgg3 Tk (by first | rfl | exact (Nat.add_zero _).symm) (by rfl) ?_
   have sp_6 := Hi.touched_spec b mk (.pointer (some ⟨vb, 0, none⟩)) (.int .i64 x.v.ck.th) (.slice va x.vars.length vc) x.kept o t
   refine l_call rfl rfl rfl rfl rfl rfl Try.call33 (sp_6) Ts ?_
   rintro ⟨⟩ -
   try simp only [List.cons_append, List.nil_append]
   refine ag_nil ?_
   refine l_alloc rfl rfl rfl Try.zeroValue39 (zs := [.int .i64 0, .int .i64 0, .int .u64 0, .int .u64 0]) rfl ?_
   intro b7
   refine ag_nil ?_
   refine l_store (j := 0) rfl rfl rfl rfl Try.sizeOf39 (us := [_, _, _, _]) rfl rfl rfl Tk (by first | rfl | exact (Nat.add_zero _).symm) (by first | decide | (simp; done) | omega) ?_
   simp only [setL, List.set]
   refine ag_nil ?_
   refine r_done ?_
   refine s_keep [0, 3, 4, 7] (e' := [(0, _), (3, _), (4, _), (7, _)]) rfl ?_
   refine k_then_n ?_
   refine c_seq ?_
   refine c_seq ?_
   refine c_plain (.q 0 (.q 1 (.q 2 (.done)))) (by kernel_rfl) ?_
   refine q_field (k := 0) rfl rfl rfl rfl Try.underlying36 rfl Try.sizeOf34 rfl ?_
   refine q_load_c (j := 0) rfl rfl rfl rfl Try.isAgg34 Tk (by first | rfl | exact (Nat.add_zero _).symm) (by rfl) ?_
   refine q_int rfl rfl rfl rfl rfl (b_eql _ _ _ _) ?_
   refine r_done ?_
   refine k_then_n ?_
   refine c_cond_p rfl (fun hk1 => ?_) (fun hk1 => ?_)
   ·
    refine c_draw rfl (.q 0 (.q 1 (.q 2 (.q 3 (.q 4 (.q 5 (.q 6 (.q 8 ((.l 7 [] ((.l 9 [] (.q 10 ((.l 11 [] (.done)))))))))))))))) (by kernel_rfl) ?_
    refine q_move rfl rfl rfl rfl ?_
    refine q_move rfl rfl rfl rfl ?_
    refine q_nil_p rfl rfl rfl rfl ?_
    refine q_field (k := 0) rfl rfl rfl rfl Try.underlying70 rfl Try.sizeOf64 rfl ?_
    refine q_load_c (j := 0) rfl rfl rfl rfl Try.isAgg64 Tk (by first | rfl | exact (Nat.add_zero _).symm) (by rfl) ?_
    refine q_field (k := 1) rfl rfl rfl rfl Try.underlying36 rfl Try.sizeOf3 rfl ?_
    refine q_load_c (j := 1) rfl rfl rfl rfl Try.isAgg3 Tk (by first | rfl | exact (Nat.add_zero _).symm) (by rfl) ?_
    refine q_field (k := 0) rfl rfl rfl rfl Try.underlying39 rfl Try.sizeOf3 rfl ?_
    have sp_7 := clock_spec vb m1 (.pointer (some ⟨cb, 0, none⟩)) (.slice po x.v.ck.pa.length poc) (.map (some m2)) (.map (some m3)) (.map (some m4)) F1 tb (ta) (tc) l t (by omega) htF
    refine l_call rfl rfl rfl rfl rfl rfl Try.call50 (sp_7) Ts ?_
    rintro ⟨⟩ -
    try simp only [List.cons_append, List.nil_append]
    refine ag_nil ?_
    refine l_store (j := 0) rfl rfl rfl rfl Try.sizeOf3 (us := [_]) rfl rfl rfl Tk (by first | rfl | exact (Nat.add_zero _).symm) (by first | decide | (simp; done) | omega) ?_
    simp only [setL, List.set]
    refine ag_nil ?_
    refine q_field (k := 2) rfl rfl rfl rfl Try.underlying39 rfl Try.sizeOf37 rfl ?_
    refine l_store (j := 2) rfl rfl rfl rfl Try.sizeOf37 (us := [_]) rfl rfl rfl Tk (by first | rfl | exact (Nat.add_zero _).symm) (by first | decide | (simp; done) | omega) ?_
    simp only [setL, List.set]
    refine ag_nil ?_
    refine r_done ?_
    refine s_keep [0, 3, 7] (e' := [(0, _), (3, _), (7, _)]) rfl ?_
    refine k_then_n ?_
    refine c_draw rfl (.q 0 (.q 1 (.q 2 (.q 3 (.q 4 (.q 5 (.q 6 (.q 7 (.q 8 (.q 9 ((.l 10 [] (.done))))))))))))) (by kernel_rfl) ?_
    refine q_move rfl rfl rfl rfl ?_
    refine q_nil_p rfl rfl rfl rfl ?_
    refine q_field (k := 3) rfl rfl rfl rfl Try.underlying70 rfl Try.sizeOf68 rfl ?_
    refine q_load_c (j := 3) rfl rfl rfl rfl Try.isAgg68 Tk (by first | rfl | exact (Nat.add_zero _).symm) (by rfl) ?_
    refine q_field (k := 2) rfl rfl rfl rfl Try.underlying36 rfl Try.sizeOf3 rfl ?_
    refine q_load_c (j := 2) rfl rfl rfl rfl Try.isAgg3 Tk (by first | rfl | exact (Nat.add_zero _).symm) (by rfl) ?_
    refine q_field (k := 1) rfl rfl rfl rfl Try.underlying36 rfl Try.sizeOf3 rfl ?_
    refine q_load_c (j := 1) rfl rfl rfl rfl Try.isAgg3 Tk (by first | rfl | exact (Nat.add_zero _).symm) (by rfl) ?_
    refine q_build rfl rfl rfl rfl (vs := [_, _]) (run_buildS Try.underlying111 Try.zeroValue111 (ps := [(0, 1), (1, 1)]) ⟨rfl, Try.sizeOf3, rfl, Try.sizeOf3, trivial⟩ rfl) ?_
    refine q_loadN_c rfl rfl rfl rfl Try.isAgg39 Try.sizeOf39 Tk 0 (us := [_, _, _, _]) (by first | rfl | exact (Nat.add_zero _).symm) rfl rfl ?_
    refine l_mapUpd (ek := ek2) (ev1 := evT) (F := x.kept) (m := mk) (k := (o, t)) (v := (x.v.ck.n, ((x.kept (o, t)).getD (-1, -1, 0, 0)).2.1, l.getD t.toNat 0, ((x.kept (o, t)).getD (-1, -1, 0, 0)).2.2.2)) (by first | exact .inl rfl | exact .inr rfl) rfl rfl rfl rfl Try.underlying68 (keyOK_pair Try.underlying111 rfl rfl rfl rfl Try.underlying3 Try.underlying3 Try.isAgg3 Try.isAgg3 (by kernel_rfl)) Tk ?_
    refine ag_nil ?_
    have hfx : ntF x k t o = ⟨x.v, (((x.vars.set o.toNat (w.1, (o, z, x.v.ck.n), w.2.2.1, w.2.2.2.1, w.2.2.2.2)).set o.toNat (w.1, (o, z, x.v.ck.n), w.2.2.1, (k, t, o), w.2.2.2.2)).set o.toNat (w.1, (o, z, x.v.ck.n), w.2.2.1, (k, t, o), x.v.ck.n)), (if (x.kept (o, t)).isSome then x.keys else x.keys ++ [(o, t)]), upd x.kept (o, t) (some (x.v.ck.n, ((x.kept (o, t)).getD (-1, -1, 0, 0)).2.1, l.getD t.toNat 0, ((x.kept (o, t)).getD (-1, -1, 0, 0)).2.2.2))⟩ := by
      have h5 : (x.v.ck.n, ((x.kept (o, t)).getD (-1, -1, 0, 0)).2.1, l.getD t.toNat 0, ((x.kept (o, t)).getD (-1, -1, 0, 0)).2.2.2) = ntK x.v.ck.n k ((thF x.v t).getD t.toNat 0) (tchF x o t) := by
        rw [thF_eq hth]; unfold ntK tchF
        first | rw [if_pos hk1] | rw [if_neg hk1]
      have h6 : (((x.vars.set o.toNat (w.1, (o, z, x.v.ck.n), w.2.2.1, w.2.2.2.1, w.2.2.2.2)).set o.toNat (w.1, (o, z, x.v.ck.n), w.2.2.1, (k, t, o), w.2.2.2.2)).set o.toNat (w.1, (o, z, x.v.ck.n), w.2.2.1, (k, t, o), x.v.ck.n)) = x.vars.set o.toNat (ntV x.v.ck.n k t o (agF x k t o) (x.vars.getD o.toNat t0)) := by
        rw [getD_some hw]
        simp only [set_two]
        congr 1
        symm
        rw [ntV_at hz, if_pos (by simpa using hra)]; rw [show w.2.2.1 = true from by simpa using hra]
      rw [h5, h6]; rfl
    refine s_vecF tb ta tc l Ts ?_
    refine s_rest_put (F := F1) (T := x.v.th) (S := []) t F1 x.v.th Ts (by simp) htF (fun _ _ _ => rfl) hth (fun _ _ _ => rfl) ?_
    refine vs_fold (b := vb) x.v (pa := pa) (pc := pc) (po := po) (poc := poc) (cb := cb) (m1 := m1) (m2 := m2) (m3 := m3) (m4 := m4) Ts (by rfl) (by rfl) ?_
    refine hs_fold (b := b) (ntF x k t o) (pa := pa) (pc := pc) (po := po) (poc := poc) (vb := vb) (va := va) (vc := vc) (mk := mk) (K := (if (x.kept (o, t)).isSome then x.keys else x.keys ++ [(o, t)])) Ts (by exact hfx) (by simp) (by rfl) ?_
    refine r_done ?_
    refine s_keep [] (e' := []) rfl ?_
    refine ret_end ?_
    refine ret0 rfl (()) (by first | rfl | (first | rfl | (congr 1; done) | (congr 1 <;> first | rfl | omega | (simp; done) | (simp; omega)))) (by trivial) ?_
    exact Tf
   ·
    refine c_draw rfl (.q 0 (.q 1 (.q 2 (.q 3 (.q 4 (.q 5 (.q 6 (.q 8 ((.l 7 [] ((.l 9 [] (.q 10 ((.l 11 [] (.done)))))))))))))))) (by kernel_rfl) ?_
    refine q_move rfl rfl rfl rfl ?_
    refine q_move rfl rfl rfl rfl ?_
    refine q_nil_p rfl rfl rfl rfl ?_
    refine q_field (k := 0) rfl rfl rfl rfl Try.underlying70 rfl Try.sizeOf64 rfl ?_
    refine q_load_c (j := 0) rfl rfl rfl rfl Try.isAgg64 Tk (by first | rfl | exact (Nat.add_zero _).symm) (by rfl) ?_
    refine q_field (k := 1) rfl rfl rfl rfl Try.underlying36 rfl Try.sizeOf3 rfl ?_
    refine q_load_c (j := 1) rfl rfl rfl rfl Try.isAgg3 Tk (by first | rfl | exact (Nat.add_zero _).symm) (by rfl) ?_
    refine q_field (k := 1) rfl rfl rfl rfl Try.underlying39 rfl Try.sizeOf3 rfl ?_
    have sp_8 := clock_spec vb m1 (.pointer (some ⟨cb, 0, none⟩)) (.slice po x.v.ck.pa.length poc) (.map (some m2)) (.map (some m3)) (.map (some m4)) F1 tb (ta) (tc) l t (by omega) htF
    refine l_call rfl rfl rfl rfl rfl rfl Try.call50 (sp_8) Ts ?_
    rintro ⟨⟩ -
    try simp only [List.cons_append, List.nil_append]
    refine ag_nil ?_
    refine l_store (j := 1) rfl rfl rfl rfl Try.sizeOf3 (us := [_]) rfl rfl rfl Tk (by first | rfl | exact (Nat.add_zero _).symm) (by first | decide | (simp; done) | omega) ?_
    simp only [setL, List.set]
    refine ag_nil ?_
    refine q_field (k := 3) rfl rfl rfl rfl Try.underlying39 rfl Try.sizeOf37 rfl ?_
    refine l_store (j := 3) rfl rfl rfl rfl Try.sizeOf37 (us := [_]) rfl rfl rfl Tk (by first | rfl | exact (Nat.add_zero _).symm) (by first | decide | (simp; done) | omega) ?_
    simp only [setL, List.set]
    refine ag_nil ?_
    refine r_done ?_
    refine s_keep [0, 3, 7] (e' := [(0, _), (3, _), (7, _)]) rfl ?_
    refine k_then_n ?_
    refine c_draw rfl (.q 0 (.q 1 (.q 2 (.q 3 (.q 4 (.q 5 (.q 6 (.q 7 (.q 8 (.q 9 ((.l 10 [] (.done))))))))))))) (by kernel_rfl) ?_
    refine q_move rfl rfl rfl rfl ?_
    refine q_nil_p rfl rfl rfl rfl ?_
    refine q_field (k := 3) rfl rfl rfl rfl Try.underlying70 rfl Try.sizeOf68 rfl ?_
    refine q_load_c (j := 3) rfl rfl rfl rfl Try.isAgg68 Tk (by first | rfl | exact (Nat.add_zero _).symm) (by rfl) ?_
    refine q_field (k := 2) rfl rfl rfl rfl Try.underlying36 rfl Try.sizeOf3 rfl ?_
    refine q_load_c (j := 2) rfl rfl rfl rfl Try.isAgg3 Tk (by first | rfl | exact (Nat.add_zero _).symm) (by rfl) ?_
    refine q_field (k := 1) rfl rfl rfl rfl Try.underlying36 rfl Try.sizeOf3 rfl ?_
    refine q_load_c (j := 1) rfl rfl rfl rfl Try.isAgg3 Tk (by first | rfl | exact (Nat.add_zero _).symm) (by rfl) ?_
    refine q_build rfl rfl rfl rfl (vs := [_, _]) (run_buildS Try.underlying111 Try.zeroValue111 (ps := [(0, 1), (1, 1)]) ⟨rfl, Try.sizeOf3, rfl, Try.sizeOf3, trivial⟩ rfl) ?_
    refine q_loadN_c rfl rfl rfl rfl Try.isAgg39 Try.sizeOf39 Tk 0 (us := [_, _, _, _]) (by first | rfl | exact (Nat.add_zero _).symm) rfl rfl ?_
    refine l_mapUpd (ek := ek2) (ev1 := evT) (F := x.kept) (m := mk) (k := (o, t)) (v := (((x.kept (o, t)).getD (-1, -1, 0, 0)).1, x.v.ck.n, ((x.kept (o, t)).getD (-1, -1, 0, 0)).2.2.1, l.getD t.toNat 0)) (by first | exact .inl rfl | exact .inr rfl) rfl rfl rfl rfl Try.underlying68 (keyOK_pair Try.underlying111 rfl rfl rfl rfl Try.underlying3 Try.underlying3 Try.isAgg3 Try.isAgg3 (by kernel_rfl)) Tk ?_
    refine ag_nil ?_
    have hfx : ntF x k t o = ⟨x.v, (((x.vars.set o.toNat (w.1, (o, z, x.v.ck.n), w.2.2.1, w.2.2.2.1, w.2.2.2.2)).set o.toNat (w.1, (o, z, x.v.ck.n), w.2.2.1, (k, t, o), w.2.2.2.2)).set o.toNat (w.1, (o, z, x.v.ck.n), w.2.2.1, (k, t, o), x.v.ck.n)), (if (x.kept (o, t)).isSome then x.keys else x.keys ++ [(o, t)]), upd x.kept (o, t) (some (((x.kept (o, t)).getD (-1, -1, 0, 0)).1, x.v.ck.n, ((x.kept (o, t)).getD (-1, -1, 0, 0)).2.2.1, l.getD t.toNat 0))⟩ := by
      have h5 : (((x.kept (o, t)).getD (-1, -1, 0, 0)).1, x.v.ck.n, ((x.kept (o, t)).getD (-1, -1, 0, 0)).2.2.1, l.getD t.toNat 0) = ntK x.v.ck.n k ((thF x.v t).getD t.toNat 0) (tchF x o t) := by
        rw [thF_eq hth]; unfold ntK tchF
        first | rw [if_pos hk1] | rw [if_neg hk1]
      have h6 : (((x.vars.set o.toNat (w.1, (o, z, x.v.ck.n), w.2.2.1, w.2.2.2.1, w.2.2.2.2)).set o.toNat (w.1, (o, z, x.v.ck.n), w.2.2.1, (k, t, o), w.2.2.2.2)).set o.toNat (w.1, (o, z, x.v.ck.n), w.2.2.1, (k, t, o), x.v.ck.n)) = x.vars.set o.toNat (ntV x.v.ck.n k t o (agF x k t o) (x.vars.getD o.toNat t0)) := by
        rw [getD_some hw]
        simp only [set_two]
        congr 1
        symm
        rw [ntV_at hz, if_pos (by simpa using hra)]; rw [show w.2.2.1 = true from by simpa using hra]
      rw [h5, h6]; rfl
    refine s_vecF tb ta tc l Ts ?_
    refine s_rest_put (F := F1) (T := x.v.th) (S := []) t F1 x.v.th Ts (by simp) htF (fun _ _ _ => rfl) hth (fun _ _ _ => rfl) ?_
    refine vs_fold (b := vb) x.v (pa := pa) (pc := pc) (po := po) (poc := poc) (cb := cb) (m1 := m1) (m2 := m2) (m3 := m3) (m4 := m4) Ts (by rfl) (by rfl) ?_
    refine hs_fold (b := b) (ntF x k t o) (pa := pa) (pc := pc) (po := po) (poc := poc) (vb := vb) (va := va) (vc := vc) (mk := mk) (K := (if (x.kept (o, t)).isSome then x.keys else x.keys ++ [(o, t)])) Ts (by exact hfx) (by simp) (by rfl) ?_
    refine r_done ?_
    refine s_keep [] (e' := []) rfl ?_
    refine ret_end ?_
    refine ret0 rfl (()) (by first | rfl | (first | rfl | (congr 1; done) | (congr 1 <;> first | rfl | omega | (simp; done) | (simp; omega)))) (by trivial) ?_
    exact Tf
 ·
  refine c_skip ?_
  refine k_then_n ?_
  refine c_seq ?_
  refine c_plain (.q 0 (.q 1 (.q 2 (.q 3 (.q 4 (.q 5 ((.l 6 [] (.q 7 (.q 8 ((.l 9 [] (.done))))))))))))) (by kernel_rfl) ?_
  refine q_move rfl rfl rfl rfl ?_
  refine q_move rfl rfl rfl rfl ?_
  refine q_loadN_c rfl rfl rfl rfl Try.isAgg36 Try.sizeOf36 Tk 0 (us := [_, _, _]) (by first | rfl | exact (Nat.add_zero _).symm) rfl rfl ?_
  refine q_move rfl rfl rfl rfl ?_
  refine q_nil_p rfl rfl rfl rfl ?_
  refine q_field (k := 7) rfl rfl rfl rfl Try.underlying102 rfl Try.sizeOf36 rfl ?_
  refine l_store_O (j := 7) (k := o.toNat) (q := (w.1, w.2.1, w.2.2.1, (k, t, o), w.2.2.2.2)) (enc := encD) (off := io22) rfl rfl rfl rfl Try.sizeOf36 (us := [_, _, _]) rfl rfl rfl ha22 encD_len hw Tk (by first | rfl | exact (Nat.add_zero _).symm | omega) (by first | decide | exact Nat.le_of_ble_eq_true rfl) (by rfl) ?_
  refine ag_nil ?_
  have hs8 : (x.vars.set o.toNat (w.1, w.2.1, w.2.2.1, (k, t, o), w.2.2.2.2))[o.toNat]? = some ((w.1, w.2.1, w.2.2.1, (k, t, o), w.2.2.2.2) : Tld) := List.getElem?_set_self (by first | omega | (simp only [List.length_set]; omega))
  refine q_nil_p rfl rfl rfl rfl ?_
  refine q_field (k := 10) rfl rfl rfl rfl Try.underlying102 rfl Try.sizeOf3 rfl ?_
  refine l_store_O (j := 10) (k := o.toNat) (q := (w.1, w.2.1, w.2.2.1, (k, t, o), x.v.ck.n)) (enc := encD) (off := io22) rfl rfl rfl rfl Try.sizeOf3 (us := [_]) rfl rfl rfl ha22 encD_len hs8 Tk (by first | rfl | exact (Nat.add_zero _).symm | omega) (by first | decide | exact Nat.le_of_ble_eq_true rfl) (by rfl) ?_
  refine ag_nil ?_
  have hs9 : ((x.vars.set o.toNat (w.1, w.2.1, w.2.2.1, (k, t, o), w.2.2.2.2)).set o.toNat (w.1, w.2.1, w.2.2.1, (k, t, o), x.v.ck.n))[o.toNat]? = some ((w.1, w.2.1, w.2.2.1, (k, t, o), x.v.ck.n) : Tld) := List.getElem?_set_self (by first | omega | (simp only [List.length_set]; omega))
  refine r_done ?_
  refine s_keep [0, 3, 4] (e' := [(0, _), (3, _), (4, _)]) rfl ?_
  refine k_then_n ?_
  refine c_seq ?_
  refine c_plain (.q 0 (.q 1 (.q 2 (.q 3 (.q 4 ((.l 5 [] ((.l 6 [] ((.l 7 [] (.done)))))))))))) (by kernel_rfl) ?_
  refine q_move rfl rfl rfl rfl ?_
  refine q_field (k := 2) rfl rfl rfl rfl Try.underlying36 rfl Try.sizeOf3 rfl ?_
  refine q_load_c (j := 2) rfl rfl rfl rfl Try.isAgg3 Tk (by first | rfl | exact (Nat.add_zero _).symm) (by rfl) ?_
  refine q_field (k := 1) rfl rfl rfl rfl Try.underlying36 rfl Try.sizeOf3 rfl ?_
  refine q_load_c (j := 1) rfl rfl rfl rfl Try.isAgg3 Tk (by first | rfl | exact (Nat.add_zero _).symm) (by rfl) ?_
  have sp_9 := Hi.touched_spec b mk (.pointer (some ⟨vb, 0, none⟩)) (.int .i64 x.v.ck.th) (.slice va x.vars.length vc) x.kept o t
  refine l_call rfl rfl rfl rfl rfl rfl Try.call33 (sp_9) Ts ?_
  rintro ⟨⟩ -
  try simp only [List.cons_append, List.nil_append]
  refine ag_nil ?_
  refine l_alloc rfl rfl rfl Try.zeroValue39 (zs := [.int .i64 0, .int .i64 0, .int .u64 0, .int .u64 0]) rfl ?_
  intro b7
  refine ag_nil ?_
  refine l_store (j := 0) rfl rfl rfl rfl Try.sizeOf39 (us := [_, _, _, _]) rfl rfl rfl Tk (by first | rfl | exact (Nat.add_zero _).symm) (by first | decide | (simp; done) | omega) ?_
  simp only [setL, List.set]
  refine ag_nil ?_
  refine r_done ?_
  refine s_keep [0, 3, 4, 7] (e' := [(0, _), (3, _), (4, _), (7, _)]) rfl ?_
  refine k_then_n ?_
  refine c_seq ?_
  refine c_seq ?_
  refine c_plain (.q 0 (.q 1 (.q 2 (.done)))) (by kernel_rfl) ?_
  refine q_field (k := 0) rfl rfl rfl rfl Try.underlying36 rfl Try.sizeOf34 rfl ?_
  refine q_load_c (j := 0) rfl rfl rfl rfl Try.isAgg34 Tk (by first | rfl | exact (Nat.add_zero _).symm) (by rfl) ?_
  refine q_int rfl rfl rfl rfl rfl (b_eql _ _ _ _) ?_
  refine r_done ?_
  refine k_then_n ?_
  refine c_cond_p rfl (fun hk1 => ?_) (fun hk1 => ?_)
  ·
   refine c_draw rfl (.q 0 (.q 1 (.q 2 (.q 3 (.q 4 (.q 5 (.q 6 (.q 8 ((.l 7 [] ((.l 9 [] (.q 10 ((.l 11 [] (.done)))))))))))))))) (by kernel_rfl) ?_
   refine q_move rfl rfl rfl rfl ?_
   refine q_move rfl rfl rfl rfl ?_
   refine q_nil_p rfl rfl rfl rfl ?_
   refine q_field (k := 0) rfl rfl rfl rfl Try.underlying70 rfl Try.sizeOf64 rfl ?_
   refine q_load_c (j := 0) rfl rfl rfl rfl Try.isAgg64 Tk (by first | rfl | exact (Nat.add_zero _).symm) (by rfl) ?_
   refine q_field (k := 1) rfl rfl rfl rfl Try.underlying36 rfl Try.sizeOf3 rfl ?_
   refine q_load_c (j := 1) rfl rfl rfl rfl Try.isAgg3 Tk (by first | rfl | exact (Nat.add_zero _).symm) (by rfl) ?_
   refine q_field (k := 0) rfl rfl rfl rfl Try.underlying39 rfl Try.sizeOf3 rfl ?_
   have sp_10 := clock_spec vb m1 (.pointer (some ⟨cb, 0, none⟩)) (.slice po x.v.ck.pa.length poc) (.map (some m2)) (.map (some m3)) (.map (some m4)) F1 tb (ta) (tc) l t (by omega) htF
   refine l_call rfl rfl rfl rfl rfl rfl Try.call50 (sp_10) Ts ?_
   rintro ⟨⟩ -
   try simp only [List.cons_append, List.nil_append]
   refine ag_nil ?_
   refine l_store (j := 0) rfl rfl rfl rfl Try.sizeOf3 (us := [_]) rfl rfl rfl Tk (by first | rfl | exact (Nat.add_zero _).symm) (by first | decide | (simp; done) | omega) ?_
   simp only [setL, List.set]
   refine ag_nil ?_
   refine q_field (k := 2) rfl rfl rfl rfl Try.underlying39 rfl Try.sizeOf37 rfl ?_
   refine l_store (j := 2) rfl rfl rfl rfl Try.sizeOf37 (us := [_]) rfl rfl rfl Tk (by first | rfl | exact (Nat.add_zero _).symm) (by first | decide | (simp; done) | omega) ?_
   simp only [setL, List.set]
   refine ag_nil ?_
   refine r_done ?_
   refine s_keep [0, 3, 7] (e' := [(0, _), (3, _), (7, _)]) rfl ?_
   refine k_then_n ?_
   refine c_draw rfl (.q 0 (.q 1 (.q 2 (.q 3 (.q 4 (.q 5 (.q 6 (.q 7 (.q 8 (.q 9 ((.l 10 [] (.done))))))))))))) (by kernel_rfl) ?_
   refine q_move rfl rfl rfl rfl ?_
   refine q_nil_p rfl rfl rfl rfl ?_
   refine q_field (k := 3) rfl rfl rfl rfl Try.underlying70 rfl Try.sizeOf68 rfl ?_
   refine q_load_c (j := 3) rfl rfl rfl rfl Try.isAgg68 Tk (by first | rfl | exact (Nat.add_zero _).symm) (by rfl) ?_
   refine q_field (k := 2) rfl rfl rfl rfl Try.underlying36 rfl Try.sizeOf3 rfl ?_
   refine q_load_c (j := 2) rfl rfl rfl rfl Try.isAgg3 Tk (by first | rfl | exact (Nat.add_zero _).symm) (by rfl) ?_
   refine q_field (k := 1) rfl rfl rfl rfl Try.underlying36 rfl Try.sizeOf3 rfl ?_
   refine q_load_c (j := 1) rfl rfl rfl rfl Try.isAgg3 Tk (by first | rfl | exact (Nat.add_zero _).symm) (by rfl) ?_
   refine q_build rfl rfl rfl rfl (vs := [_, _]) (run_buildS Try.underlying111 Try.zeroValue111 (ps := [(0, 1), (1, 1)]) ⟨rfl, Try.sizeOf3, rfl, Try.sizeOf3, trivial⟩ rfl) ?_
   refine q_loadN_c rfl rfl rfl rfl Try.isAgg39 Try.sizeOf39 Tk 0 (us := [_, _, _, _]) (by first | rfl | exact (Nat.add_zero _).symm) rfl rfl ?_
   refine l_mapUpd (ek := ek2) (ev1 := evT) (F := x.kept) (m := mk) (k := (o, t)) (v := (x.v.ck.n, ((x.kept (o, t)).getD (-1, -1, 0, 0)).2.1, l.getD t.toNat 0, ((x.kept (o, t)).getD (-1, -1, 0, 0)).2.2.2)) (by first | exact .inl rfl | exact .inr rfl) rfl rfl rfl rfl Try.underlying68 (keyOK_pair Try.underlying111 rfl rfl rfl rfl Try.underlying3 Try.underlying3 Try.isAgg3 Try.isAgg3 (by kernel_rfl)) Tk ?_
   refine ag_nil ?_
   have hfx : ntF x k t o = ⟨x.v, ((x.vars.set o.toNat (w.1, w.2.1, w.2.2.1, (k, t, o), w.2.2.2.2)).set o.toNat (w.1, w.2.1, w.2.2.1, (k, t, o), x.v.ck.n)), (if (x.kept (o, t)).isSome then x.keys else x.keys ++ [(o, t)]), upd x.kept (o, t) (some (x.v.ck.n, ((x.kept (o, t)).getD (-1, -1, 0, 0)).2.1, l.getD t.toNat 0, ((x.kept (o, t)).getD (-1, -1, 0, 0)).2.2.2))⟩ := by
     have h5 : (x.v.ck.n, ((x.kept (o, t)).getD (-1, -1, 0, 0)).2.1, l.getD t.toNat 0, ((x.kept (o, t)).getD (-1, -1, 0, 0)).2.2.2) = ntK x.v.ck.n k ((thF x.v t).getD t.toNat 0) (tchF x o t) := by
       rw [thF_eq hth]; unfold ntK tchF
       first | rw [if_pos hk1] | rw [if_neg hk1]
     have h6 : ((x.vars.set o.toNat (w.1, w.2.1, w.2.2.1, (k, t, o), w.2.2.2.2)).set o.toNat (w.1, w.2.1, w.2.2.1, (k, t, o), x.v.ck.n)) = x.vars.set o.toNat (ntV x.v.ck.n k t o (agF x k t o) (x.vars.getD o.toNat t0)) := by
       rw [getD_some hw]
       simp only [set_two]
       congr 1
       symm
       rw [ntV_no (by omega)]
     rw [h5, h6]; rfl
   refine s_vecF tb ta tc l Ts ?_
   refine s_rest_put (F := F1) (T := x.v.th) (S := []) t F1 x.v.th Ts (by simp) htF (fun _ _ _ => rfl) hth (fun _ _ _ => rfl) ?_
   refine vs_fold (b := vb) x.v (pa := pa) (pc := pc) (po := po) (poc := poc) (cb := cb) (m1 := m1) (m2 := m2) (m3 := m3) (m4 := m4) Ts (by rfl) (by rfl) ?_
   refine hs_fold (b := b) (ntF x k t o) (pa := pa) (pc := pc) (po := po) (poc := poc) (vb := vb) (va := va) (vc := vc) (mk := mk) (K := (if (x.kept (o, t)).isSome then x.keys else x.keys ++ [(o, t)])) Ts (by exact hfx) (by simp) (by rfl) ?_
   refine r_done ?_
   refine s_keep [] (e' := []) rfl ?_
   refine ret_end ?_
   refine ret0 rfl (()) (by first | rfl | (first | rfl | (congr 1; done) | (congr 1 <;> first | rfl | omega | (simp; done) | (simp; omega)))) (by trivial) ?_
   exact Tf
  ·
   refine c_draw rfl (.q 0 (.q 1 (.q 2 (.q 3 (.q 4 (.q 5 (.q 6 (.q 8 ((.l 7 [] ((.l 9 [] (.q 10 ((.l 11 [] (.done)))))))))))))))) (by kernel_rfl) ?_
   refine q_move rfl rfl rfl rfl ?_
   refine q_move rfl rfl rfl rfl ?_
   refine q_nil_p rfl rfl rfl rfl ?_
   refine q_field (k := 0) rfl rfl rfl rfl Try.underlying70 rfl Try.sizeOf64 rfl ?_
   refine q_load_c (j := 0) rfl rfl rfl rfl Try.isAgg64 Tk (by first | rfl | exact (Nat.add_zero _).symm) (by rfl) ?_
   refine q_field (k := 1) rfl rfl rfl rfl Try.underlying36 rfl Try.sizeOf3 rfl ?_
   refine q_load_c (j := 1) rfl rfl rfl rfl Try.isAgg3 Tk (by first | rfl | exact (Nat.add_zero _).symm) (by rfl) ?_
   refine q_field (k := 1) rfl rfl rfl rfl Try.underlying39 rfl Try.sizeOf3 rfl ?_
   have sp_11 := clock_spec vb m1 (.pointer (some ⟨cb, 0, none⟩)) (.slice po x.v.ck.pa.length poc) (.map (some m2)) (.map (some m3)) (.map (some m4)) F1 tb (ta) (tc) l t (by omega) htF
   refine l_call rfl rfl rfl rfl rfl rfl Try.call50 (sp_11) Ts ?_
   rintro ⟨⟩ -
   try simp only [List.cons_append, List.nil_append]
   refine ag_nil ?_
   refine l_store (j := 1) rfl rfl rfl rfl Try.sizeOf3 (us := [_]) rfl rfl rfl Tk (by first | rfl | exact (Nat.add_zero _).symm) (by first | decide | (simp; done) | omega) ?_
   simp only [setL, List.set]
   refine ag_nil ?_
   refine q_field (k := 3) rfl rfl rfl rfl Try.underlying39 rfl Try.sizeOf37 rfl ?_
   refine l_store (j := 3) rfl rfl rfl rfl Try.sizeOf37 (us := [_]) rfl rfl rfl Tk (by first | rfl | exact (Nat.add_zero _).symm) (by first | decide | (simp; done) | omega) ?_
   simp only [setL, List.set]
   refine ag_nil ?_
   refine r_done ?_
   refine s_keep [0, 3, 7] (e' := [(0, _), (3, _), (7, _)]) rfl ?_
   refine k_then_n ?_
   refine c_draw rfl (.q 0 (.q 1 (.q 2 (.q 3 (.q 4 (.q 5 (.q 6 (.q 7 (.q 8 (.q 9 ((.l 10 [] (.done))))))))))))) (by kernel_rfl) ?_
   refine q_move rfl rfl rfl rfl ?_
   refine q_nil_p rfl rfl rfl rfl ?_
   refine q_field (k := 3) rfl rfl rfl rfl Try.underlying70 rfl Try.sizeOf68 rfl ?_
   refine q_load_c (j := 3) rfl rfl rfl rfl Try.isAgg68 Tk (by first | rfl | exact (Nat.add_zero _).symm) (by rfl) ?_
   refine q_field (k := 2) rfl rfl rfl rfl Try.underlying36 rfl Try.sizeOf3 rfl ?_
   refine q_load_c (j := 2) rfl rfl rfl rfl Try.isAgg3 Tk (by first | rfl | exact (Nat.add_zero _).symm) (by rfl) ?_
   refine q_field (k := 1) rfl rfl rfl rfl Try.underlying36 rfl Try.sizeOf3 rfl ?_
   refine q_load_c (j := 1) rfl rfl rfl rfl Try.isAgg3 Tk (by first | rfl | exact (Nat.add_zero _).symm) (by rfl) ?_
   refine q_build rfl rfl rfl rfl (vs := [_, _]) (run_buildS Try.underlying111 Try.zeroValue111 (ps := [(0, 1), (1, 1)]) ⟨rfl, Try.sizeOf3, rfl, Try.sizeOf3, trivial⟩ rfl) ?_
   refine q_loadN_c rfl rfl rfl rfl Try.isAgg39 Try.sizeOf39 Tk 0 (us := [_, _, _, _]) (by first | rfl | exact (Nat.add_zero _).symm) rfl rfl ?_
   refine l_mapUpd (ek := ek2) (ev1 := evT) (F := x.kept) (m := mk) (k := (o, t)) (v := (((x.kept (o, t)).getD (-1, -1, 0, 0)).1, x.v.ck.n, ((x.kept (o, t)).getD (-1, -1, 0, 0)).2.2.1, l.getD t.toNat 0)) (by first | exact .inl rfl | exact .inr rfl) rfl rfl rfl rfl Try.underlying68 (keyOK_pair Try.underlying111 rfl rfl rfl rfl Try.underlying3 Try.underlying3 Try.isAgg3 Try.isAgg3 (by kernel_rfl)) Tk ?_
   refine ag_nil ?_
   have hfx : ntF x k t o = ⟨x.v, ((x.vars.set o.toNat (w.1, w.2.1, w.2.2.1, (k, t, o), w.2.2.2.2)).set o.toNat (w.1, w.2.1, w.2.2.1, (k, t, o), x.v.ck.n)), (if (x.kept (o, t)).isSome then x.keys else x.keys ++ [(o, t)]), upd x.kept (o, t) (some (((x.kept (o, t)).getD (-1, -1, 0, 0)).1, x.v.ck.n, ((x.kept (o, t)).getD (-1, -1, 0, 0)).2.2.1, l.getD t.toNat 0))⟩ := by
     have h5 : (((x.kept (o, t)).getD (-1, -1, 0, 0)).1, x.v.ck.n, ((x.kept (o, t)).getD (-1, -1, 0, 0)).2.2.1, l.getD t.toNat 0) = ntK x.v.ck.n k ((thF x.v t).getD t.toNat 0) (tchF x o t) := by
       rw [thF_eq hth]; unfold ntK tchF
       first | rw [if_pos hk1] | rw [if_neg hk1]
     have h6 : ((x.vars.set o.toNat (w.1, w.2.1, w.2.2.1, (k, t, o), w.2.2.2.2)).set o.toNat (w.1, w.2.1, w.2.2.1, (k, t, o), x.v.ck.n)) = x.vars.set o.toNat (ntV x.v.ck.n k t o (agF x k t o) (x.vars.getD o.toNat t0)) := by
       rw [getD_some hw]
       simp only [set_two]
       congr 1
       symm
       rw [ntV_no (by omega)]
     rw [h5, h6]; rfl
   refine s_vecF tb ta tc l Ts ?_
   refine s_rest_put (F := F1) (T := x.v.th) (S := []) t F1 x.v.th Ts (by simp) htF (fun _ _ _ => rfl) hth (fun _ _ _ => rfl) ?_
   refine vs_fold (b := vb) x.v (pa := pa) (pc := pc) (po := po) (poc := poc) (cb := cb) (m1 := m1) (m2 := m2) (m3 := m3) (m4 := m4) Ts (by rfl) (by rfl) ?_
   refine hs_fold (b := b) (ntF x k t o) (pa := pa) (pc := pc) (po := po) (poc := poc) (vb := vb) (va := va) (vc := vc) (mk := mk) (K := (if (x.kept (o, t)).isSome then x.keys else x.keys ++ [(o, t)])) Ts (by exact hfx) (by simp) (by rfl) ?_
   refine r_done ?_
   refine s_keep [] (e' := []) rfl ?_
   refine ret_end ?_
   refine ret0 rfl (()) (by first | rfl | (first | rfl | (congr 1; done) | (congr 1 <;> first | rfl | omega | (simp; done) | (simp; omega)))) (by trivial) ?_
   exact Tf
end Go.Ab.Hi
set_option linter.unusedVariables false
set_option linter.unusedSimpArgs false
set_option maxRecDepth 100000
namespace Go.Ab.Hi
open Go Go.Proofs Go.Ab Go.Ab.Fe Go.Ab.Vc Go.Ab.Dj Go.Ab.So
theorem he_acc {x : HS} {k t o : Int} (hv : vcanF x.v k t o) (hk : k = 1 ∨ k = 2) : heF x k t o = ⟨vnF x.v k t o, (ntF x k t o).vars, (ntF x k t o).keys, (ntF x k t o).kept⟩ := by rw [heF, if_pos hv, accF, if_pos hk]
theorem he_no {x : HS} {k t o : Int} (hv : vcanF x.v k t o) (hk : ¬ (k = 1 ∨ k = 2)) : heF x k t o = ⟨vnF x.v k t o, x.vars, x.keys, x.kept⟩ := by rw [heF, if_pos hv, accF, if_neg hk]
/-- The pairs that are told. -/
def prF (vs : List Tld) : List T3 := (vs.filter (fun w => w.2.2.1)).map (·.1)
theorem prF_next {vs : List Tld} {i : Nat} {w : Tld} (h : vs[i]? = some w) : prF (vs.take (i + 1)) = prF (vs.take i) ++ (if w.2.2.1 = true then [w.1] else []) := by
  unfold prF
  rw [List.take_add_one, h]
  simp only [Option.toList_some, List.filter_append, List.map_append]
  congr 1
  by_cases hw : w.2.2.1 = true <;> simp [hw]
theorem prF_len (vs : List Tld) : (prF vs).length ≤ vs.length := by
  unfold prF
  rw [List.length_map]; exact List.length_filter_le _ _
/-- What is told of a variable, if there is one. -/
def wH (x : HS) (z : Int) : Tld := if 0 ≤ z then (x.vars[z.toNat]?).getD t0 else t0
theorem wH_nat {x : HS} {i : Nat} {w : Tld} (h : x.vars[i]? = some w) : wH x (i : Int) = w := by rw [wH, if_pos (by omega), Int.toNat_natCast, h]; rfl
theorem wH_none {x : HS} {z : Int} (h : z < 0 ∨ (x.vars.length : Int) ≤ z) : wH x z = t0 := by
  unfold wH; split
  · rw [List.getElem?_eq_none (by omega)]; rfl
  · rfl
theorem wH_cases (x : HS) (z : Int) : (∃ (i : Nat) (w : Tld), z = i ∧ x.vars[i]? = some w) ∨ (z < 0 ∨ (x.vars.length : Int) ≤ z) := by
  by_cases h : 0 ≤ z ∧ z < x.vars.length
  · obtain ⟨w, hw⟩ := get_lt (l := x.vars) (i := z.toNat) (by omega)
    exact .inl ⟨z.toNat, w, by omega, hw⟩
  · exact .inr (by omega)
theorem event_spec (pa : Option Addr) (pc : Nat) (po : Option Addr) (poc b : Nat) (x : HS) (hx : SInv x) (hn : x.v.ck.n ≤ 100000000000) (pl : List Int) (hpl : x.v.ck.pa = pl) (k t o : Int) : Spec Try.prog 11 [.pointer (some ⟨b, 0, none⟩), .agg #[.int .i64 k, .int .i64 t, .int .i64 o]] [hsR pa pc po poc b x, own 1 encZ pa pc pl, own 1 encZ po poc pl] (fun (_ : Unit) => .int .i64 (heE x k t o)) (fun _ => True) (fun _ => [hsR pa pc po poc b (heF x k t o), own 1 encZ pa pc pl, own 1 encZ po poc pl]) := by
 refine spec_mk (n := 30) Try.func11 rfl rfl rfl ?_
 intro Γ w0
 simp only [argE, List.cons_append, List.nil_append, Nat.zero_add, Nat.reduceAdd]
 refine c_seq ?_
 refine c_plain ((.l 0 [] (.q 1 (.done)))) (by kernel_rfl) ?_
 refine l_box rfl rfl rfl rfl (us := [_, _, _]) rfl ?_
 intro b3
 refine ag_nil ?_
 refine q_assign rfl rfl rfl rfl ?_
 refine r_done ?_
 refine k_then_n ?_
 refine c_seq ?_
 refine c_seq ?_
 refine s_take (A := hsR pa pc po poc b x) Tk ?_
 refine hs_open fun vb mk va vc => ?_
 refine c_plain (.q 0 ((.l 1 [] (.q 2 (.done))))) (by kernel_rfl) ?_
 refine q_move rfl rfl rfl rfl ?_
 have sp_1 := Hi.there_spec b vb (.int .i64 x.v.ck.th) (.slice va x.vars.length vc) (.map (some mk))
 refine l_call rfl rfl rfl rfl rfl rfl Try.call28 (sp_1) Ts ?_
 rintro ⟨⟩ -
 try simp only [List.cons_append, List.nil_append]
 refine ag_nil ?_
 refine q_not rfl rfl rfl rfl ?_
 refine s_eq 7 rfl (v' := .bool false) rfl ?_
 refine r_done ?_
 refine s_keep [0, 3, 7] (e' := [(0, _), (3, _), (7, _)]) rfl ?_
 refine k_then_n ?_
 refine c_cond_f rfl ?_
 refine c_skip ?_
 refine k_then_n ?_
 refine c_seq ?_
 refine c_seq ?_
 refine c_draw rfl (.q 0 (.q 1 (.q 2 (.q 3 (.q 4 ((.l 5 [] (.q 6 (.done))))))))) (by kernel_rfl) ?_
 refine q_move rfl rfl rfl rfl ?_
 refine q_nil_p rfl rfl rfl rfl ?_
 refine q_field (k := 0) rfl rfl rfl rfl Try.underlying70 rfl Try.sizeOf64 rfl ?_
 refine q_load_c (j := 0) rfl rfl rfl rfl Try.isAgg64 Tk (by first | rfl | exact (Nat.add_zero _).symm) (by rfl) ?_
 refine q_loadN_c rfl rfl rfl rfl Try.isAgg36 Try.sizeOf36 Tk 0 (us := [_, _, _]) (by first | rfl | exact (Nat.add_zero _).symm) rfl rfl ?_
 have sp_2 := Dj.can_spec pa pc po poc vb x.v hx.v k t o
 refine l_call rfl rfl rfl rfl rfl rfl Try.call29 (sp_2) Ts ?_
 rintro ⟨⟩ -
 try simp only [List.cons_append, List.nil_append]
 refine ag_nil ?_
 refine q_not rfl rfl rfl rfl ?_
 refine r_done ?_
 refine s_keep [0, 3, 14] (e' := [(0, _), (3, _), (14, _)]) rfl ?_
 refine k_then_n ?_
 refine c_cond_np rfl (fun hv => ?_) (fun hv => ?_)
 ·
  refine c_seq ?_
  refine c_plain (.q 0 (.done)) (by kernel_rfl) ?_
  refine q_assign rfl rfl rfl rfl ?_
  refine r_done ?_
  refine k_then_n ?_
  refine c_ret ?_
  refine k_then_ret ?_
  refine hs_fold (b := b) x (pa := pa) (pc := pc) (po := po) (poc := poc) (vb := vb) (va := va) (vc := vc) (mk := mk) (K := x.keys) Ts (by rfl) (by rfl) (by rfl) ?_
  rw [show heF x k t o = x from if_neg hv]
  refine ret1 rfl rfl (()) (by rw [heE, if_neg hv]) (by trivial) ?_
  exact Tf
 ·
  refine c_skip ?_
  refine k_then_n ?_
  refine c_seq ?_
  refine c_seq ?_
  refine c_plain (.q 0 (.q 1 (.done))) (by kernel_rfl) ?_
  refine q_field (k := 0) rfl rfl rfl rfl Try.underlying36 rfl Try.sizeOf34 rfl ?_
  refine q_load_c (j := 0) rfl rfl rfl rfl Try.isAgg34 Tk (by first | rfl | exact (Nat.add_zero _).symm) (by rfl) ?_
  refine r_done ?_
  refine k_then_n ?_
  refine c_block ?_
  refine c_seq ?_
  refine c_block ?_
  refine c_block ?_
  refine c_seq ?_
  refine c_seq ?_
  refine c_seq ?_
  refine c_plain (.q 0 (.q 1 (.done))) (by kernel_rfl) ?_
  refine q_int rfl rfl rfl rfl rfl (b_eql _ _ _ _) ?_
  refine q_assign rfl rfl rfl rfl ?_
  refine r_done ?_
  refine k_then_n ?_
  refine c_cond_p rfl (fun k1 => ?_) (fun k1 => ?_)
  ·
   refine s_eq 17 rfl (v' := .bool true) (by rw [decide_eq_true k1]) ?_
   refine c_exit ?_
   refine k_then_exit ?_
   refine k_then_exit ?_
   refine k_blk_here ?_
   refine k_blk_n ?_
   refine k_then_n ?_
   refine c_seq ?_
   refine c_plain (.q 0 (.q 1 ((.l 2 [] (.done))))) (by kernel_rfl) ?_
   refine q_move rfl rfl rfl rfl ?_
   refine q_loadN_c rfl rfl rfl rfl Try.isAgg36 Try.sizeOf36 Tk 0 (us := [_, _, _]) (by first | rfl | exact (Nat.add_zero _).symm) rfl rfl ?_
   refine hs_fold (b := b) x (pa := pa) (pc := pc) (po := po) (poc := poc) (vb := vb) (va := va) (vc := vc) (mk := mk) (K := x.keys) Ts (by rfl) (by rfl) (by rfl) ?_
   have sp_3 := Hi.note_spec pa pc po poc b x hx hn k t o hv.1 (by omega)
   refine l_call rfl rfl rfl rfl rfl rfl Try.call30 (sp_3) Ts ?_
   rintro ⟨⟩ -
   try simp only [List.cons_append, List.nil_append]
   refine ag_nil ?_
   refine s_take (A := hsR pa pc po poc b (ntF x k t o)) Tk ?_
   refine hs_open fun vbn mkn van vcn => ?_
   simp only [show (ntF x k t o).v = x.v from rfl]
   refine r_done ?_
   refine s_keep [0, 3] (e' := [(0, _), (3, _)]) rfl ?_
   refine k_then_n ?_
   refine c_exit ?_
   refine k_blk_here ?_
   refine k_then_n ?_
   refine c_seq ?_
   refine c_draw rfl (.q 0 (.q 1 (.q 2 (.q 3 (.q 4 ((.l 5 [] (.done)))))))) (by kernel_rfl) ?_
   refine q_move rfl rfl rfl rfl ?_
   refine q_nil_p rfl rfl rfl rfl ?_
   refine q_field (k := 0) rfl rfl rfl rfl Try.underlying70 rfl Try.sizeOf64 rfl ?_
   refine q_load_c (j := 0) rfl rfl rfl rfl Try.isAgg64 Tk (by first | rfl | exact (Nat.add_zero _).symm) (by rfl) ?_
   refine q_loadN_c rfl rfl rfl rfl Try.isAgg36 Try.sizeOf36 Tk 0 (us := [_, _, _]) (by first | rfl | exact (Nat.add_zero _).symm) rfl rfl ?_
   have sp_4 := Dj.next_spec pa pc po poc vbn x.v hx.v (by omega) pl hpl k t o hv
   refine l_call rfl rfl rfl rfl rfl rfl Try.call31 (sp_4) Ts ?_
   rintro ⟨⟩ -
   try simp only [List.cons_append, List.nil_append]
   refine ag_nil ?_
   refine hs_fold (b := b) (heF x k t o) (pa := pa) (pc := pc) (po := po) (poc := poc) (vb := vbn) (va := van) (vc := vcn) (mk := mkn) (K := (ntF x k t o).keys) Ts (by exact he_acc hv (by omega)) (by rfl) (by exact (vnn hv.1).2.2.2.symm) ?_
   refine r_done ?_
   refine s_keep [] (e' := []) rfl ?_
   refine k_then_n ?_
   refine c_seq ?_
   refine c_plain (.q 0 (.done)) (by kernel_rfl) ?_
   refine q_assign rfl rfl rfl rfl ?_
   refine r_done ?_
   refine k_then_n ?_
   refine c_ret ?_
   refine ret1 rfl rfl (()) (by rw [heE, if_pos hv]) (by trivial) ?_
   exact Tf
  ·
   refine s_eq 17 rfl (v' := .bool false) (by rw [decide_eq_false k1]) ?_
   refine c_skip ?_
   refine k_then_n ?_
   refine c_seq ?_
   refine c_plain (.q 0 (.q 1 (.done))) (by kernel_rfl) ?_
   refine q_int rfl rfl rfl rfl rfl (b_eql _ _ _ _) ?_
   refine q_assign rfl rfl rfl rfl ?_
   refine r_done ?_
   refine s_keep [0, 3, 19] (e' := [(0, _), (3, _), (19, _)]) rfl ?_
   refine k_then_n ?_
   refine c_cond_p rfl (fun k2 => ?_) (fun k2 => ?_)
   ·
    refine s_eq 19 rfl (v' := .bool true) (by rw [decide_eq_true k2]) ?_
    refine c_exit ?_
    refine k_then_exit ?_
    refine k_blk_out rfl ?_
    refine k_blk_here ?_
    refine k_then_n ?_
    refine c_seq ?_
    refine c_plain (.q 0 (.q 1 ((.l 2 [] (.done))))) (by kernel_rfl) ?_
    refine q_move rfl rfl rfl rfl ?_
    refine q_loadN_c rfl rfl rfl rfl Try.isAgg36 Try.sizeOf36 Tk 0 (us := [_, _, _]) (by first | rfl | exact (Nat.add_zero _).symm) rfl rfl ?_
    refine hs_fold (b := b) x (pa := pa) (pc := pc) (po := po) (poc := poc) (vb := vb) (va := va) (vc := vc) (mk := mk) (K := x.keys) Ts (by rfl) (by rfl) (by rfl) ?_
    have sp_5 := Hi.note_spec pa pc po poc b x hx hn k t o hv.1 (by omega)
    refine l_call rfl rfl rfl rfl rfl rfl Try.call30 (sp_5) Ts ?_
    rintro ⟨⟩ -
    try simp only [List.cons_append, List.nil_append]
    refine ag_nil ?_
    refine s_take (A := hsR pa pc po poc b (ntF x k t o)) Tk ?_
    refine hs_open fun vbn mkn van vcn => ?_
    simp only [show (ntF x k t o).v = x.v from rfl]
    refine r_done ?_
    refine s_keep [0, 3] (e' := [(0, _), (3, _)]) rfl ?_
    refine k_then_n ?_
    refine c_exit ?_
    refine k_blk_here ?_
    refine k_then_n ?_
    refine c_seq ?_
    refine c_draw rfl (.q 0 (.q 1 (.q 2 (.q 3 (.q 4 ((.l 5 [] (.done)))))))) (by kernel_rfl) ?_
    refine q_move rfl rfl rfl rfl ?_
    refine q_nil_p rfl rfl rfl rfl ?_
    refine q_field (k := 0) rfl rfl rfl rfl Try.underlying70 rfl Try.sizeOf64 rfl ?_
    refine q_load_c (j := 0) rfl rfl rfl rfl Try.isAgg64 Tk (by first | rfl | exact (Nat.add_zero _).symm) (by rfl) ?_
    refine q_loadN_c rfl rfl rfl rfl Try.isAgg36 Try.sizeOf36 Tk 0 (us := [_, _, _]) (by first | rfl | exact (Nat.add_zero _).symm) rfl rfl ?_
    have sp_6 := Dj.next_spec pa pc po poc vbn x.v hx.v (by omega) pl hpl k t o hv
    refine l_call rfl rfl rfl rfl rfl rfl Try.call31 (sp_6) Ts ?_
    rintro ⟨⟩ -
    try simp only [List.cons_append, List.nil_append]
    refine ag_nil ?_
    refine hs_fold (b := b) (heF x k t o) (pa := pa) (pc := pc) (po := po) (poc := poc) (vb := vbn) (va := van) (vc := vcn) (mk := mkn) (K := (ntF x k t o).keys) Ts (by exact he_acc hv (by omega)) (by rfl) (by exact (vnn hv.1).2.2.2.symm) ?_
    refine r_done ?_
    refine s_keep [] (e' := []) rfl ?_
    refine k_then_n ?_
    refine c_seq ?_
    refine c_plain (.q 0 (.done)) (by kernel_rfl) ?_
    refine q_assign rfl rfl rfl rfl ?_
    refine r_done ?_
    refine k_then_n ?_
    refine c_ret ?_
    refine ret1 rfl rfl (()) (by rw [heE, if_pos hv]) (by trivial) ?_
    exact Tf
   ·
    refine s_eq 19 rfl (v' := .bool false) (by rw [decide_eq_false k2]) ?_
    refine c_skip ?_
    refine k_then_n ?_
    refine c_exit ?_
    refine k_blk_out rfl ?_
    refine k_blk_out rfl ?_
    refine k_then_exit ?_
    refine k_blk_here ?_
    refine k_then_n ?_
    refine c_seq ?_
    refine c_draw rfl (.q 0 (.q 1 (.q 2 (.q 3 (.q 4 ((.l 5 [] (.done)))))))) (by kernel_rfl) ?_
    refine q_move rfl rfl rfl rfl ?_
    refine q_nil_p rfl rfl rfl rfl ?_
    refine q_field (k := 0) rfl rfl rfl rfl Try.underlying70 rfl Try.sizeOf64 rfl ?_
    refine q_load_c (j := 0) rfl rfl rfl rfl Try.isAgg64 Tk (by first | rfl | exact (Nat.add_zero _).symm) (by rfl) ?_
    refine q_loadN_c rfl rfl rfl rfl Try.isAgg36 Try.sizeOf36 Tk 0 (us := [_, _, _]) (by first | rfl | exact (Nat.add_zero _).symm) rfl rfl ?_
    have sp_7 := Dj.next_spec pa pc po poc vb x.v hx.v (by omega) pl hpl k t o hv
    refine l_call rfl rfl rfl rfl rfl rfl Try.call31 (sp_7) Ts ?_
    rintro ⟨⟩ -
    try simp only [List.cons_append, List.nil_append]
    refine ag_nil ?_
    refine hs_fold (b := b) (heF x k t o) (pa := pa) (pc := pc) (po := po) (poc := poc) (vb := vb) (va := va) (vc := vc) (mk := mk) (K := x.keys) Ts (by exact he_no hv (by omega)) (by rfl) (by exact (vnn hv.1).2.2.2.symm) ?_
    refine r_done ?_
    refine s_keep [] (e' := []) rfl ?_
    refine k_then_n ?_
    refine c_seq ?_
    refine c_plain (.q 0 (.done)) (by kernel_rfl) ?_
    refine q_assign rfl rfl rfl rfl ?_
    refine r_done ?_
    refine k_then_n ?_
    refine c_ret ?_
    refine ret1 rfl rfl (()) (by rw [heE, if_pos hv]) (by trivial) ?_
    exact Tf
theorem events_spec (pa : Option Addr) (pc : Nat) (po : Option Addr) (poc b : Nat) (x : HS) (hx : SInv x) (hn : x.v.ck.n ≤ 10000000000) (pl : List Int) (hpl : x.v.ck.pa = pl) (xs : List T3) (ao : Option Addr) (n c : Nat) (A : HProp) (hr : RdS A ao (xs.flatMap enc3)) (hxn : xs.length = n) (hb : n ≤ 4000000) : Spec Try.prog 15 [.pointer (some ⟨b, 0, none⟩), .slice ao n c] [A, hsR pa pc po poc b x, own 1 encZ pa pc pl, own 1 encZ po poc pl] (fun (i : Nat) => .tuple #[.int .i64 ((i : Nat) : Int), .int .i64 (if i = n then 0 else 6)]) (fun i => i ≤ n ∧ okH x (xs.take i) ∧ (i < n → ∀ e, xs[i]? = some e → ¬ canH (hAll x (xs.take i)) e)) (fun i => [A, hsR pa pc po poc b (hAll x (xs.take i)), own 1 encZ pa pc pl, own 1 encZ po poc pl]) := by
 refine spec_mk (n := 29) Try.func15 rfl rfl rfl ?_
 intro Γ w0
 simp only [argE, List.cons_append, List.nil_append, Nat.zero_add, Nat.reduceAdd]
 refine c_seq ?_
 refine c_plain (.q 0 (.q 1 (.done))) (by kernel_rfl) ?_
 refine q_assign rfl rfl rfl rfl ?_
 refine q_assign rfl rfl rfl rfl ?_
 refine r_done ?_
 refine k_then_n ?_
 refine c_seq ?_
 refine c_seq ?_
 refine c_plain (.q 0 ((.l 1 [] (.q 2 (.done))))) (by kernel_rfl) ?_
 refine q_move rfl rfl rfl rfl ?_
 refine s_take (A := hsR pa pc po poc b x) Tk ?_
 refine hs_open fun vb mk va vc => ?_
 have sp_1 := Hi.there_spec b vb (.int .i64 x.v.ck.th) (.slice va x.vars.length vc) (.map (some mk))
 refine l_call rfl rfl rfl rfl rfl rfl Try.call28 (sp_1) Ts ?_
 rintro ⟨⟩ -
 try simp only [List.cons_append, List.nil_append]
 refine ag_nil ?_
 refine hs_fold (b := b) x (pa := pa) (pc := pc) (po := po) (poc := poc) (vb := vb) (va := va) (vc := vc) (mk := mk) (K := x.keys) Ts (by rfl) (by rfl) (by rfl) ?_
 refine q_not rfl rfl rfl rfl ?_
 refine s_eq 11 rfl (v' := .bool false) rfl ?_
 refine r_done ?_
 refine s_keep [0, 1, 11] (e' := [(0, _), (1, _), (11, _)]) rfl ?_
 refine k_then_n ?_
 refine c_cond_f rfl ?_
 refine c_skip ?_
 refine k_then_n ?_
 refine c_seq ?_
 refine c_seq ?_
 refine c_plain (.q 0 (.q 1 (.q 2 (.done)))) (by kernel_rfl) ?_
 refine q_move rfl rfl rfl rfl ?_
 refine q_len rfl rfl rfl rfl Try.underlying26 ?_
 refine q_move rfl rfl rfl rfl ?_
 refine r_done ?_
 refine k_then_n ?_
 refine c_block ?_
 refine c_loop2 (α := Nat) (fun (i : Nat) => i ≤ n ∧ (okH x (xs.take i))) (fun (i : Nat) => [(14, .int .i64 ((i : Nat) : Int))]) (fun (i : Nat) => [hsR pa pc po poc b (hAll x (xs.take i)), own 1 encZ pa pc pl, own 1 encZ po poc pl]) (fun (i : Nat) => n - i) [0, 1, 12, 13] (er := [(0, _), (1, _), (12, _), (13, _)]) rfl (0) ?_ (by exact ⟨rfl, trivial⟩) (by (try dsimp only); (try simp only [Nat.add_zero, Nat.zero_add]); (repeat ((with_reducible apply Z2); focus (first | (with_reducible (repeat (first | exact Z0 | apply Z1)); done) | (repeat (first | exact Z0 | apply Z1))))); exact Z3) ?_
 · exact ⟨Nat.zero_le _, fun j e h => by simp at h⟩
 rintro i ⟨hle_i, ho⟩
 try simp only [List.cons_append, List.nil_append]
 obtain ⟨hdn, hdp, hdt, hdv⟩ := hAll_n (xs.take i) x
 rw [List.length_take] at hdn
 refine c_seq ?_
 refine c_plain (.q 0 (.done)) (by kernel_rfl) ?_
 refine q_int rfl rfl rfl rfl rfl (b_lss _ _ _ _) ?_
 refine r_done ?_
 refine k_then_n ?_
 refine c_seq ?_
 refine c_cond_p rfl (fun hlt => ?_) (fun hlt => ?_)
 ·
  refine c_skip ?_
  refine k_then_n ?_
  refine c_seq ?_
  refine c_block ?_
  refine c_seq ?_
  refine c_plain (.q 0 (.q 1 (.q 2 ((.l 3 [] (.q 4 ((.l 5 [] (.done))))))))) (by kernel_rfl) ?_
  refine q_move rfl rfl rfl rfl ?_
  obtain ⟨e, he⟩ := get_lt (l := xs) (i := i) (by first | omega | (simp; done) | (simp; omega))
  refine q_idxR (sz := 2) (k := i) rfl rfl rfl rfl rfl Try.underlying26 Try.sizeOf36 (hr) he enc3_len (by first | rfl | omega) (by omega) ?_
  intro ib17 io17 _ hd17
  refine q_loadN (vs := [_, _, _]) rfl rfl rfl rfl Try.isAgg36 Try.sizeOf36 Tk (hd17) rfl ?_
  refine l_alloc rfl rfl rfl Try.zeroValue36 (zs := [.int .i64 0, .int .i64 0, .int .i64 0]) rfl ?_
  intro b7
  refine ag_nil ?_
  refine q_assign rfl rfl rfl rfl ?_
  refine l_store (j := 0) rfl rfl rfl rfl Try.sizeOf36 (us := [_, _, _]) rfl rfl rfl Tk (by first | rfl | exact (Nat.add_zero _).symm) (by first | decide | (simp; done) | omega) ?_
  simp only [setL, List.set]
  refine ag_nil ?_
  refine r_done ?_
  refine s_keep [0, 1, 6, 7, 12, 13, 14] (e' := [(0, _), (1, _), (6, _), (7, _), (12, _), (13, _), (14, _)]) rfl ?_
  refine k_then_n ?_
  refine c_seq ?_
  refine c_plain (.q 0 (.q 1 ((.l 2 [] (.q 3 (.done)))))) (by kernel_rfl) ?_
  refine q_move rfl rfl rfl rfl ?_
  refine q_loadN_c rfl rfl rfl rfl Try.isAgg36 Try.sizeOf36 Tk 0 (us := [_, _, _]) (by first | rfl | exact (Nat.add_zero _).symm) rfl rfl ?_
  have sp_2 := Hi.event_spec pa pc po poc b (hAll x (xs.take i)) (hAll_inv hx _) (by omega) pl (hdp.trans hpl) e.1 e.2.1 e.2.2
  refine l_call rfl rfl rfl rfl rfl rfl Try.call11 (sp_2) Ts ?_
  rintro ⟨⟩ -
  try simp only [List.cons_append, List.nil_append]
  refine ag_nil ?_
  refine q_assign rfl rfl rfl rfl ?_
  refine r_done ?_
  refine s_keep [0, 1, 6, 8, 12, 13, 14] (e' := [(0, _), (1, _), (6, _), (8, _), (12, _), (13, _), (14, _)]) rfl ?_
  refine k_then_n ?_
  refine c_seq ?_
  refine c_plain (.q 0 (.q 1 (.done))) (by kernel_rfl) ?_
  refine q_move rfl rfl rfl rfl ?_
  refine q_int rfl rfl rfl rfl rfl (b_neq _ _ _ _) ?_
  refine r_done ?_
  refine k_then_n ?_
  refine c_cond_p rfl (fun hne => ?_) (fun hne => ?_)
  ·
   have hncan : ¬ canH (hAll x (xs.take i)) e := fun h => hne (if_pos h)
   rw [show (heF (hAll x (xs.take i)) e.1 e.2.1 e.2.2) = (hAll x (xs.take i)) from if_neg hncan]
   refine c_seq ?_
   refine c_plain (.q 0 (.q 1 (.q 2 (.q 3 (.done))))) (by kernel_rfl) ?_
   refine q_move rfl rfl rfl rfl ?_
   refine q_move rfl rfl rfl rfl ?_
   refine q_assign rfl rfl rfl rfl ?_
   refine q_assign rfl rfl rfl rfl ?_
   refine r_done ?_
   refine s_keep [4, 5] (e' := [(4, _), (5, _)]) rfl ?_
   refine k_then_n ?_
   refine c_ret ?_
   refine k_blk_ret ?_
   refine k_then_ret ?_
   refine k_then_ret ?_
   refine k_blk_ret ?_
   refine k_then_ret ?_
   refine ret2 rfl rfl rfl (i) (by rw [if_neg (by omega), show heE (hAll x (xs.take i)) e.1 e.2.1 e.2.2 = 6 from if_neg hncan]) (by exact ⟨by omega, ho, fun _ e2 h2 => by rw [he] at h2; cases h2; exact hncan⟩) ?_
   exact Tf
  ·
   have hcan : canH (hAll x (xs.take i)) e := Classical.byContradiction fun h => hne (by rw [show heE (hAll x (xs.take i)) e.1 e.2.1 e.2.2 = 6 from if_neg h]; decide)
   refine c_skip ?_
   refine k_blk_n ?_
   refine k_then_n ?_
   refine c_plain (.q 0 (.q 1 (.done))) (by kernel_rfl) ?_
   refine q_int rfl rfl rfl rfl rfl (b_add' _ (by exact fits_i64 (by omega) (by omega))) ?_
   refine q_move rfl rfl rfl rfl ?_
   refine r_done ?_
   refine s_keep [0, 1, 12, 13, 14] (e' := [(0, _), (1, _), (12, _), (13, _), (14, _)]) rfl ?_
   refine k_then_n ?_
   rw [show (heF (hAll x (xs.take i)) e.1 e.2.1 e.2.2) = hAll x (xs.take (i + 1)) from (hAll_next he).symm]
   refine loop_next (x := i) (i + 1) ?_ ?_ ?_ ?_
   · exact ⟨by omega, okH_next he ho hcan⟩
   · show n - (i + 1) < n - i; omega
   · exact ⟨rfl, rfl, rfl, rfl, rfl, trivial⟩
   · (try simp only [List.cons_append, List.nil_append]); exact Tf
 ·
  refine c_exit ?_
  refine k_then_exit ?_
  refine k_then_exit ?_
  refine k_blk_here ?_
  refine k_then_n ?_
  refine c_seq ?_
  refine c_plain (.q 0 (.q 1 (.q 2 (.q 3 (.done))))) (by kernel_rfl) ?_
  refine q_move rfl rfl rfl rfl ?_
  refine q_len rfl rfl rfl rfl Try.underlying26 ?_
  refine q_assign rfl rfl rfl rfl ?_
  refine q_assign rfl rfl rfl rfl ?_
  refine r_done ?_
  refine s_keep [4, 5] (e' := [(4, _), (5, _)]) rfl ?_
  refine k_then_n ?_
  refine c_ret ?_
  obtain rfl : i = n := by omega
  refine ret2 rfl rfl rfl (i) (by rw [if_pos rfl]) (by exact ⟨Nat.le_refl _, ho, fun h => absurd h (Nat.lt_irrefl _)⟩) ?_
  exact Tf
theorem len_spec (pa : Option Addr) (pc : Nat) (po : Option Addr) (poc b : Nat) (x : HS) (hx : SInv x) : Spec Try.prog 17 [.pointer (some ⟨b, 0, none⟩)] [hsR pa pc po poc b x] (fun (_ : Unit) => .int .i64 x.v.ck.n) (fun _ => True) (fun _ => [hsR pa pc po poc b x]) := by
 refine spec_mk (n := 14) Try.func17 rfl rfl rfl ?_
 intro Γ w0
 simp only [argE, List.cons_append, List.nil_append, Nat.zero_add, Nat.reduceAdd]
 refine c_seq ?_
 refine c_plain (.q 0 (.done)) (by kernel_rfl) ?_
 refine q_assign rfl rfl rfl rfl ?_
 refine r_done ?_
 refine k_then_n ?_
 refine c_seq ?_
 refine c_seq ?_
 refine s_take (A := hsR pa pc po poc b x) Tk ?_
 refine hs_open fun vb mk va vc => ?_
 refine c_plain (.q 0 ((.l 1 [] (.q 2 (.done))))) (by kernel_rfl) ?_
 refine q_move rfl rfl rfl rfl ?_
 have sp_1 := Hi.there_spec b vb (.int .i64 x.v.ck.th) (.slice va x.vars.length vc) (.map (some mk))
 refine l_call rfl rfl rfl rfl rfl rfl Try.call28 (sp_1) Ts ?_
 rintro ⟨⟩ -
 try simp only [List.cons_append, List.nil_append]
 refine ag_nil ?_
 refine q_not rfl rfl rfl rfl ?_
 refine s_eq 5 rfl (v' := .bool false) rfl ?_
 refine r_done ?_
 refine k_then_n ?_
 refine c_cond_f rfl ?_
 refine c_skip ?_
 refine k_then_n ?_
 refine c_seq ?_
 refine s_take (A := vsR pa pc po poc vb x.v) Tk ?_
 refine vs_open fun cb m1 m2 m3 m4 F1 F2 F3 F4 => ?_
 refine c_plain (.q 0 (.q 1 (.q 2 (.q 3 (.q 4 (.q 5 (.q 6 ((.l 7 [] (.q 8 (.done))))))))))) (by kernel_rfl) ?_
 refine q_move rfl rfl rfl rfl ?_
 refine q_nil_p rfl rfl rfl rfl ?_
 refine q_field (k := 0) rfl rfl rfl rfl Try.underlying70 rfl Try.sizeOf64 rfl ?_
 refine q_load_c (j := 0) rfl rfl rfl rfl Try.isAgg64 Tk (by first | rfl | exact (Nat.add_zero _).symm) (by rfl) ?_
 refine q_nil_p rfl rfl rfl rfl ?_
 refine q_field (k := 0) rfl rfl rfl rfl Try.underlying80 rfl Try.sizeOf76 rfl ?_
 refine q_load_c (j := 0) rfl rfl rfl rfl Try.isAgg76 Tk (by first | rfl | exact (Nat.add_zero _).symm) (by rfl) ?_
 have sp_2 := Fe.len_spec pa pc cb x.v.ck
 refine l_call rfl rfl rfl rfl rfl rfl Try.call43 (sp_2) Ts ?_
 rintro ⟨⟩ -
 try simp only [List.cons_append, List.nil_append]
 refine ag_nil ?_
 refine q_assign rfl rfl rfl rfl ?_
 refine r_done ?_
 refine s_keep [2] (e' := [(2, _)]) rfl ?_
 refine k_then_n ?_
 refine c_ret ?_
 refine vs_fold (b := vb) x.v (pa := pa) (pc := pc) (po := po) (poc := poc) (cb := cb) (m1 := m1) (m2 := m2) (m3 := m3) (m4 := m4) Ts (by rfl) (by rfl) ?_
 refine hs_fold (b := b) x (pa := pa) (pc := pc) (po := po) (poc := poc) (vb := vb) (va := va) (vc := vc) (mk := mk) (K := x.keys) Ts (by rfl) (by rfl) (by rfl) ?_
 refine ret1 rfl rfl (()) (by first | rfl | (first | rfl | (congr 1; done) | (congr 1 <;> first | rfl | omega | (simp; done) | (simp; omega)))) (by trivial) ?_
 exact Tf
theorem againstq_spec (pa : Option Addr) (pc : Nat) (po : Option Addr) (poc b : Nat) (x : HS) (hx : SInv x) (hn : x.v.ck.n ≤ 100000000000) (k t o : Int) : Spec Try.prog 13 [.pointer (some ⟨b, 0, none⟩), .agg #[.int .i64 k, .int .i64 t, .int .i64 o]] [hsR pa pc po poc b x] (fun (r : Option Addr × Nat) => .tuple #[.slice r.1 (if canF x.v.ck k t o then agF x k t o else []).length r.2, .int .i64 (if canF x.v.ck k t o then 0 else 6)]) (fun r => True) (fun r => [hsR pa pc po poc b x, own 1 encZ r.1 r.2 (if canF x.v.ck k t o then agF x k t o else [])]) := by
 refine spec_mk (n := 22) Try.func13 rfl rfl rfl ?_
 intro Γ w0
 simp only [argE, List.cons_append, List.nil_append, Nat.zero_add, Nat.reduceAdd]
 refine c_seq ?_
 refine c_plain ((.l 0 [] (.q 1 (.q 2 (.done))))) (by kernel_rfl) ?_
 refine l_box rfl rfl rfl rfl (us := [_, _, _]) rfl ?_
 intro b3
 refine ag_nil ?_
 refine q_assign rfl rfl rfl rfl ?_
 refine q_assign rfl rfl rfl rfl ?_
 refine r_done ?_
 refine k_then_n ?_
 refine c_seq ?_
 refine c_seq ?_
 refine s_take (A := hsR pa pc po poc b x) Tk ?_
 refine hs_open fun vb mk va vc => ?_
 refine s_take (A := vsR pa pc po poc vb x.v) Tk ?_
 refine vs_open fun cb m1 m2 m3 m4 F1 F2 F3 F4 => ?_
 refine c_plain (.q 0 ((.l 1 [] (.q 2 (.done))))) (by kernel_rfl) ?_
 refine q_move rfl rfl rfl rfl ?_
 have sp_1 := Hi.there_spec b vb (.int .i64 x.v.ck.th) (.slice va x.vars.length vc) (.map (some mk))
 refine l_call rfl rfl rfl rfl rfl rfl Try.call28 (sp_1) Ts ?_
 rintro ⟨⟩ -
 try simp only [List.cons_append, List.nil_append]
 refine ag_nil ?_
 refine q_not rfl rfl rfl rfl ?_
 refine s_eq 8 rfl (v' := .bool false) rfl ?_
 refine r_done ?_
 refine s_keep [0, 3, 8] (e' := [(0, _), (3, _), (8, _)]) rfl ?_
 refine k_then_n ?_
 refine c_cond_f rfl ?_
 refine c_skip ?_
 refine k_then_n ?_
 refine c_seq ?_
 refine c_seq ?_
 refine c_draw rfl (.q 0 (.q 1 (.q 2 (.q 3 (.q 4 (.q 5 (.q 6 (.q 7 ((.l 8 [] (.q 9 (.done)))))))))))) (by kernel_rfl) ?_
 refine q_move rfl rfl rfl rfl ?_
 refine q_nil_p rfl rfl rfl rfl ?_
 refine q_field (k := 0) rfl rfl rfl rfl Try.underlying70 rfl Try.sizeOf64 rfl ?_
 refine q_load_c (j := 0) rfl rfl rfl rfl Try.isAgg64 Tk (by first | rfl | exact (Nat.add_zero _).symm) (by rfl) ?_
 refine q_nil_p rfl rfl rfl rfl ?_
 refine q_field (k := 0) rfl rfl rfl rfl Try.underlying80 rfl Try.sizeOf76 rfl ?_
 refine q_load_c (j := 0) rfl rfl rfl rfl Try.isAgg76 Tk (by first | rfl | exact (Nat.add_zero _).symm) (by rfl) ?_
 refine q_loadN_c rfl rfl rfl rfl Try.isAgg36 Try.sizeOf36 Tk 0 (us := [_, _, _]) (by first | rfl | exact (Nat.add_zero _).symm) rfl rfl ?_
 have sp_2 := Fe.can_spec pa pc cb x.v.ck hx.v.ck k t o
 refine l_call rfl rfl rfl rfl rfl rfl Try.call34 (sp_2) Ts ?_
 rintro ⟨⟩ -
 try simp only [List.cons_append, List.nil_append]
 refine ag_nil ?_
 refine q_not rfl rfl rfl rfl ?_
 refine r_done ?_
 refine s_keep [0, 3, 18] (e' := [(0, _), (3, _), (18, _)]) rfl ?_
 refine k_then_n ?_
 refine c_cond_np rfl (fun hc => ?_) (fun hc => ?_)
 ·
  refine c_seq ?_
  refine c_plain (.q 0 (.q 1 (.done))) (by kernel_rfl) ?_
  refine q_assign rfl rfl rfl rfl ?_
  refine q_assign rfl rfl rfl rfl ?_
  refine r_done ?_
  refine k_then_n ?_
  refine c_ret ?_
  refine k_then_ret ?_
  refine s_heap (fun _ h => own_nil (sz := 1) (enc := encZ) h) ?_
  refine vs_fold (b := vb) x.v (pa := pa) (pc := pc) (po := po) (poc := poc) (cb := cb) (m1 := m1) (m2 := m2) (m3 := m3) (m4 := m4) Ts (by rfl) (by rfl) ?_
  refine hs_fold (b := b) x (pa := pa) (pc := pc) (po := po) (poc := poc) (vb := vb) (va := va) (vc := vc) (mk := mk) (K := x.keys) Ts (by rfl) (by rfl) (by rfl) ?_
  rw [if_neg hc, if_neg hc]
  refine ret2 rfl rfl rfl ((none, 0)) (by rfl) (by trivial) ?_
  exact Tf
 ·
  obtain ⟨l, hth⟩ := th_some hx.v (can_th hc)
  obtain ⟨h0, h1⟩ := th_rng hx.v (can_th hc)
  have hlc := hx.v.thc _ _ hth
  have hkn := hx.kn
  have hlen := hx.len
  have hn0 := hx.v.ck.n0
  have hlg := g_rng hlc.rng (by decide) t.toNat
  have hmx : maxC = 281474976710655 := rfl
  have hagl := agF_len x k t o
  refine c_skip ?_
  refine k_then_n ?_
  refine c_seq ?_
  refine s_rest_take (F := F1) (T := x.v.th) (S := []) t Tk (by simp) hth fun tv htF => ?_
  refine s_vec Tk fun tb ta tc hta => ?_
  subst hta
  refine c_plain (.q 0 (.q 1 ((.l 2 [] (.q 3 (.q 4 (.done))))))) (by kernel_rfl) ?_
  refine q_move rfl rfl rfl rfl ?_
  refine q_loadN_c rfl rfl rfl rfl Try.isAgg36 Try.sizeOf36 Tk 0 (us := [_, _, _]) (by first | rfl | exact (Nat.add_zero _).symm) rfl rfl ?_
  have sp_3 := Hi.against_spec b vb mk m1 tb (.int .i64 x.v.ck.th) (.slice va x.vars.length vc) (.pointer (some ⟨cb, 0, none⟩)) (.slice po x.v.ck.pa.length poc) (.map (some m2)) (.map (some m3)) (.map (some m4)) x.kept F1  ta tc l x.keys k t o htF hx.nd hx.ks hx.kt (by omega)
  refine l_call rfl rfl rfl rfl rfl rfl Try.call35 (sp_3) Ts ?_
  rintro ⟨ga, gc⟩ -
  rw [show (if k = 1 ∨ k = 2 then isort (x.keys.flatMap (agK x.kept k t o l)) else []) = agF x k t o from by unfold agF; rw [thF_eq hth]]
  try simp only [List.cons_append, List.nil_append]
  refine ag_nil ?_
  refine q_assign rfl rfl rfl rfl ?_
  refine q_assign rfl rfl rfl rfl ?_
  refine r_done ?_
  refine s_keep [4, 5] (e' := [(4, _), (5, _)]) rfl ?_
  refine k_then_n ?_
  refine c_ret ?_
  refine s_vecF tb ta tc l Ts ?_
  refine s_rest_put (F := F1) (T := x.v.th) (S := []) t F1 x.v.th Ts (by simp) htF (fun _ _ _ => rfl) hth (fun _ _ _ => rfl) ?_
  refine vs_fold (b := vb) x.v (pa := pa) (pc := pc) (po := po) (poc := poc) (cb := cb) (m1 := m1) (m2 := m2) (m3 := m3) (m4 := m4) Ts (by rfl) (by rfl) ?_
  refine hs_fold (b := b) x (pa := pa) (pc := pc) (po := po) (poc := poc) (vb := vb) (va := va) (vc := vc) (mk := mk) (K := x.keys) Ts (by rfl) (by rfl) (by rfl) ?_
  rw [if_pos hc, if_pos hc]
  refine ret2 rfl rfl rfl ((ga, gc)) (by rfl) (by trivial) ?_
  exact Tf
theorem pairs_spec (pa : Option Addr) (pc : Nat) (po : Option Addr) (poc b : Nat) (x : HS) (hx : SInv x) : Spec Try.prog 26 [.pointer (some ⟨b, 0, none⟩)] [hsR pa pc po poc b x] (fun (r : Option Addr × Nat) => .slice r.1 (prF x.vars).length r.2) (fun r => True) (fun r => [hsR pa pc po poc b x, own 3 enc3 r.1 r.2 (prF x.vars)]) := by
 refine spec_mk (n := 26) Try.func26 rfl rfl rfl ?_
 intro Γ w0
 simp only [argE, List.cons_append, List.nil_append, Nat.zero_add, Nat.reduceAdd]
 have hva := hx.v.ck.sh.va
 have hvl := hx.len
 refine c_seq ?_
 refine c_plain (.q 0 (.done)) (by kernel_rfl) ?_
 refine q_assign rfl rfl rfl rfl ?_
 refine r_done ?_
 refine k_then_n ?_
 refine c_seq ?_
 refine c_plain (.q 0 (.done)) (by kernel_rfl) ?_
 refine q_assign rfl rfl rfl rfl ?_
 refine r_done ?_
 refine k_then_n ?_
 refine c_seq ?_
 refine c_seq ?_
 refine s_take (A := hsR pa pc po poc b x) Tk ?_
 refine hs_open fun vb mk va vc => ?_
 refine c_plain (.q 0 ((.l 1 [] (.done)))) (by kernel_rfl) ?_
 refine q_move rfl rfl rfl rfl ?_
 have sp_1 := Hi.there_spec b vb (.int .i64 x.v.ck.th) (.slice va x.vars.length vc) (.map (some mk))
 refine l_call rfl rfl rfl rfl rfl rfl Try.call28 (sp_1) Ts ?_
 rintro ⟨⟩ -
 try simp only [List.cons_append, List.nil_append]
 refine ag_nil ?_
 refine r_done ?_
 refine k_then_n ?_
 refine c_cond_t rfl ?_
 refine c_seq ?_
 refine c_plain (.q 0 (.q 1 (.q 2 (.q 3 (.q 4 (.q 5 (.done))))))) (by kernel_rfl) ?_
 refine q_move rfl rfl rfl rfl ?_
 refine q_nil_p rfl rfl rfl rfl ?_
 refine q_field (k := 2) rfl rfl rfl rfl Try.underlying70 rfl Try.sizeOf67 rfl ?_
 refine q_load_c (j := 2) rfl rfl rfl rfl Try.isAgg67 Tk (by first | rfl | exact (Nat.add_zero _).symm) (by rfl) ?_
 refine q_len rfl rfl rfl rfl Try.underlying67 ?_
 refine q_move rfl rfl rfl rfl ?_
 refine r_done ?_
 refine s_keep [3, 11, 12, 13] (e' := [(3, _), (11, _), (12, _), (13, _)]) rfl ?_
 refine k_then_n ?_
 refine c_block ?_
 refine s_heap (fun _ h => own_nil (sz := 3) (enc := enc3) h) ?_
 refine c_loop2 (α := Nat × Option Addr × Nat) (fun (x_ : Nat × Option Addr × Nat) => match x_ with | (i, ga, gc) => i ≤ x.vars.length) (fun (x_ : Nat × Option Addr × Nat) => match x_ with | (i, ga, gc) => [(3, .slice ga ((prF (x.vars.take i)).length) gc), (13, .int .i64 ((i : Nat) : Int))]) (fun (x_ : Nat × Option Addr × Nat) => match x_ with | (i, ga, gc) => [own 3 enc3 ga gc (prF (x.vars.take i))]) (fun (x_ : Nat × Option Addr × Nat) => match x_ with | (i, ga, gc) => x.vars.length - i) [11, 12] (er := [(11, _), (12, _)]) rfl (0, none, 0) ?_ (by exact ⟨rfl, rfl, trivial⟩) (by (try dsimp only); (try simp only [Nat.add_zero, Nat.zero_add]); rw [List.take_zero, show prF ([] : List Tld) = [] from rfl]; (repeat ((with_reducible apply Z2); focus (first | (with_reducible (repeat (first | exact Z0 | apply Z1)); done) | (repeat (first | exact Z0 | apply Z1))))); exact Z3) ?_
 · exact Nat.zero_le _
 rintro ⟨i, ga, gc⟩ hle_i
 try simp only [List.cons_append, List.nil_append]
 have hfl := prF_len (x.vars.take i)
 rw [List.length_take] at hfl
 refine c_seq ?_
 refine c_plain (.q 0 (.done)) (by kernel_rfl) ?_
 refine q_int rfl rfl rfl rfl rfl (b_lss _ _ _ _) ?_
 refine r_done ?_
 refine k_then_n ?_
 refine c_seq ?_
 refine c_cond_p rfl (fun hlt => ?_) (fun hlt => ?_)
 ·
  obtain ⟨w, hw⟩ := get_lt (l := x.vars) (i := i) (by omega)
  refine c_skip ?_
  refine k_then_n ?_
  refine c_seq ?_
  refine c_block ?_
  refine c_seq ?_
  refine c_plain (.q 0 (.q 1 ((.l 2 [] ((.l 3 [] (.done))))))) (by kernel_rfl) ?_
  refine q_idxO (sz := 10) (k := i) (enc := encD) (xs := x.vars) rfl rfl rfl rfl rfl Try.underlying67 Try.sizeOf102 hw (by first | rfl | omega) (by omega) Tk ?_
  intro ib15 io15 ha15 hl15 hc15
  refine q_loadN_O (j := 0) (k' := i) (us := [_, _, _, _, _, _, _, _, _, _, _]) (enc := encD) (off := io15) rfl rfl rfl rfl Try.isAgg102 Try.sizeOf102 ha15 encD_len hw Tk (by first | rfl | exact (Nat.add_zero _).symm | omega) (by rfl) rfl ?_
  refine l_alloc rfl rfl rfl Try.zeroValue102 (zs := [.int .i64 0, .int .i64 0, .int .i64 0, .int .i64 0, .int .i64 0, .int .i64 0, .bool false, .int .i64 0, .int .i64 0, .int .i64 0, .int .i64 0]) rfl ?_
  intro b5
  refine ag_nil ?_
  refine l_store (j := 0) rfl rfl rfl rfl Try.sizeOf102 (us := [_, _, _, _, _, _, _, _, _, _, _]) rfl rfl rfl Tk (by first | rfl | exact (Nat.add_zero _).symm) (by first | decide | (simp; done) | omega) ?_
  simp only [setL, List.set]
  refine ag_nil ?_
  refine r_done ?_
  refine k_then_n ?_
  refine c_seq ?_
  refine c_plain (.q 0 (.q 1 (.done))) (by kernel_rfl) ?_
  refine q_field (k := 6) rfl rfl rfl rfl Try.underlying102 rfl Try.sizeOf4 rfl ?_
  refine q_load_c (j := 6) rfl rfl rfl rfl Try.isAgg4 Tk (by first | rfl | exact (Nat.add_zero _).symm) (by rfl) ?_
  refine r_done ?_
  refine s_keep [3, 5, 11, 12, 13, 18] (e' := [(3, _), (5, _), (11, _), (12, _), (13, _), (18, _)]) rfl ?_
  refine k_then_n ?_
  refine c_cond rfl (fun hfg => ?_) (fun hfg => ?_)
  ·
   try simp only [Bool.and_eq_true, Bool.or_eq_true, Bool.not_eq_true', Bool.not_eq_false', Bool.and_eq_false_iff, Bool.or_eq_false_iff, decide_eq_true_eq, decide_eq_false_iff_not] at hfg
   refine c_plain (.q 0 (.q 1 (.q 2 ((.l 3 [] ((.l 4 [] (.q 5 (.done))))))))) (by kernel_rfl) ?_
   refine q_move rfl rfl rfl rfl ?_
   refine q_field (k := 0) rfl rfl rfl rfl Try.underlying102 rfl Try.sizeOf56 rfl ?_
   refine q_loadN_c rfl rfl rfl rfl Try.isAgg56 Try.sizeOf56 Tk 0 (us := [_, _, _]) (by first | rfl | exact (Nat.add_zero _).symm) rfl rfl ?_
   refine l_buildSlice rfl rfl rfl rfl (run_build1 (us := [_, _, _]) Try.underlying60 Try.sizeOf56 rfl Try.zeroValue56 rfl rfl rfl) ?_
   intro b22
   refine ag_nil ?_
   refine l_append (sz := 3) (enc := enc3) (xs := (prF (x.vars.take i))) rfl rfl rfl rfl rfl Try.underlying60 Try.typeInfo56 rfl rfl rfl (by decide) Tk Tk (by first | rfl | omega | (simp; done) | (simp; omega)) (ys := [(w.1.1, w.1.2.1, w.1.2.2)]) (rds_some rdn_cells) (by rfl) (by first | rfl | omega) (enc3_len) (enc3_one) (by omega) (by show _ * 24 ≤ _; omega) ?_
   intro ao23 cp23
   refine ag_nil ?_
   refine q_assign rfl rfl rfl rfl ?_
   refine r_done ?_
   refine s_keep [3, 11, 12, 13] (e' := [(3, _), (11, _), (12, _), (13, _)]) rfl ?_
   refine k_blk_n ?_
   refine k_then_n ?_
   refine c_plain (.q 0 (.q 1 (.done))) (by kernel_rfl) ?_
   refine q_int rfl rfl rfl rfl rfl (b_add' _ (by exact fits_i64 (by omega) (by omega))) ?_
   refine q_move rfl rfl rfl rfl ?_
   refine r_done ?_
   refine k_then_n ?_
   have hnx := prF_next hw
   rw [if_pos (by simpa using hfg)] at hnx
   rw [show prF (x.vars.take i) ++ [(w.1.1, w.1.2.1, w.1.2.2)] = prF (x.vars.take (i + 1)) from hnx.symm]
   refine s_eq 3 rfl (v' := .slice ao23 (prF (x.vars.take (i + 1))).length cp23) (by rw [hnx, List.length_append]; rfl) ?_
   refine s_eq 3 rfl (v' := .slice ao23 ((prF (x.vars.take (i + 1))).length) cp23) (by first | rfl | (congr 1; done) | (congr 1 <;> first | rfl | omega | (simp; done) | (simp; omega))) ?_
   refine loop_next (x := (i, ga, gc)) ((i + 1, ao23, cp23)) ?_ ?_ ?_ ?_
   · try dsimp only
     omega
   · show x.vars.length - (i + 1) < x.vars.length - i; omega
   · exact ⟨rfl, rfl, rfl, rfl, trivial⟩
   · (try simp only [List.cons_append, List.nil_append]); exact Tf
  ·
   try simp only [Bool.and_eq_true, Bool.or_eq_true, Bool.not_eq_true', Bool.not_eq_false', Bool.and_eq_false_iff, Bool.or_eq_false_iff, decide_eq_true_eq, decide_eq_false_iff_not] at hfg
   refine c_skip ?_
   refine k_blk_n ?_
   refine k_then_n ?_
   refine c_plain (.q 0 (.q 1 (.done))) (by kernel_rfl) ?_
   refine q_int rfl rfl rfl rfl rfl (b_add' _ (by exact fits_i64 (by omega) (by omega))) ?_
   refine q_move rfl rfl rfl rfl ?_
   refine r_done ?_
   refine k_then_n ?_
   have hnx := prF_next hw
   rw [if_neg (by simpa using hfg), List.append_nil] at hnx
   rw [← hnx]
   refine s_eq 3 rfl (v' := .slice ga ((prF (x.vars.take (i + 1))).length) gc) (by first | rfl | (congr 1; done) | (congr 1 <;> first | rfl | omega | (simp; done) | (simp; omega))) ?_
   refine loop_next (x := (i, ga, gc)) ((i + 1, ga, gc)) ?_ ?_ ?_ ?_
   · try dsimp only
     omega
   · show x.vars.length - (i + 1) < x.vars.length - i; omega
   · exact ⟨rfl, rfl, rfl, rfl, trivial⟩
   · (try simp only [List.cons_append, List.nil_append]); exact Tf
 ·
  refine c_exit ?_
  refine k_then_exit ?_
  refine k_then_exit ?_
  refine k_blk_here ?_
  refine k_then_n ?_
  refine c_seq ?_
  refine c_plain (.q 0 (.q 1 (.done))) (by kernel_rfl) ?_
  refine q_move rfl rfl rfl rfl ?_
  refine q_assign rfl rfl rfl rfl ?_
  refine r_done ?_
  refine s_keep [2] (e' := [(2, _)]) rfl ?_
  refine k_then_n ?_
  refine c_ret ?_
  obtain rfl : i = x.vars.length := by omega
  rw [List.take_length]
  refine hs_fold (b := b) x (pa := pa) (pc := pc) (po := po) (poc := poc) (vb := vb) (va := va) (vc := vc) (mk := mk) (K := x.keys) Ts (by rfl) (by rfl) (by rfl) ?_
  refine ret1 rfl rfl ((ga, gc)) (by first | rfl | (first | rfl | (congr 1; done) | (congr 1 <;> first | rfl | omega | (simp; done) | (simp; omega)))) (by trivial) ?_
  exact Tf
end Go.Ab.Hi
set_option linter.unusedVariables false
set_option linter.unusedSimpArgs false
set_option maxRecDepth 100000
namespace Go.Ab.Hi
open Go Go.Proofs Go.Ab Go.Ab.Fe Go.Ab.Vc Go.Ab.Dj Go.Ab.So
def wk0 : HS := hNew 2 1 0 0 []
def wek : List T3 := [(7, 0, 1), (2, 0, 0), (2, 0, 0), (1, 1, 0)]
def wk4 : HS := hAll wk0 wek
theorem okw : OkS 2 1 0 0 [] := okS_iff.2 (by decide)
theorem wk0_inv : SInv wk0 := new_sinv okw
theorem wk4_inv : SInv wk4 := hAll_inv wk0_inv _
theorem wek_can : canH (hAll wk0 (wek.take 0)) (7, 0, 1) ∧ canH (hAll wk0 (wek.take 1)) (2, 0, 0) ∧ canH (hAll wk0 (wek.take 2)) (2, 0, 0) ∧ canH (hAll wk0 (wek.take 3)) (1, 1, 0) := by decide +kernel
theorem wek_four : ∀ i : Nat, i ≤ 4 → (i < 4 → ∀ e, wek[i]? = some e → ¬ canH (hAll wk0 (wek.take i)) e) → i = 4 := by
  intro i h1 h2
  obtain ⟨c0, c1, c2, c3⟩ := wek_can
  rcases (show i = 0 ∨ i = 1 ∨ i = 2 ∨ i = 3 ∨ i = 4 by omega) with rfl | rfl | rfl | rfl | rfl
  · exact absurd c0 (h2 (by decide) _ rfl)
  · exact absurd c1 (h2 (by decide) _ rfl)
  · exact absurd c2 (h2 (by decide) _ rfl)
  · exact absurd c3 (h2 (by decide) _ rfl)
  · rfl
theorem wk4_ag : (if canF wk4.v.ck 2 1 0 then agF wk4 2 1 0 else []) = [2] := by decide +kernel
theorem wk4_ac : (if canF wk4.v.ck 2 1 0 then (0 : Int) else 6) = 0 := by decide +kernel
theorem wk4_pr : prF wk4.vars = [(0, 2, 3)] := by decide +kernel
theorem wk4_no : heE wk4 1 0 1 = 6 := by decide +kernel
theorem num_spec (e : Int) : Spec Try.prog 10 [.int .i64 e] [] (fun (_ : Unit) => .int .i64 e) (fun _ => True) (fun _ => []) := by
 refine spec_mk (n := 4) Try.func10 rfl rfl rfl ?_
 intro Γ w0
 simp only [argE, List.cons_append, List.nil_append, Nat.zero_add, Nat.reduceAdd]
 refine c_seq ?_
 refine c_plain (.q 0 (.done)) (by kernel_rfl) ?_
 refine q_assign rfl rfl rfl rfl ?_
 refine r_done ?_
 refine k_then_n ?_
 refine c_seq ?_
 refine c_plain (.q 0 (.q 1 (.done))) (by kernel_rfl) ?_
 refine q_move rfl rfl rfl rfl ?_
 refine q_assign rfl rfl rfl rfl ?_
 refine r_done ?_
 refine k_then_n ?_
 refine c_ret ?_
 refine ret1 rfl rfl (()) (by first | rfl | (first | rfl | (congr 1; done) | (congr 1 <;> first | rfl | omega | (simp; done) | (simp; omega)))) (by trivial) ?_
 exact Tf
theorem ints_same (xs ys : List Int) (ao bo : Option Addr) (n m c d : Nat) (A : HProp) (hn : xs.length = n) (hr : RdS A ao (xs.flatMap encZ)) (hm : ys.length = m) (hr2 : RdS A bo (ys.flatMap encZ)) (hb : n ≤ 4000000000000) : Spec Try.prog 16 [.slice ao n c, .slice bo m d] [A] (fun (_ : Unit) => .bool (decide (xs = ys))) (fun _ => True) (fun _ => [A]) := by
 refine spec_mk (n := 26) Try.func16 rfl rfl rfl ?_
 intro Γ w0
 simp only [argE, List.cons_append, List.nil_append, Nat.zero_add, Nat.reduceAdd]
 refine c_seq ?_
 refine c_plain (.q 0 (.done)) (by kernel_rfl) ?_
 refine q_assign rfl rfl rfl rfl ?_
 refine r_done ?_
 refine k_then_n ?_
 refine c_seq ?_
 refine c_seq ?_
 refine c_plain (.q 0 (.q 1 (.q 2 (.q 3 (.q 4 (.done)))))) (by kernel_rfl) ?_
 refine q_move rfl rfl rfl rfl ?_
 refine q_len rfl rfl rfl rfl Try.underlying23 ?_
 refine q_move rfl rfl rfl rfl ?_
 refine q_len rfl rfl rfl rfl Try.underlying23 ?_
 refine q_int rfl rfl rfl rfl rfl (b_neq _ _ _ _) ?_
 refine r_done ?_
 refine s_keep [0, 1, 10] (e' := [(0, _), (1, _), (10, _)]) rfl ?_
 refine k_then_n ?_
 refine c_cond_p rfl (fun hne => ?_) (fun hne => ?_)
 ·
  refine c_seq ?_
  refine c_plain (.q 0 (.done)) (by kernel_rfl) ?_
  refine q_assign rfl rfl rfl rfl ?_
  refine r_done ?_
  refine k_then_n ?_
  refine c_ret ?_
  refine k_then_ret ?_
  refine ret1 rfl rfl (()) (by congr 1; symm; simp only [decide_eq_false_iff_not]; intro e; rw [e] at hn; omega) (by trivial) ?_
  exact Tf
 ·
  refine c_skip ?_
  refine k_then_n ?_
  refine c_seq ?_
  refine c_seq ?_
  refine c_plain (.q 0 (.done)) (by kernel_rfl) ?_
  refine q_assign rfl rfl rfl rfl ?_
  refine r_done ?_
  refine k_then_n ?_
  refine c_block ?_
  have hnm : n = m := by omega
  subst hnm
  refine c_loop2 (α := Nat) (fun (i : Nat) => i ≤ n ∧ (xs.take i = ys.take i)) (fun (i : Nat) => [(5, .int .i64 ((i : Nat) : Int))]) (fun (i : Nat) => []) (fun (i : Nat) => n - i) [0, 1] (er := [(0, _), (1, _)]) rfl (0) ?_ (by exact ⟨rfl, trivial⟩) (by (try dsimp only); (try simp only [Nat.add_zero, Nat.zero_add]); (repeat ((with_reducible apply Z2); focus (first | (with_reducible (repeat (first | exact Z0 | apply Z1)); done) | (repeat (first | exact Z0 | apply Z1))))); exact Z3) ?_
  · exact ⟨Nat.zero_le _, rfl⟩
  rintro i ⟨hle_i, ht⟩
  try simp only [List.cons_append, List.nil_append]
  refine c_seq ?_
  refine c_seq ?_
  refine c_plain (.q 0 (.q 1 (.q 2 (.q 3 (.done))))) (by kernel_rfl) ?_
  refine q_move rfl rfl rfl rfl ?_
  refine q_move rfl rfl rfl rfl ?_
  refine q_len rfl rfl rfl rfl Try.underlying23 ?_
  refine q_int rfl rfl rfl rfl rfl (b_lss _ _ _ _) ?_
  refine r_done ?_
  refine k_then_n ?_
  refine c_cond_p rfl (fun hlt => ?_) (fun hlt => ?_)
  ·
   refine c_skip ?_
   refine k_then_n ?_
   refine c_seq ?_
   refine c_block ?_
   refine c_seq ?_
   refine c_draw rfl (.q 0 (.q 1 (.q 2 (.q 3 (.q 4 (.q 5 (.q 6 (.q 7 (.q 8 (.done)))))))))) (by kernel_rfl) ?_
   refine q_move rfl rfl rfl rfl ?_
   refine q_move rfl rfl rfl rfl ?_
   obtain ⟨x, hx⟩ := get_lt (l := xs) (i := i) (by first | omega | (simp; done) | (simp; omega))
   refine q_idxR (sz := 0) (k := i) rfl rfl rfl rfl rfl Try.underlying23 Try.sizeOf3 (hr) hx encZ_len (by first | rfl | omega) (by omega) ?_
   intro ib19 io19 _ hd19
   refine q_load rfl rfl rfl rfl Try.isAgg3 Tk (hd19 0 (.int .i64 x) rfl) ?_
   refine q_move rfl rfl rfl rfl ?_
   refine q_move rfl rfl rfl rfl ?_
   obtain ⟨y, hy⟩ := get_lt (l := ys) (i := i) (by first | omega | (simp; done) | (simp; omega))
   refine q_idxR (sz := 0) (k := i) rfl rfl rfl rfl rfl Try.underlying23 Try.sizeOf3 (hr2) hy encZ_len (by first | rfl | omega) (by omega) ?_
   intro ib23 io23 _ hd23
   refine q_load rfl rfl rfl rfl Try.isAgg3 Tk (hd23 0 (.int .i64 y) rfl) ?_
   refine q_int rfl rfl rfl rfl rfl (b_neq _ _ _ _) ?_
   refine r_done ?_
   refine s_keep [0, 1, 5, 25] (e' := [(0, _), (1, _), (5, _), (25, _)]) rfl ?_
   refine k_then_n ?_
   refine c_cond_p rfl (fun hxy => ?_) (fun hxy => ?_)
   ·
    refine c_seq ?_
    refine c_plain (.q 0 (.done)) (by kernel_rfl) ?_
    refine q_assign rfl rfl rfl rfl ?_
    refine r_done ?_
    refine s_keep [4] (e' := [(4, _)]) rfl ?_
    refine k_then_n ?_
    refine c_ret ?_
    refine k_blk_ret ?_
    refine k_then_ret ?_
    refine k_then_ret ?_
    refine k_blk_ret ?_
    refine k_then_ret ?_
    refine ret1 rfl rfl (()) (by congr 1; symm; simp only [decide_eq_false_iff_not]; intro e; rw [e, hy] at hx; cases hx; exact hxy rfl) (by trivial) ?_
    exact Tf
   ·
    have hxy : x = y := Classical.byContradiction hxy
    refine c_skip ?_
    refine k_blk_n ?_
    refine k_then_n ?_
    refine c_plain (.q 0 (.q 1 (.q 2 (.done)))) (by kernel_rfl) ?_
    refine q_move rfl rfl rfl rfl ?_
    refine q_int rfl rfl rfl rfl rfl (b_add' _ (by exact fits_i64 (by omega) (by omega))) ?_
    refine q_assign rfl rfl rfl rfl ?_
    refine r_done ?_
    refine k_then_n ?_
    refine loop_next (x := i) (i + 1) ?_ ?_ ?_ ?_
    · exact ⟨by omega, by rw [List.take_add_one, List.take_add_one, hx, hy, ht, hxy]⟩
    · show n - (i + 1) < n - i; omega
    · exact ⟨rfl, rfl, rfl, trivial⟩
    · (try simp only [List.cons_append, List.nil_append]); exact Tf
  ·
   refine c_exit ?_
   refine k_then_exit ?_
   refine k_then_exit ?_
   refine k_blk_here ?_
   refine k_then_n ?_
   refine c_seq ?_
   refine c_plain (.q 0 (.done)) (by kernel_rfl) ?_
   refine q_assign rfl rfl rfl rfl ?_
   refine r_done ?_
   refine s_keep [4] (e' := [(4, _)]) rfl ?_
   refine k_then_n ?_
   refine c_ret ?_
   refine ret1 rfl rfl (()) (by congr 1; symm; simp only [decide_eq_true_eq]; obtain rfl : i = n := (by omega); rw [List.take_of_length_le (by omega), List.take_of_length_le (by omega)] at ht; exact ht) (by trivial) ?_
   exact Tf
theorem pairs_same (xs ys : List T3) (ao bo : Option Addr) (n m c d : Nat) (A : HProp) (hn : xs.length = n) (hr : RdS A ao (xs.flatMap enc3)) (hm : ys.length = m) (hr2 : RdS A bo (ys.flatMap enc3)) (hb : n ≤ 4000000000000) : Spec Try.prog 25 [.slice ao n c, .slice bo m d] [A] (fun (_ : Unit) => .bool (decide (xs = ys))) (fun _ => True) (fun _ => [A]) := by
 refine spec_mk (n := 26) Try.func25 rfl rfl rfl ?_
 intro Γ w0
 simp only [argE, List.cons_append, List.nil_append, Nat.zero_add, Nat.reduceAdd]
 refine c_seq ?_
 refine c_plain (.q 0 (.done)) (by kernel_rfl) ?_
 refine q_assign rfl rfl rfl rfl ?_
 refine r_done ?_
 refine k_then_n ?_
 refine c_seq ?_
 refine c_seq ?_
 refine c_plain (.q 0 (.q 1 (.q 2 (.q 3 (.q 4 (.done)))))) (by kernel_rfl) ?_
 refine q_move rfl rfl rfl rfl ?_
 refine q_len rfl rfl rfl rfl Try.underlying60 ?_
 refine q_move rfl rfl rfl rfl ?_
 refine q_len rfl rfl rfl rfl Try.underlying60 ?_
 refine q_int rfl rfl rfl rfl rfl (b_neq _ _ _ _) ?_
 refine r_done ?_
 refine s_keep [0, 1, 10] (e' := [(0, _), (1, _), (10, _)]) rfl ?_
 refine k_then_n ?_
 refine c_cond_p rfl (fun hne => ?_) (fun hne => ?_)
 ·
  refine c_seq ?_
  refine c_plain (.q 0 (.done)) (by kernel_rfl) ?_
  refine q_assign rfl rfl rfl rfl ?_
  refine r_done ?_
  refine k_then_n ?_
  refine c_ret ?_
  refine k_then_ret ?_
  refine ret1 rfl rfl (()) (by congr 1; symm; simp only [decide_eq_false_iff_not]; intro e; rw [e] at hn; omega) (by trivial) ?_
  exact Tf
 ·
  refine c_skip ?_
  refine k_then_n ?_
  refine c_seq ?_
  refine c_seq ?_
  refine c_plain (.q 0 (.done)) (by kernel_rfl) ?_
  refine q_assign rfl rfl rfl rfl ?_
  refine r_done ?_
  refine k_then_n ?_
  refine c_block ?_
  have hnm : n = m := by omega
  subst hnm
  refine c_loop2 (α := Nat) (fun (i : Nat) => i ≤ n ∧ (xs.take i = ys.take i)) (fun (i : Nat) => [(5, .int .i64 ((i : Nat) : Int))]) (fun (i : Nat) => []) (fun (i : Nat) => n - i) [0, 1] (er := [(0, _), (1, _)]) rfl (0) ?_ (by exact ⟨rfl, trivial⟩) (by (try dsimp only); (try simp only [Nat.add_zero, Nat.zero_add]); (repeat ((with_reducible apply Z2); focus (first | (with_reducible (repeat (first | exact Z0 | apply Z1)); done) | (repeat (first | exact Z0 | apply Z1))))); exact Z3) ?_
  · exact ⟨Nat.zero_le _, rfl⟩
  rintro i ⟨hle_i, ht⟩
  try simp only [List.cons_append, List.nil_append]
  refine c_seq ?_
  refine c_seq ?_
  refine c_plain (.q 0 (.q 1 (.q 2 (.q 3 (.done))))) (by kernel_rfl) ?_
  refine q_move rfl rfl rfl rfl ?_
  refine q_move rfl rfl rfl rfl ?_
  refine q_len rfl rfl rfl rfl Try.underlying60 ?_
  refine q_int rfl rfl rfl rfl rfl (b_lss _ _ _ _) ?_
  refine r_done ?_
  refine k_then_n ?_
  refine c_cond_p rfl (fun hlt => ?_) (fun hlt => ?_)
  ·
   refine c_skip ?_
   refine k_then_n ?_
   refine c_seq ?_
   refine c_block ?_
   refine c_seq ?_
   refine c_draw rfl (.q 0 (.q 1 (.q 2 (.q 3 (.q 4 (.q 5 (.q 6 (.q 7 (.q 8 (.done)))))))))) (by kernel_rfl) ?_
   refine q_move rfl rfl rfl rfl ?_
   refine q_move rfl rfl rfl rfl ?_
   obtain ⟨x, hx⟩ := get_lt (l := xs) (i := i) (by first | omega | (simp; done) | (simp; omega))
   refine q_idxR (sz := 2) (k := i) rfl rfl rfl rfl rfl Try.underlying60 Try.sizeOf56 (hr) hx enc3_len (by first | rfl | omega) (by omega) ?_
   intro ib19 io19 _ hd19
   refine q_loadN (vs := [_, _, _]) rfl rfl rfl rfl Try.isAgg56 Try.sizeOf56 Tk (hd19) rfl ?_
   refine q_move rfl rfl rfl rfl ?_
   refine q_move rfl rfl rfl rfl ?_
   obtain ⟨y, hy⟩ := get_lt (l := ys) (i := i) (by first | omega | (simp; done) | (simp; omega))
   refine q_idxR (sz := 2) (k := i) rfl rfl rfl rfl rfl Try.underlying60 Try.sizeOf56 (hr2) hy enc3_len (by first | rfl | omega) (by omega) ?_
   intro ib23 io23 _ hd23
   refine q_loadN (vs := [_, _, _]) rfl rfl rfl rfl Try.isAgg56 Try.sizeOf56 Tk (hd23) rfl ?_
   refine q_neS rfl rfl rfl rfl rfl (by kernel_rfl) (eqc_struct Try.underlying56 (by kernel_rfl) (eqf_cons rfl Try.isAgg3 rfl rfl (eqc_int Try.underlying3) (eqf_cons rfl Try.isAgg3 rfl rfl (eqc_int Try.underlying3) (eqf_last rfl Try.isAgg3 rfl rfl (eqc_int Try.underlying3))))) ?_
   refine s_eq 25 rfl (v' := .bool (decide (x ≠ y))) (by first | (congr 1; done) | (congr 1; rw [Bool.eq_iff_iff]; simp [Prod.ext_iff, and_assoc])) ?_
   refine r_done ?_
   refine s_keep [0, 1, 5, 25] (e' := [(0, _), (1, _), (5, _), (25, _)]) rfl ?_
   refine k_then_n ?_
   refine c_cond_p rfl (fun hxy => ?_) (fun hxy => ?_)
   ·
    refine c_seq ?_
    refine c_plain (.q 0 (.done)) (by kernel_rfl) ?_
    refine q_assign rfl rfl rfl rfl ?_
    refine r_done ?_
    refine s_keep [4] (e' := [(4, _)]) rfl ?_
    refine k_then_n ?_
    refine c_ret ?_
    refine k_blk_ret ?_
    refine k_then_ret ?_
    refine k_then_ret ?_
    refine k_blk_ret ?_
    refine k_then_ret ?_
    refine ret1 rfl rfl (()) (by congr 1; symm; simp only [decide_eq_false_iff_not]; intro e; rw [e, hy] at hx; cases hx; exact hxy rfl) (by trivial) ?_
    exact Tf
   ·
    have hxy : x = y := Classical.byContradiction hxy
    refine c_skip ?_
    refine k_blk_n ?_
    refine k_then_n ?_
    refine c_plain (.q 0 (.q 1 (.q 2 (.done)))) (by kernel_rfl) ?_
    refine q_move rfl rfl rfl rfl ?_
    refine q_int rfl rfl rfl rfl rfl (b_add' _ (by exact fits_i64 (by omega) (by omega))) ?_
    refine q_assign rfl rfl rfl rfl ?_
    refine r_done ?_
    refine k_then_n ?_
    refine loop_next (x := i) (i + 1) ?_ ?_ ?_ ?_
    · exact ⟨by omega, by rw [List.take_add_one, List.take_add_one, hx, hy, ht, hxy]⟩
    · show n - (i + 1) < n - i; omega
    · exact ⟨rfl, rfl, rfl, trivial⟩
    · (try simp only [List.cons_append, List.nil_append]); exact Tf
  ·
   refine c_exit ?_
   refine k_then_exit ?_
   refine k_then_exit ?_
   refine k_blk_here ?_
   refine k_then_n ?_
   refine c_seq ?_
   refine c_plain (.q 0 (.done)) (by kernel_rfl) ?_
   refine q_assign rfl rfl rfl rfl ?_
   refine r_done ?_
   refine s_keep [4] (e' := [(4, _)]) rfl ?_
   refine k_then_n ?_
   refine c_ret ?_
   refine ret1 rfl rfl (()) (by congr 1; symm; simp only [decide_eq_true_eq]; obtain rfl : i = n := (by omega); rw [List.take_of_length_le (by omega), List.take_of_length_le (by omega)] at ht; exact ht) (by trivial) ?_
   exact Tf
theorem works_spec : Spec Try.prog 7 [] [] (fun (_ : Unit) => .bool true) (fun _ => True) (fun _ => []) := by
 refine spec_mk (n := 64) Try.func7 rfl rfl rfl ?_
 intro Γ w0
 simp only [argE, List.cons_append, List.nil_append, Nat.zero_add, Nat.reduceAdd]
 refine c_seq ?_
 refine c_plain (.q 0 (.done)) (by kernel_rfl) ?_
 refine q_assign rfl rfl rfl rfl ?_
 refine r_done ?_
 refine k_then_n ?_
 refine c_seq ?_
 refine c_plain (.q 0 ((.l 1 [] (.q 2 (.q 3 (.q 4 (.q 5 (.q 6 (.done))))))))) (by kernel_rfl) ?_
 refine q_build rfl rfl rfl rfl (vs := [_, _, _, _, _]) (run_buildS Try.underlying25 Try.zeroValue25 (ps := [(0, 1), (1, 1), (2, 1), (3, 1), (4, 1)]) ⟨rfl, Try.sizeOf3, rfl, Try.sizeOf3, rfl, Try.sizeOf3, rfl, Try.sizeOf3, rfl, Try.sizeOf23, trivial⟩ rfl) ?_
 refine s_heap (fun _ h => Bun.fold (Γ := []) h) ?_
 have sp_1 := Hi.new_spec 2 1 0 0 ([]) none 0 0 (Bun []) (.inl rfl) (by rfl) (by omega) okw
 refine l_call rfl rfl rfl rfl rfl rfl Try.call9 (sp_1) Ts ?_
 rintro ⟨d, ⟨dpa, dpc⟩, dpo, dpoc⟩ -
 try simp only [List.cons_append, List.nil_append]
 refine ag_nil ?_
 rw [show hNew 2 1 0 0 [] = wk0 from rfl]
 refine q_move rfl rfl rfl rfl ?_
 refine q_extract rfl rfl rfl rfl rfl ?_
 refine q_extract rfl rfl rfl rfl rfl ?_
 refine q_assign rfl rfl rfl rfl ?_
 refine q_assign rfl rfl rfl rfl ?_
 refine r_done ?_
 refine s_keep [1, 2] (e' := [(1, _), (2, _)]) rfl ?_
 refine k_then_n ?_
 refine c_seq ?_
 refine c_plain (.q 0 (.q 1 (.q 2 (.q 3 (.q 4 ((.l 5 [] ((.l 6 [] (.q 7 (.q 8 (.q 9 (.q 10 (.q 11 (.done))))))))))))))) (by kernel_rfl) ?_
 refine q_move rfl rfl rfl rfl ?_
 refine q_build rfl rfl rfl rfl (vs := [_, _, _]) (run_buildS Try.underlying36 Try.zeroValue36 (ps := [(0, 1), (1, 1), (2, 1)]) ⟨rfl, Try.sizeOf34, rfl, Try.sizeOf3, rfl, Try.sizeOf3, trivial⟩ rfl) ?_
 refine q_build rfl rfl rfl rfl (vs := [_, _, _]) (run_buildS Try.underlying36 Try.zeroValue36 (ps := [(0, 1), (1, 1), (2, 1)]) ⟨rfl, Try.sizeOf34, rfl, Try.sizeOf3, rfl, Try.sizeOf3, trivial⟩ rfl) ?_
 refine q_build rfl rfl rfl rfl (vs := [_, _, _]) (run_buildS Try.underlying36 Try.zeroValue36 (ps := [(0, 1), (1, 1), (2, 1)]) ⟨rfl, Try.sizeOf34, rfl, Try.sizeOf3, rfl, Try.sizeOf3, trivial⟩ rfl) ?_
 refine q_build rfl rfl rfl rfl (vs := [_, _, _]) (run_buildS Try.underlying36 Try.zeroValue36 (ps := [(0, 1), (1, 1), (2, 1)]) ⟨rfl, Try.sizeOf34, rfl, Try.sizeOf3, rfl, Try.sizeOf3, trivial⟩ rfl) ?_
 refine l_buildSlice rfl rfl rfl rfl (vs := [_, _, _, _, _, _, _, _, _, _, _, _]) (run_buildSl Try.underlying26 Try.sizeOf36 Try.zeroValue36 rfl rfl rfl rfl) ?_
 intro b18
 refine ag_nil ?_
 have sp_2 := Hi.events_spec dpa dpc dpo dpoc d wk0 wk0_inv (by decide) ([]) rfl wek (some ⟨b18, 0, none⟩) 4 4 (cells b18 0 [.int .i64 7, .int .i64 0, .int .i64 1, .int .i64 2, .int .i64 0, .int .i64 0, .int .i64 2, .int .i64 0, .int .i64 0, .int .i64 1, .int .i64 1, .int .i64 0]) (rds_some rdn_cells) (by first | rfl | assumption | omega | (simp; done) | (simp; omega)) (by omega)
 refine l_call rfl rfl rfl rfl rfl rfl Try.call15 (sp_2) Ts ?_
 rintro i ⟨hi1, hi2, hi3⟩
 try simp only [List.cons_append, List.nil_append]
 refine ag_nil ?_
 obtain rfl := wek_four i hi1 hi3
 rw [show hAll wk0 (wek.take 4) = wk4 from rfl]
 refine q_move rfl rfl rfl rfl ?_
 refine q_extract rfl rfl rfl rfl rfl ?_
 refine q_extract rfl rfl rfl rfl rfl ?_
 refine q_assign rfl rfl rfl rfl ?_
 refine q_assign rfl rfl rfl rfl ?_
 refine r_done ?_
 refine s_keep [1, 2, 3, 4] (e' := [(1, _), (2, _), (3, _), (4, _)]) rfl ?_
 refine k_then_n ?_
 refine c_seq ?_
 refine c_plain (.q 0 (.q 1 ((.l 2 [] (.q 3 (.q 4 (.q 5 (.q 6 (.q 7 (.done)))))))))) (by kernel_rfl) ?_
 refine q_move rfl rfl rfl rfl ?_
 refine q_build rfl rfl rfl rfl (vs := [_, _, _]) (run_buildS Try.underlying36 Try.zeroValue36 (ps := [(0, 1), (1, 1), (2, 1)]) ⟨rfl, Try.sizeOf34, rfl, Try.sizeOf3, rfl, Try.sizeOf3, trivial⟩ rfl) ?_
 have sp_3 := Hi.againstq_spec dpa dpc dpo dpoc d wk4 wk4_inv (by decide +kernel) 2 1 0
 refine l_call rfl rfl rfl rfl rfl rfl Try.call13 (sp_3) Ts ?_
 rintro ⟨ga, gc⟩ -
 try simp only [List.cons_append, List.nil_append]
 refine ag_nil ?_
 rw [wk4_ag, wk4_ac]
 refine q_move rfl rfl rfl rfl ?_
 refine q_extract rfl rfl rfl rfl rfl ?_
 refine q_extract rfl rfl rfl rfl rfl ?_
 refine q_assign rfl rfl rfl rfl ?_
 refine q_assign rfl rfl rfl rfl ?_
 refine r_done ?_
 refine s_keep [1, 2, 3, 4, 5, 6] (e' := [(1, _), (2, _), (3, _), (4, _), (5, _), (6, _)]) rfl ?_
 refine k_then_n ?_
 refine c_seq ?_
 refine c_plain (.q 0 ((.l 1 [] (.q 2 (.q 3 (.q 4 ((.l 5 [] (.q 6 (.q 7 (.q 8 (.q 9 ((.l 10 [] (.q 11 (.q 12 (.q 13 (.q 14 (.q 15 (.q 16 (.q 17 (.q 18 ((.l 19 [] (.q 20 ((.l 21 [] ((.l 22 [] (.q 23 (.q 24 (.q 25 ((.l 26 [] ((.l 27 [] (.q 28 (.q 29 (.q 30 (.q 31 ((.l 32 [] ((.l 33 [] (.q 34 (.q 35 (.q 36 (.done)))))))))))))))))))))))))))))))))))))))))))))))) (by kernel_rfl) ?_
 refine q_move rfl rfl rfl rfl ?_
 have sp_4 := num_spec 0
 refine l_call rfl rfl rfl rfl rfl rfl Try.call10 (sp_4) Ts ?_
 rintro ⟨⟩ -
 try simp only [List.cons_append, List.nil_append]
 refine ag_nil ?_
 refine q_int rfl rfl rfl rfl rfl (b_eql _ _ _ _) ?_
 refine s_eq 30 rfl (v' := .bool true) (by first | rfl | simp) ?_
 refine q_move rfl rfl rfl rfl ?_
 refine q_move rfl rfl rfl rfl ?_
 have sp_5 := num_spec 0
 refine l_call rfl rfl rfl rfl rfl rfl Try.call10 (sp_5) Ts ?_
 rintro ⟨⟩ -
 try simp only [List.cons_append, List.nil_append]
 refine ag_nil ?_
 refine q_int rfl rfl rfl rfl rfl (b_eql _ _ _ _) ?_
 refine s_eq 34 rfl (v' := .bool true) (by first | rfl | simp) ?_
 refine q_pick_t rfl rfl rfl rfl rfl ?_
 refine q_move rfl rfl rfl rfl ?_
 refine q_move rfl rfl rfl rfl ?_
 have sp_6 := num_spec 0
 refine l_call rfl rfl rfl rfl rfl rfl Try.call10 (sp_6) Ts ?_
 rintro ⟨⟩ -
 try simp only [List.cons_append, List.nil_append]
 refine ag_nil ?_
 refine q_int rfl rfl rfl rfl rfl (b_eql _ _ _ _) ?_
 refine s_eq 39 rfl (v' := .bool true) (by first | rfl | simp) ?_
 refine q_pick_t rfl rfl rfl rfl rfl ?_
 refine q_move rfl rfl rfl rfl ?_
 refine q_move rfl rfl rfl rfl ?_
 refine q_int rfl rfl rfl rfl rfl (b_eql _ _ _ _) ?_
 refine s_eq 43 rfl (v' := .bool true) (by first | rfl | simp) ?_
 refine q_pick_t rfl rfl rfl rfl rfl ?_
 refine q_move rfl rfl rfl rfl ?_
 refine q_move rfl rfl rfl rfl ?_
 have sp_7 := Hi.pairs_spec dpa dpc dpo dpoc d wk4 wk4_inv
 refine l_call rfl rfl rfl rfl rfl rfl Try.call26 (sp_7) Ts ?_
 rintro ⟨pa, pc⟩ -
 try simp only [List.cons_append, List.nil_append]
 refine ag_nil ?_
 refine q_build rfl rfl rfl rfl (vs := [_, _, _]) (run_buildS Try.underlying56 Try.zeroValue56 (ps := [(0, 1), (1, 1), (2, 1)]) ⟨rfl, Try.sizeOf3, rfl, Try.sizeOf3, rfl, Try.sizeOf3, trivial⟩ rfl) ?_
 refine l_buildSlice rfl rfl rfl rfl (run_build1 (us := [_, _, _]) Try.underlying60 Try.sizeOf56 rfl Try.zeroValue56 rfl rfl rfl) ?_
 intro b49
 refine ag_nil ?_
 have hprl : (prF wk4.vars).length = 1 := by rw [wk4_pr]; rfl
 refine s_take (A := own 3 enc3 pa pc (prF wk4.vars)) Tk ?_
 refine own_fc fun f_8a f_8b f_8c => ?_
 refine s_heap (fun _ h => Bun.fold ((by (repeat ((with_reducible apply Z2); focus (first | (with_reducible (repeat (first | exact Z0 | apply Z1)); done) | (repeat (first | exact Z0 | apply Z1))))); exact Z3 : Takes _ [own 3 enc3 pa pc (prF wk4.vars), cells b49 0 [.int .i64 0, .int .i64 2, .int .i64 3]] _) _ h)) ?_
 have sp_9 := pairs_same (prF wk4.vars) ([(0, 2, 3)]) pa (some ⟨b49, 0, none⟩) ((prF wk4.vars).length) 1 pc 1 (Bun [own 3 enc3 pa pc (prF wk4.vars), cells b49 0 [.int .i64 0, .int .i64 2, .int .i64 3]]) (by rfl) (rds_bun (List.mem_cons_self) (rds_own enc3_len (fun h => (f_8b h).1) f_8c)) (by rfl) (rds_bun (List.mem_cons_of_mem _ (List.mem_cons_self)) (rds_some rdn_cells)) (by omega)
 refine l_call rfl rfl rfl rfl rfl rfl Try.call25 (sp_9) Ts ?_
 rintro ⟨⟩ -
 try simp only [List.cons_append, List.nil_append]
 refine s_take (A := Bun [own 3 enc3 pa pc (prF wk4.vars), cells b49 0 [.int .i64 0, .int .i64 2, .int .i64 3]]) Tk ?_
 refine s_bun ?_
 try simp only [List.cons_append, List.nil_append]
 try simp only [List.cons_append, List.nil_append]
 refine ag_nil ?_
 refine s_eq 50 rfl (v' := .bool true) (by rw [decide_eq_true wk4_pr]) ?_
 refine q_pick_t rfl rfl rfl rfl rfl ?_
 refine q_move rfl rfl rfl rfl ?_
 refine q_move rfl rfl rfl rfl ?_
 refine l_buildSlice rfl rfl rfl rfl (run_build1 (us := [_]) Try.underlying23 Try.sizeOf3 rfl Try.zeroValue3 rfl rfl rfl) ?_
 intro b54
 refine ag_nil ?_
 have h2l : ([2] : List Int).length = 1 := rfl
 refine s_take (A := own 1 encZ ga gc ([2])) Tk ?_
 refine own_fc fun f_10a f_10b f_10c => ?_
 refine s_heap (fun _ h => Bun.fold ((by (repeat ((with_reducible apply Z2); focus (first | (with_reducible (repeat (first | exact Z0 | apply Z1)); done) | (repeat (first | exact Z0 | apply Z1))))); exact Z3 : Takes _ [own 1 encZ ga gc ([2]), cells b54 0 [.int .i64 2]] _) _ h)) ?_
 have sp_11 := ints_same ([2]) ([2]) ga (some ⟨b54, 0, none⟩) (([2] : List Int).length) 1 gc 1 (Bun [own 1 encZ ga gc ([2]), cells b54 0 [.int .i64 2]]) (by rfl) (rds_bun (List.mem_cons_self) (rds_own encZ_len (fun h => (f_10b h).1) f_10c)) (by rfl) (rds_bun (List.mem_cons_of_mem _ (List.mem_cons_self)) (rds_some rdn_cells)) (by omega)
 refine l_call rfl rfl rfl rfl rfl rfl Try.call16 (sp_11) Ts ?_
 rintro ⟨⟩ -
 try simp only [List.cons_append, List.nil_append]
 refine s_take (A := Bun [own 1 encZ ga gc ([2]), cells b54 0 [.int .i64 2]]) Tk ?_
 refine s_bun ?_
 try simp only [List.cons_append, List.nil_append]
 try simp only [List.cons_append, List.nil_append]
 refine ag_nil ?_
 refine s_eq 55 rfl (v' := .bool true) (by first | rfl | simp) ?_
 refine q_pick_t rfl rfl rfl rfl rfl ?_
 refine q_move rfl rfl rfl rfl ?_
 refine q_move rfl rfl rfl rfl ?_
 refine q_build rfl rfl rfl rfl (vs := [_, _, _]) (run_buildS Try.underlying36 Try.zeroValue36 (ps := [(0, 1), (1, 1), (2, 1)]) ⟨rfl, Try.sizeOf34, rfl, Try.sizeOf3, rfl, Try.sizeOf3, trivial⟩ rfl) ?_
 have sp_12 := Hi.event_spec dpa dpc dpo dpoc d wk4 wk4_inv (by decide +kernel) ([]) rfl 1 0 1
 refine l_call rfl rfl rfl rfl rfl rfl Try.call11 (sp_12) Ts ?_
 rintro ⟨⟩ -
 try simp only [List.cons_append, List.nil_append]
 refine ag_nil ?_
 rw [wk4_no]
 have sp_13 := num_spec 6
 refine l_call rfl rfl rfl rfl rfl rfl Try.call10 (sp_13) Ts ?_
 rintro ⟨⟩ -
 try simp only [List.cons_append, List.nil_append]
 refine ag_nil ?_
 refine q_int rfl rfl rfl rfl rfl (b_eql _ _ _ _) ?_
 refine s_eq 62 rfl (v' := .bool true) (by first | rfl | simp) ?_
 refine q_pick_t rfl rfl rfl rfl rfl ?_
 refine q_assign rfl rfl rfl rfl ?_
 refine r_done ?_
 refine s_keep [0] (e' := [(0, _)]) rfl ?_
 refine k_then_n ?_
 refine c_ret ?_
 refine ret1 rfl rfl (()) (by first | rfl | (first | rfl | (congr 1; done) | (congr 1 <;> first | rfl | omega | (simp; done) | (simp; omega)))) (by trivial) ?_
 exact Tf
end Go.Ab.Hi
set_option linter.unusedVariables false
set_option linter.unusedSimpArgs false
set_option maxRecDepth 100000
namespace Go.Ab.Hi
open Go Go.Proofs Go.Ab Go.Ab.Fe Go.Ab.Vc Go.Ab.Dj Go.Ab.So
theorem mg_ge {m : Option (List Int)} {l : List Int} (hl : CV l) (h : ∀ q, m = some q → CV q) (i : Nat) : l.getD i 0 ≤ (mgF m l).getD i 0 := by
  cases m with
  | none => exact Int.le_refl _
  | some q => show _ ≤ (jn l q).getD i 0; rw [jn_g hl (h q rfl)]; omega
theorem upd_ge {x : VS} {t : Int} {l L : List Int} (hth : x.th t = some l) (h : ∀ i : Nat, l.getD i 0 ≤ L.getD i 0) (u : Int) (i : Nat) : (thF x u).getD i 0 ≤ ((upd x.th t (some L) u).getD []).getD i 0 := by
  by_cases hu : u = t
  · subst hu
    rw [show upd x.th u (some L) u = some L from upd_same, thF_eq hth]
    exact h i
  · rw [show upd x.th t (some L) u = x.th u from upd_ne hu]
    exact Int.le_refl _
/-- No vector of a thread's ever gets less. -/
theorem th_grow {x : VS} (hx : VInv x) {k t o : Int} (hv : vcanF x k t o) (u : Int) (i : Nat) : (thF x u).getD i 0 ≤ (thF (vnF x k t o) u).getD i 0 := by
  obtain ⟨l, hth⟩ := th_some hx (can_th hv.1)
  have hl := hx.thc _ _ hth
  have hic : ∀ i : Nat, l.getD i 0 ≤ (icL l t.toNat).getD i 0 := fun i => by
    rw [icL_g]; split
    · rename_i h; rw [h]; omega
    · exact Int.le_refl _
  obtain ⟨o5, o7, o9, o10, o11⟩ := can_obj hx.ck hv.1
  by_cases k5 : k = 5
  · rw [vn5 hth k5]; exact upd_ge hth (mg_ge hl (hx.lkc _)) u i
  by_cases k3 : k = 3
  · rw [vn3 hth k3]; exact upd_ge hth (mg_ge hl (hx.voc _)) u i
  by_cases k8 : k = 8
  · rw [vn8 hth k8]; exact upd_ge hth (mg_ge hl (hx.thc _)) u i
  by_cases k10 : k = 10
  · rw [vn10 hth k10]
    obtain ⟨p, hp, -⟩ := rd_some hx (o10 k10).1 (o10 k10).2.2
    refine upd_ge hth (fun i => ?_) u i
    rw [thF_eq hth, rdF, hp]
    show _ ≤ (jn l p.1).getD i 0
    rw [jn_g hl (hx.rdc _ _ hp)]; omega
  by_cases k6 : k = 6
  · rw [vn6 hth k6]; exact upd_ge hth hic u i
  by_cases k4 : k = 4
  · rw [vn4 hth k4]; exact upd_ge hth hic u i
  by_cases k9 : k = 9
  · rw [vn9 hth k9]; exact upd_ge hth hic u i
  by_cases k7 : k = 7
  · rw [vn7 hth k7]
    show _ ≤ ((upd (upd x.th o (some (stL l o.toNat 1))) t (some (icL l t.toNat)) u).getD []).getD i 0
    by_cases hu : u = t
    · subst hu
      rw [upd_same, thF_eq hth]; exact hic i
    · rw [upd_ne hu]
      by_cases ho : u = o
      · subst ho
        rw [upd_same]
        have hno : x.th u = none := by
          cases h : x.th u with
          | none => rfl
          | some q => exact absurd (o7 k7).2.2 ((hx.th u).1 (by rw [h]; rfl))
        rw [thF, hno]
        show ([] : List Int).getD i 0 ≤ (stL l u.toNat 1).getD i 0
        rw [stL_g, List.getD_nil]
        have := (g_rng hl.rng (by decide) i).1
        split <;> omega
      · rw [upd_ne ho]; exact Int.le_refl _
  rw [vn0 k5 k3 k8 k10 k6 k4 k9 k7]; exact Int.le_refl _
/-- What is kept is of threads that there are, and no later than their clocks. -/
structure KInv (x : HS) : Prop where
  k : ∀ q w, x.kept q = some w → q.2 < x.v.ck.th ∧ w.2.2.1 ≤ (thF x.v q.2).getD q.2.toNat 0 ∧ w.2.2.2 ≤ (thF x.v q.2).getD q.2.toNat 0
/-- Thread t knows all that thread u did. -/
def JX (x : HS) (t u : Int) : Prop := (thF x.v u).getD u.toNat 0 ≤ (thF x.v t).getD u.toNat 0
/-- A history of a shape, behind B events at most. -/
structure GInv (th va : Int) (pl : List Int) (B : Int) (x : HS) : Prop where
  s : SInv x
  k : KInv x
  n : x.v.ck.n ≤ B
  pa : x.v.ck.pa = pl
  th : x.v.ck.th = th
  va : x.v.ck.va = va
end Go.Ab.Hi
set_option linter.unusedVariables false
set_option linter.unusedSimpArgs false
set_option maxRecDepth 100000
namespace Go.Ab.Hi
open Go Go.Proofs Go.Ab Go.Ab.Fe Go.Ab.Vc Go.Ab.Dj Go.Ab.So
theorem at_spec (b vb m vc : Nat) (va : Option Addr) (v1 v3 : Value) (V : List Tld) (hm : V.length = m) (i : Nat) (v : Tld) (hv : V[i]? = some v) : Spec Try.prog 32 [.pointer (some ⟨b, 0, none⟩), .int .i64 ((i : Nat) : Int)] [cells b 0 [.pointer (some ⟨vb, 0, none⟩), v1, .slice va m vc, v3], own 11 encD va vc V] (fun (r : Nat × Nat) => .pointer (some ⟨r.1, r.2 + i * 11, none⟩)) (fun r => va = some ⟨r.1, r.2, none⟩) (fun r => [cells b 0 [.pointer (some ⟨vb, 0, none⟩), v1, .slice va m vc, v3], own 11 encD va vc V]) := by
 refine spec_mk (n := 27) Try.func32 rfl rfl rfl ?_
 intro Γ w0
 simp only [argE, List.cons_append, List.nil_append, Nat.zero_add, Nat.reduceAdd]
 have hil := (List.getElem?_eq_some_iff.1 hv).1
 refine c_seq ?_
 refine c_plain (.q 0 (.done)) (by kernel_rfl) ?_
 refine q_assign rfl rfl rfl rfl ?_
 refine r_done ?_
 refine k_then_n ?_
 refine c_seq ?_
 refine c_seq ?_
 refine c_plain (.q 0 ((.l 1 [] (.q 2 (.q 3 (.q 4 (.q 5 (.q 6 (.q 7 (.q 8 (.q 9 (.q 10 (.q 11 (.q 12 (.q 13 (.q 14 (.q 15 (.done)))))))))))))))))) (by kernel_rfl) ?_
 refine q_move rfl rfl rfl rfl ?_
 have sp_1 := Hi.there_spec b vb v1 (.slice va m vc) v3
 refine l_call rfl rfl rfl rfl rfl rfl Try.call28 (sp_1) Ts ?_
 rintro ⟨⟩ -
 try simp only [List.cons_append, List.nil_append]
 refine ag_nil ?_
 refine q_not rfl rfl rfl rfl ?_
 refine s_eq 7 rfl (v' := .bool false) rfl ?_
 refine q_move rfl rfl rfl rfl ?_
 refine q_move rfl rfl rfl rfl ?_
 refine q_int rfl rfl rfl rfl rfl (b_lss _ _ _ _) ?_
 refine q_pick_f rfl rfl rfl rfl rfl ?_
 refine q_move rfl rfl rfl rfl ?_
 refine s_bool_p 12 rfl (fun hg => by exfalso; omega) (fun hg => ?_)
 refine q_move rfl rfl rfl rfl ?_
 refine q_move rfl rfl rfl rfl ?_
 refine q_nil_p rfl rfl rfl rfl ?_
 refine q_field (k := 2) rfl rfl rfl rfl Try.underlying70 rfl Try.sizeOf67 rfl ?_
 refine q_load_c (j := 2) rfl rfl rfl rfl Try.isAgg67 Tk (by first | rfl | exact (Nat.add_zero _).symm) (by rfl) ?_
 refine q_len rfl rfl rfl rfl Try.underlying67 ?_
 refine q_int rfl rfl rfl rfl rfl (b_geq _ _ _ _) ?_
 refine q_pick_f rfl rfl rfl rfl rfl ?_
 refine r_done ?_
 refine s_keep [0, 1, 20] (e' := [(0, _), (1, _), (20, _)]) rfl ?_
 refine k_then_n ?_
 refine c_cond_p rfl (fun hg => by exfalso; first | omega | (simp at hg; omega)) (fun hg => ?_)
 refine c_skip ?_
 refine k_then_n ?_
 refine c_seq ?_
 refine c_plain (.q 0 (.q 1 (.q 2 (.q 3 (.q 4 (.q 5 (.q 6 (.done)))))))) (by kernel_rfl) ?_
 refine q_move rfl rfl rfl rfl ?_
 refine q_nil_p rfl rfl rfl rfl ?_
 refine q_field (k := 2) rfl rfl rfl rfl Try.underlying70 rfl Try.sizeOf67 rfl ?_
 refine q_load_c (j := 2) rfl rfl rfl rfl Try.isAgg67 Tk (by first | rfl | exact (Nat.add_zero _).symm) (by rfl) ?_
 refine q_move rfl rfl rfl rfl ?_
 refine q_idxO (sz := 10) (k := i) (enc := encD) (xs := V) rfl rfl rfl rfl rfl Try.underlying67 Try.sizeOf102 hv (by first | rfl | omega) (by omega) Tk ?_
 intro ib26 io26 ha26 hl26 hc26
 refine q_assign rfl rfl rfl rfl ?_
 refine r_done ?_
 refine s_keep [4] (e' := [(4, _)]) rfl ?_
 refine k_then_n ?_
 refine c_ret ?_
 refine ret1 rfl rfl ((ib26, io26)) (by first | rfl | (first | rfl | (congr 1; done) | (congr 1 <;> first | rfl | omega | (simp; done) | (simp; omega)))) (by exact ha26) ?_
 exact Tf
theorem atno_spec (b vb m vc : Nat) (va : Option Addr) (v1 v3 : Value) (V : List Tld) (hm : V.length = m) (z : Int) (hz : z < 0 ∨ (m : Int) ≤ z) : Spec Try.prog 32 [.pointer (some ⟨b, 0, none⟩), .int .i64 z] [cells b 0 [.pointer (some ⟨vb, 0, none⟩), v1, .slice va m vc, v3], own 11 encD va vc V] (fun (_ : Unit) => .pointer none) (fun _ => True) (fun _ => [cells b 0 [.pointer (some ⟨vb, 0, none⟩), v1, .slice va m vc, v3], own 11 encD va vc V]) := by
 refine spec_mk (n := 27) Try.func32 rfl rfl rfl ?_
 intro Γ w0
 simp only [argE, List.cons_append, List.nil_append, Nat.zero_add, Nat.reduceAdd]
 refine c_seq ?_
 refine c_plain (.q 0 (.done)) (by kernel_rfl) ?_
 refine q_assign rfl rfl rfl rfl ?_
 refine r_done ?_
 refine k_then_n ?_
 refine c_seq ?_
 refine c_seq ?_
 refine c_plain (.q 0 ((.l 1 [] (.q 2 (.q 3 (.q 4 (.q 5 (.q 6 (.q 7 (.q 8 (.q 9 (.q 10 (.q 11 (.q 12 (.q 13 (.q 14 (.q 15 (.done)))))))))))))))))) (by kernel_rfl) ?_
 refine q_move rfl rfl rfl rfl ?_
 have sp_1 := Hi.there_spec b vb v1 (.slice va m vc) v3
 refine l_call rfl rfl rfl rfl rfl rfl Try.call28 (sp_1) Ts ?_
 rintro ⟨⟩ -
 try simp only [List.cons_append, List.nil_append]
 refine ag_nil ?_
 refine q_not rfl rfl rfl rfl ?_
 refine s_eq 7 rfl (v' := .bool false) rfl ?_
 refine q_move rfl rfl rfl rfl ?_
 refine q_move rfl rfl rfl rfl ?_
 refine q_int rfl rfl rfl rfl rfl (b_lss _ _ _ _) ?_
 refine q_pick_f rfl rfl rfl rfl rfl ?_
 refine q_move rfl rfl rfl rfl ?_
 refine s_bool_p 12 rfl (fun hz1 => ?_) (fun hz1 => ?_)
 ·
  refine q_skip rfl rfl rfl rfl ?_
  refine q_skip rfl rfl rfl rfl ?_
  refine q_skip rfl rfl rfl rfl ?_
  refine q_skip rfl rfl rfl rfl ?_
  refine q_skip rfl rfl rfl rfl ?_
  refine q_skip rfl rfl rfl rfl ?_
  refine q_skip rfl rfl rfl rfl ?_
  refine q_pick_t rfl rfl rfl rfl rfl ?_
  refine r_done ?_
  refine s_keep [0, 1, 20] (e' := [(0, _), (1, _), (20, _)]) rfl ?_
  refine k_then_n ?_
  refine c_cond_t rfl ?_
  refine c_seq ?_
  refine c_plain (.q 0 (.done)) (by kernel_rfl) ?_
  refine q_assign rfl rfl rfl rfl ?_
  refine r_done ?_
  refine k_then_n ?_
  refine c_ret ?_
  refine k_then_ret ?_
  refine ret1 rfl rfl (()) (by first | rfl | (first | rfl | (congr 1; done) | (congr 1 <;> first | rfl | omega | (simp; done) | (simp; omega)))) (by trivial) ?_
  exact Tf
 ·
  refine q_move rfl rfl rfl rfl ?_
  refine q_move rfl rfl rfl rfl ?_
  refine q_nil_p rfl rfl rfl rfl ?_
  refine q_field (k := 2) rfl rfl rfl rfl Try.underlying70 rfl Try.sizeOf67 rfl ?_
  refine q_load_c (j := 2) rfl rfl rfl rfl Try.isAgg67 Tk (by first | rfl | exact (Nat.add_zero _).symm) (by rfl) ?_
  refine q_len rfl rfl rfl rfl Try.underlying67 ?_
  refine q_int rfl rfl rfl rfl rfl (b_geq _ _ _ _) ?_
  refine q_pick_f rfl rfl rfl rfl rfl ?_
  refine r_done ?_
  refine s_keep [0, 1, 20] (e' := [(0, _), (1, _), (20, _)]) rfl ?_
  refine k_then_n ?_
  refine c_cond_p rfl (fun hg => ?_) (fun hg => by exfalso; omega)
  refine c_seq ?_
  refine c_plain (.q 0 (.done)) (by kernel_rfl) ?_
  refine q_assign rfl rfl rfl rfl ?_
  refine r_done ?_
  refine k_then_n ?_
  refine c_ret ?_
  refine k_then_ret ?_
  refine ret1 rfl rfl (()) (by first | rfl | (first | rfl | (congr 1; done) | (congr 1 <;> first | rfl | omega | (simp; done) | (simp; omega)))) (by trivial) ?_
  exact Tf
theorem pair_some (pa : Option Addr) (pc : Nat) (po : Option Addr) (poc b : Nat) (x : HS) (hx : SInv x) (i : Nat) (w : Tld) (hw : x.vars[i]? = some w) : Spec Try.prog 21 [.pointer (some ⟨b, 0, none⟩), .int .i64 ((i : Nat) : Int)] [hsR pa pc po poc b x] (fun (_ : Unit) => .tuple #[ev3 (wH x (i : Int)).1, .bool (wH x (i : Int)).2.2.1]) (fun _ => True) (fun _ => [hsR pa pc po poc b x]) := by
 refine spec_mk (n := 21) Try.func21 rfl rfl rfl ?_
 intro Γ w0
 simp only [argE, List.cons_append, List.nil_append, Nat.zero_add, Nat.reduceAdd]
 refine c_seq ?_
 refine c_plain ((.l 0 [] (.q 1 (.done)))) (by kernel_rfl) ?_
 refine l_alloc rfl rfl rfl Try.zeroValue56 (zs := [.int .i64 0, .int .i64 0, .int .i64 0]) rfl ?_
 intro b4
 refine ag_nil ?_
 refine q_assign rfl rfl rfl rfl ?_
 refine r_done ?_
 refine k_then_n ?_
 refine c_seq ?_
 refine s_take (A := hsR pa pc po poc b x) Tk ?_
 refine hs_open fun vb mk va vc => ?_
 refine c_plain (.q 0 (.q 1 ((.l 2 [] (.q 3 (.done)))))) (by kernel_rfl) ?_
 refine q_move rfl rfl rfl rfl ?_
 refine q_move rfl rfl rfl rfl ?_
 have sp_1 := Hi.at_spec b vb x.vars.length vc va (.int .i64 x.v.ck.th) (.map (some mk)) x.vars (by rfl) i w hw
 refine l_call rfl rfl rfl rfl rfl rfl Try.call32 (sp_1) Ts ?_
 rintro ⟨ab, ao_⟩ haa
 try simp only [List.cons_append, List.nil_append]
 refine ag_nil ?_
 refine q_assign rfl rfl rfl rfl ?_
 refine r_done ?_
 refine s_keep [4, 6] (e' := [(4, _), (6, _)]) rfl ?_
 refine k_then_n ?_
 refine c_seq ?_
 refine c_seq ?_
 refine c_plain (.q 0 (.q 1 (.done))) (by kernel_rfl) ?_
 refine q_move rfl rfl rfl rfl ?_
 refine q_eq_nil rfl rfl rfl rfl Try.underlying73 ?_
 refine s_eq 11 rfl (v' := .bool false) rfl ?_
 refine r_done ?_
 refine k_then_n ?_
 refine c_cond_f rfl ?_
 refine c_skip ?_
 refine k_then_n ?_
 refine c_seq ?_
 refine c_draw rfl (.q 0 (.q 1 (.q 2 (.q 3 (.q 4 (.q 5 (.q 6 (.q 7 ((.l 8 [7] (.q 9 (.done)))))))))))) (by kernel_rfl) ?_
 refine q_move rfl rfl rfl rfl ?_
 refine q_nil_p rfl rfl rfl rfl ?_
 refine q_field (k := 0) rfl rfl rfl rfl Try.underlying102 rfl Try.sizeOf56 rfl ?_
 refine q_loadN_O (j := 0) (k' := i) (us := [_, _, _]) (enc := encD) (off := ao_) rfl rfl rfl rfl Try.isAgg56 Try.sizeOf56 haa encD_len hw Tk (by first | rfl | exact (Nat.add_zero _).symm | omega) (by rfl) rfl ?_
 refine q_move rfl rfl rfl rfl ?_
 refine q_nil_p rfl rfl rfl rfl ?_
 refine q_field (k := 6) rfl rfl rfl rfl Try.underlying102 rfl Try.sizeOf4 rfl ?_
 refine q_load_O (v := (.bool w.2.2.1)) (j := 6) (k' := i) (enc := encD) (off := ao_) rfl rfl rfl rfl Try.isAgg4 haa encD_len hw Tk (by first | rfl | exact (Nat.add_zero _).symm | omega) (by rfl) ?_
 refine l_store (j := 0) rfl rfl rfl rfl Try.sizeOf56 (us := [_, _, _]) rfl rfl rfl Tk (by first | rfl | exact (Nat.add_zero _).symm) (by first | decide | (simp; done) | omega) ?_
 simp only [setL, List.set]
 refine ag_load_O (v := (.bool w.2.2.1)) (j := 6) (k' := i) (enc := encD) (off := ao_) rfl rfl rfl Try.isAgg4 haa encD_len hw Tk (by first | rfl | exact (Nat.add_zero _).symm | omega) (by rfl) ?_
 refine ag_nil ?_
 refine q_assign rfl rfl rfl rfl ?_
 refine r_done ?_
 refine s_keep [4, 5] (e' := [(4, _), (5, _)]) rfl ?_
 refine k_then_n ?_
 refine c_ret ?_
 refine hs_fold (b := b) x (pa := pa) (pc := pc) (po := po) (poc := poc) (vb := vb) (va := va) (vc := vc) (mk := mk) (K := x.keys) Ts (by rfl) (by rfl) (by rfl) ?_
 refine retL (us := [_, _]) rfl ⟨rv_cellN rfl Try.isAgg56 Try.sizeOf56 Tk 0 rfl (us := [_, _, _]) rfl rfl, rv_tmp rfl, trivial⟩ (()) (by rw [wH_nat hw]; rfl) (by trivial) ?_
 exact Tf
theorem pair_none (pa : Option Addr) (pc : Nat) (po : Option Addr) (poc b : Nat) (x : HS) (hx : SInv x) (z : Int) (hz : z < 0 ∨ (x.vars.length : Int) ≤ z) : Spec Try.prog 21 [.pointer (some ⟨b, 0, none⟩), .int .i64 z] [hsR pa pc po poc b x] (fun (_ : Unit) => .tuple #[ev3 (wH x z).1, .bool (wH x z).2.2.1]) (fun _ => True) (fun _ => [hsR pa pc po poc b x]) := by
 refine spec_mk (n := 21) Try.func21 rfl rfl rfl ?_
 intro Γ w0
 simp only [argE, List.cons_append, List.nil_append, Nat.zero_add, Nat.reduceAdd]
 refine c_seq ?_
 refine c_plain ((.l 0 [] (.q 1 (.done)))) (by kernel_rfl) ?_
 refine l_alloc rfl rfl rfl Try.zeroValue56 (zs := [.int .i64 0, .int .i64 0, .int .i64 0]) rfl ?_
 intro b4
 refine ag_nil ?_
 refine q_assign rfl rfl rfl rfl ?_
 refine r_done ?_
 refine k_then_n ?_
 refine c_seq ?_
 refine s_take (A := hsR pa pc po poc b x) Tk ?_
 refine hs_open fun vb mk va vc => ?_
 refine c_plain (.q 0 (.q 1 ((.l 2 [] (.q 3 (.done)))))) (by kernel_rfl) ?_
 refine q_move rfl rfl rfl rfl ?_
 refine q_move rfl rfl rfl rfl ?_
 have sp_1 := Hi.atno_spec b vb x.vars.length vc va (.int .i64 x.v.ck.th) (.map (some mk)) x.vars (by rfl) z (by exact hz)
 refine l_call rfl rfl rfl rfl rfl rfl Try.call32 (sp_1) Ts ?_
 rintro ⟨⟩ -
 try simp only [List.cons_append, List.nil_append]
 refine ag_nil ?_
 refine q_assign rfl rfl rfl rfl ?_
 refine r_done ?_
 refine s_keep [4, 6] (e' := [(4, _), (6, _)]) rfl ?_
 refine k_then_n ?_
 refine c_seq ?_
 refine c_seq ?_
 refine c_plain (.q 0 (.q 1 (.done))) (by kernel_rfl) ?_
 refine q_move rfl rfl rfl rfl ?_
 refine q_eq_nil rfl rfl rfl rfl Try.underlying73 ?_
 refine s_eq 11 rfl (v' := .bool true) rfl ?_
 refine r_done ?_
 refine k_then_n ?_
 refine c_cond_t rfl ?_
 refine c_seq ?_
 refine c_plain (.q 0 ((.l 1 [] (.q 2 (.done))))) (by kernel_rfl) ?_
 refine q_build rfl rfl rfl rfl (vs := [_, _, _]) (run_buildS Try.underlying56 Try.zeroValue56 (ps := [(0, 1), (1, 1), (2, 1)]) ⟨rfl, Try.sizeOf3, rfl, Try.sizeOf3, rfl, Try.sizeOf3, trivial⟩ rfl) ?_
 refine l_store (j := 0) rfl rfl rfl rfl Try.sizeOf56 (us := [_, _, _]) rfl rfl rfl Tk (by first | rfl | exact (Nat.add_zero _).symm) (by first | decide | (simp; done) | omega) ?_
 simp only [setL, List.set]
 refine ag_nil ?_
 refine q_assign rfl rfl rfl rfl ?_
 refine r_done ?_
 refine s_keep [4, 5] (e' := [(4, _), (5, _)]) rfl ?_
 refine k_then_n ?_
 refine c_ret ?_
 refine k_then_ret ?_
 refine hs_fold (b := b) x (pa := pa) (pc := pc) (po := po) (poc := poc) (vb := vb) (va := va) (vc := vc) (mk := mk) (K := x.keys) Ts (by rfl) (by rfl) (by rfl) ?_
 refine retL (us := [_, _]) rfl ⟨rv_cellN rfl Try.isAgg56 Try.sizeOf56 Tk 0 rfl (us := [_, _, _]) rfl rfl, rv_tmp rfl, trivial⟩ (()) (by rw [wH_none hz]; rfl) (by trivial) ?_
 exact Tf
theorem pair_spec (pa : Option Addr) (pc : Nat) (po : Option Addr) (poc b : Nat) (x : HS) (hx : SInv x) (z : Int) : Spec Try.prog 21 [.pointer (some ⟨b, 0, none⟩), .int .i64 z] [hsR pa pc po poc b x] (fun (_ : Unit) => .tuple #[ev3 (wH x z).1, .bool (wH x z).2.2.1]) (fun _ => True) (fun _ => [hsR pa pc po poc b x]) := by
  rcases wH_cases x z with ⟨i, w, rfl, hw⟩ | hz
  · exact pair_some pa pc po poc b x hx i w hw
  · exact pair_none pa pc po poc b x hx z hz
theorem latest_some (pa : Option Addr) (pc : Nat) (po : Option Addr) (poc b : Nat) (x : HS) (hx : SInv x) (i : Nat) (w : Tld) (hw : x.vars[i]? = some w) : Spec Try.prog 24 [.pointer (some ⟨b, 0, none⟩), .int .i64 ((i : Nat) : Int)] [hsR pa pc po poc b x] (fun (_ : Unit) => .tuple #[ev3 (wH x (i : Int)).2.1, .bool (wH x (i : Int)).2.2.1]) (fun _ => True) (fun _ => [hsR pa pc po poc b x]) := by
 refine spec_mk (n := 21) Try.func24 rfl rfl rfl ?_
 intro Γ w0
 simp only [argE, List.cons_append, List.nil_append, Nat.zero_add, Nat.reduceAdd]
 refine c_seq ?_
 refine c_plain ((.l 0 [] (.q 1 (.done)))) (by kernel_rfl) ?_
 refine l_alloc rfl rfl rfl Try.zeroValue56 (zs := [.int .i64 0, .int .i64 0, .int .i64 0]) rfl ?_
 intro b4
 refine ag_nil ?_
 refine q_assign rfl rfl rfl rfl ?_
 refine r_done ?_
 refine k_then_n ?_
 refine c_seq ?_
 refine s_take (A := hsR pa pc po poc b x) Tk ?_
 refine hs_open fun vb mk va vc => ?_
 refine c_plain (.q 0 (.q 1 ((.l 2 [] (.q 3 (.done)))))) (by kernel_rfl) ?_
 refine q_move rfl rfl rfl rfl ?_
 refine q_move rfl rfl rfl rfl ?_
 have sp_1 := Hi.at_spec b vb x.vars.length vc va (.int .i64 x.v.ck.th) (.map (some mk)) x.vars (by rfl) i w hw
 refine l_call rfl rfl rfl rfl rfl rfl Try.call32 (sp_1) Ts ?_
 rintro ⟨ab, ao_⟩ haa
 try simp only [List.cons_append, List.nil_append]
 refine ag_nil ?_
 refine q_assign rfl rfl rfl rfl ?_
 refine r_done ?_
 refine s_keep [4, 6] (e' := [(4, _), (6, _)]) rfl ?_
 refine k_then_n ?_
 refine c_seq ?_
 refine c_seq ?_
 refine c_plain (.q 0 (.q 1 (.done))) (by kernel_rfl) ?_
 refine q_move rfl rfl rfl rfl ?_
 refine q_eq_nil rfl rfl rfl rfl Try.underlying73 ?_
 refine s_eq 11 rfl (v' := .bool false) rfl ?_
 refine r_done ?_
 refine k_then_n ?_
 refine c_cond_f rfl ?_
 refine c_skip ?_
 refine k_then_n ?_
 refine c_seq ?_
 refine c_draw rfl (.q 0 (.q 1 (.q 2 (.q 3 (.q 4 (.q 5 (.q 6 (.q 7 ((.l 8 [7] (.q 9 (.done)))))))))))) (by kernel_rfl) ?_
 refine q_move rfl rfl rfl rfl ?_
 refine q_nil_p rfl rfl rfl rfl ?_
 refine q_field (k := 3) rfl rfl rfl rfl Try.underlying102 rfl Try.sizeOf56 rfl ?_
 refine q_loadN_O (j := 3) (k' := i) (us := [_, _, _]) (enc := encD) (off := ao_) rfl rfl rfl rfl Try.isAgg56 Try.sizeOf56 haa encD_len hw Tk (by first | rfl | exact (Nat.add_zero _).symm | omega) (by rfl) rfl ?_
 refine q_move rfl rfl rfl rfl ?_
 refine q_nil_p rfl rfl rfl rfl ?_
 refine q_field (k := 6) rfl rfl rfl rfl Try.underlying102 rfl Try.sizeOf4 rfl ?_
 refine q_load_O (v := (.bool w.2.2.1)) (j := 6) (k' := i) (enc := encD) (off := ao_) rfl rfl rfl rfl Try.isAgg4 haa encD_len hw Tk (by first | rfl | exact (Nat.add_zero _).symm | omega) (by rfl) ?_
 refine l_store (j := 0) rfl rfl rfl rfl Try.sizeOf56 (us := [_, _, _]) rfl rfl rfl Tk (by first | rfl | exact (Nat.add_zero _).symm) (by first | decide | (simp; done) | omega) ?_
 simp only [setL, List.set]
 refine ag_load_O (v := (.bool w.2.2.1)) (j := 6) (k' := i) (enc := encD) (off := ao_) rfl rfl rfl Try.isAgg4 haa encD_len hw Tk (by first | rfl | exact (Nat.add_zero _).symm | omega) (by rfl) ?_
 refine ag_nil ?_
 refine q_assign rfl rfl rfl rfl ?_
 refine r_done ?_
 refine s_keep [4, 5] (e' := [(4, _), (5, _)]) rfl ?_
 refine k_then_n ?_
 refine c_ret ?_
 refine hs_fold (b := b) x (pa := pa) (pc := pc) (po := po) (poc := poc) (vb := vb) (va := va) (vc := vc) (mk := mk) (K := x.keys) Ts (by rfl) (by rfl) (by rfl) ?_
 refine retL (us := [_, _]) rfl ⟨rv_cellN rfl Try.isAgg56 Try.sizeOf56 Tk 0 rfl (us := [_, _, _]) rfl rfl, rv_tmp rfl, trivial⟩ (()) (by rw [wH_nat hw]; rfl) (by trivial) ?_
 exact Tf
theorem latest_none (pa : Option Addr) (pc : Nat) (po : Option Addr) (poc b : Nat) (x : HS) (hx : SInv x) (z : Int) (hz : z < 0 ∨ (x.vars.length : Int) ≤ z) : Spec Try.prog 24 [.pointer (some ⟨b, 0, none⟩), .int .i64 z] [hsR pa pc po poc b x] (fun (_ : Unit) => .tuple #[ev3 (wH x z).2.1, .bool (wH x z).2.2.1]) (fun _ => True) (fun _ => [hsR pa pc po poc b x]) := by
 refine spec_mk (n := 21) Try.func24 rfl rfl rfl ?_
 intro Γ w0
 simp only [argE, List.cons_append, List.nil_append, Nat.zero_add, Nat.reduceAdd]
 refine c_seq ?_
 refine c_plain ((.l 0 [] (.q 1 (.done)))) (by kernel_rfl) ?_
 refine l_alloc rfl rfl rfl Try.zeroValue56 (zs := [.int .i64 0, .int .i64 0, .int .i64 0]) rfl ?_
 intro b4
 refine ag_nil ?_
 refine q_assign rfl rfl rfl rfl ?_
 refine r_done ?_
 refine k_then_n ?_
 refine c_seq ?_
 refine s_take (A := hsR pa pc po poc b x) Tk ?_
 refine hs_open fun vb mk va vc => ?_
 refine c_plain (.q 0 (.q 1 ((.l 2 [] (.q 3 (.done)))))) (by kernel_rfl) ?_
 refine q_move rfl rfl rfl rfl ?_
 refine q_move rfl rfl rfl rfl ?_
 have sp_1 := Hi.atno_spec b vb x.vars.length vc va (.int .i64 x.v.ck.th) (.map (some mk)) x.vars (by rfl) z (by exact hz)
 refine l_call rfl rfl rfl rfl rfl rfl Try.call32 (sp_1) Ts ?_
 rintro ⟨⟩ -
 try simp only [List.cons_append, List.nil_append]
 refine ag_nil ?_
 refine q_assign rfl rfl rfl rfl ?_
 refine r_done ?_
 refine s_keep [4, 6] (e' := [(4, _), (6, _)]) rfl ?_
 refine k_then_n ?_
 refine c_seq ?_
 refine c_seq ?_
 refine c_plain (.q 0 (.q 1 (.done))) (by kernel_rfl) ?_
 refine q_move rfl rfl rfl rfl ?_
 refine q_eq_nil rfl rfl rfl rfl Try.underlying73 ?_
 refine s_eq 11 rfl (v' := .bool true) rfl ?_
 refine r_done ?_
 refine k_then_n ?_
 refine c_cond_t rfl ?_
 refine c_seq ?_
 refine c_plain (.q 0 ((.l 1 [] (.q 2 (.done))))) (by kernel_rfl) ?_
 refine q_build rfl rfl rfl rfl (vs := [_, _, _]) (run_buildS Try.underlying56 Try.zeroValue56 (ps := [(0, 1), (1, 1), (2, 1)]) ⟨rfl, Try.sizeOf3, rfl, Try.sizeOf3, rfl, Try.sizeOf3, trivial⟩ rfl) ?_
 refine l_store (j := 0) rfl rfl rfl rfl Try.sizeOf56 (us := [_, _, _]) rfl rfl rfl Tk (by first | rfl | exact (Nat.add_zero _).symm) (by first | decide | (simp; done) | omega) ?_
 simp only [setL, List.set]
 refine ag_nil ?_
 refine q_assign rfl rfl rfl rfl ?_
 refine r_done ?_
 refine s_keep [4, 5] (e' := [(4, _), (5, _)]) rfl ?_
 refine k_then_n ?_
 refine c_ret ?_
 refine k_then_ret ?_
 refine hs_fold (b := b) x (pa := pa) (pc := pc) (po := po) (poc := poc) (vb := vb) (va := va) (vc := vc) (mk := mk) (K := x.keys) Ts (by rfl) (by rfl) (by rfl) ?_
 refine retL (us := [_, _]) rfl ⟨rv_cellN rfl Try.isAgg56 Try.sizeOf56 Tk 0 rfl (us := [_, _, _]) rfl rfl, rv_tmp rfl, trivial⟩ (()) (by rw [wH_none hz]; rfl) (by trivial) ?_
 exact Tf
theorem latest_spec (pa : Option Addr) (pc : Nat) (po : Option Addr) (poc b : Nat) (x : HS) (hx : SInv x) (z : Int) : Spec Try.prog 24 [.pointer (some ⟨b, 0, none⟩), .int .i64 z] [hsR pa pc po poc b x] (fun (_ : Unit) => .tuple #[ev3 (wH x z).2.1, .bool (wH x z).2.2.1]) (fun _ => True) (fun _ => [hsR pa pc po poc b x]) := by
  rcases wH_cases x z with ⟨i, w, rfl, hw⟩ | hz
  · exact latest_some pa pc po poc b x hx i w hw
  · exact latest_none pa pc po poc b x hx z hz
theorem small_spec (th va vo lk : Int) (ao : Option Addr) (n c : Nat) (eo : Option Addr) (m ec : Nat) : Spec Try.prog 8 [.agg #[.int .i64 th, .int .i64 va, .int .i64 vo, .int .i64 lk, .slice ao n c], .slice eo m ec] [] (fun (_ : Unit) => .bool (decide (m ≤ 60 ∧ th ≤ 20 ∧ va ≤ 6))) (fun _ => True) (fun _ => []) := by
 refine spec_mk (n := 18) Try.func8 rfl rfl rfl ?_
 intro Γ w0
 simp only [argE, List.cons_append, List.nil_append, Nat.zero_add, Nat.reduceAdd]
 refine c_seq ?_
 refine c_plain ((.l 0 [] (.q 1 (.done)))) (by kernel_rfl) ?_
 refine l_box rfl rfl rfl rfl (us := [_, _, _, _, _]) rfl ?_
 intro b2
 refine ag_nil ?_
 refine q_assign rfl rfl rfl rfl ?_
 refine r_done ?_
 refine k_then_n ?_
 refine c_seq ?_
 refine c_plain (.q 0 (.q 1 (.q 2 (.q 3 (.q 4 (.q 5 (.q 6 (.q 7 (.q 8 (.q 9 (.q 10 (.q 11 (.q 12 (.q 13 (.done))))))))))))))) (by kernel_rfl) ?_
 refine q_move rfl rfl rfl rfl ?_
 refine q_len rfl rfl rfl rfl Try.underlying26 ?_
 refine q_int rfl rfl rfl rfl rfl (b_leq _ _ _ _) ?_
 refine q_move rfl rfl rfl rfl ?_
 refine s_bool_p 8 rfl (fun s1 => ?_) (fun s1 => ?_)
 ·
  refine q_field (k := 0) rfl rfl rfl rfl Try.underlying25 rfl Try.sizeOf3 rfl ?_
  refine q_load_c (j := 0) rfl rfl rfl rfl Try.isAgg3 Tk (by first | rfl | exact (Nat.add_zero _).symm) (by rfl) ?_
  refine q_int rfl rfl rfl rfl rfl (b_leq _ _ _ _) ?_
  refine q_pick_t rfl rfl rfl rfl rfl ?_
  refine q_move rfl rfl rfl rfl ?_
  refine s_bool_p 13 rfl (fun s2 => ?_) (fun s2 => ?_)
  ·
   refine q_field (k := 1) rfl rfl rfl rfl Try.underlying25 rfl Try.sizeOf3 rfl ?_
   refine q_load_c (j := 1) rfl rfl rfl rfl Try.isAgg3 Tk (by first | rfl | exact (Nat.add_zero _).symm) (by rfl) ?_
   refine q_int rfl rfl rfl rfl rfl (b_leq _ _ _ _) ?_
   refine q_pick_t rfl rfl rfl rfl rfl ?_
   refine q_assign rfl rfl rfl rfl ?_
   refine r_done ?_
   refine s_keep [4] (e' := [(4, _)]) rfl ?_
   refine k_then_n ?_
   refine c_ret ?_
   refine ret1 rfl rfl (()) (by congr 1; first | (rw [decide_eq_decide]; omega) | (symm; rw [decide_eq_false_iff_not]; omega)) (by trivial) ?_
   exact Tf
  ·
   refine q_skip rfl rfl rfl rfl ?_
   refine q_skip rfl rfl rfl rfl ?_
   refine q_skip rfl rfl rfl rfl ?_
   refine q_pick_f rfl rfl rfl rfl rfl ?_
   refine q_assign rfl rfl rfl rfl ?_
   refine r_done ?_
   refine s_keep [4] (e' := [(4, _)]) rfl ?_
   refine k_then_n ?_
   refine c_ret ?_
   refine ret1 rfl rfl (()) (by congr 1; first | (rw [decide_eq_decide]; omega) | (symm; rw [decide_eq_false_iff_not]; omega)) (by trivial) ?_
   exact Tf
 ·
  refine q_skip rfl rfl rfl rfl ?_
  refine q_skip rfl rfl rfl rfl ?_
  refine q_skip rfl rfl rfl rfl ?_
  refine q_pick_f rfl rfl rfl rfl rfl ?_
  refine q_move rfl rfl rfl rfl ?_
  refine q_skip rfl rfl rfl rfl ?_
  refine q_skip rfl rfl rfl rfl ?_
  refine q_skip rfl rfl rfl rfl ?_
  refine q_pick_f rfl rfl rfl rfl rfl ?_
  refine q_assign rfl rfl rfl rfl ?_
  refine r_done ?_
  refine s_keep [4] (e' := [(4, _)]) rfl ?_
  refine k_then_n ?_
  refine c_ret ?_
  refine ret1 rfl rfl (()) (by congr 1; first | (rw [decide_eq_decide]; omega) | (symm; rw [decide_eq_false_iff_not]; omega)) (by trivial) ?_
  exact Tf
end Go.Ab.Hi
set_option linter.unusedVariables false
set_option linter.unusedSimpArgs false
namespace Go.Ab.Ord
/-- Who keeps a vector: (0, t, 0) a thread, (1, o, 0) a lock, (2, o, 0) a volatile, (3, b, r) a round. -/
abbrev Ent := Nat × Int × Int
abbrev eT (t : Int) : Ent := (0, t, 0)
abbrev eL (o : Int) : Ent := (1, o, 0)
abbrev eV (o : Int) : Ent := (2, o, 0)
abbrev eR (r : Int × Int) : Ent := (3, r)
theorem th_inj {t u : Int} : eT t = eT u ↔ t = u := by simp [eT]
/-- What is known of the clocks behind n events: K X i: event i is known to X; V X u: X's clock of thread u; c i: its thread's clock ahead of event i. -/
structure Cor (n : Nat) (K : Ent → Nat → Prop) (V : Ent → Int → Int) (c : Nat → Int) (thr : Nat → Int) (al : Ent → Prop) (run : Int → Prop) : Prop where
  k : ∀ X i, i < n → al X → (K X i ↔ c i ≤ V X (thr i))
  own : ∀ X u, run u → X ≠ eT u → V X u < V (eT u) u
  ownX : ∀ X u, 0 ≤ u → V X u ≤ V (eT u) u
  c1 : ∀ i, i < n → 1 ≤ c i ∧ c i ≤ V (eT (thr i)) (thr i)
  nn : ∀ X u, 0 ≤ V X u
  th0 : ∀ i, i < n → 0 ≤ thr i
  run0 : ∀ u, run u → 0 ≤ u
section
variable {n : Nat} {K K' : Ent → Nat → Prop} {V V' : Ent → Int → Int} {c : Nat → Int} {thr : Nat → Int} {al al' : Ent → Prop} {run run' : Int → Prop}
theorem Cor.pos (h : Cor n K V c thr al run) {u : Int} (hu : run u) : 1 ≤ V (eT u) u := by
  have h1 := h.own (eL 0) u hu (by simp)
  have h2 := h.nn (eL 0) u
  omega
/-- The thread takes in a vector (KG, VG), or none. -/
theorem Cor.gather (h : Cor n K V c thr al run) {t : Int} (ht : run t) (hthr : thr n = t) (hc : c n = V (eT t) t) (KG : Nat → Prop) (VG : Int → Int)
    (hG : ∀ i, i < n → (KG i ↔ c i ≤ VG (thr i))) (hGo : ∀ u, run' u → VG u < V (eT u) u ∨ VG u ≤ 0) (hGX : ∀ u, 0 ≤ u → VG u ≤ V (eT u) u)
    (hat : al (eT t)) (hatt : ∀ u, al' (eT u)) (hal : ∀ X, al' X → al X) (hrun : ∀ u, run' u → run u)
    (hK : ∀ X i, i < n → (K' X i ↔ K X i ∨ (X = eT t ∧ KG i))) (hKn : ∀ X, K' X n ↔ X = eT t)
    (hVt : ∀ u, 0 ≤ u → V' (eT t) u = max (V (eT t) u) (VG u)) (hVo : ∀ X u, 0 ≤ u → X ≠ eT t → V' X u ≤ V X u ∧ (al' X → V' X u = V X u)) (hV0 : ∀ X u, 0 ≤ V' X u) : Cor (n + 1) K' V' c thr al' run' := by
  have ht0 := h.run0 t ht
  have hpos := h.pos ht
  have hge : ∀ w u, 0 ≤ u → V (eT w) u ≤ V' (eT w) u := fun w u hu => by
    by_cases e : eT w = eT t
    · rw [e, hVt u hu]; omega
    · rw [(hVo _ u hu e).2 (hatt w)]; exact Int.le_refl _
  refine ⟨fun X i hi ha => ?_, fun X u hu hX => ?_, fun X u hu => ?_, fun i hi => ?_, hV0, fun i hi => ?_, fun u hu => h.run0 u (hrun u hu)⟩
  · rcases Nat.lt_or_ge i n with h1 | h1
    · rw [hK X i h1]
      have h2 := h.k X i h1 (hal X ha)
      by_cases e : X = eT t
      · subst e
        rw [hVt _ (h.th0 i h1), h2, hG i h1]; simp only [true_and]; omega
      · rw [(hVo X _ (h.th0 i h1) e).2 ha, h2]; simp [e]
    · obtain rfl : i = n := by omega
      rw [hKn, hthr]
      by_cases e : X = eT t
      · subst e; rw [hVt t ht0]; simp only [true_iff]; omega
      · have h1 := h.own X t ht e
        have h2 := (hVo X t ht0 e).1
        simp only [e, false_iff]; omega
  · have h1 := hrun u hu
    have h0 := h.run0 u h1
    have h2 := h.own X u h1 hX
    have h3 := hge u u h0
    by_cases e : X = eT t
    · subst e
      rw [hVt u h0]
      rcases hGo u hu with h4 | h4
      · omega
      · have := h.pos h1; omega
    · have := (hVo X u h0 e).1; omega
  · have h2 := h.ownX X u hu
    have h3 := hge u u hu
    have h4 := hGX u hu
    by_cases e : X = eT t
    · subst e; rw [hVt u hu]; omega
    · have := (hVo X u hu e).1; omega
  · rcases Nat.lt_or_ge i n with h1 | h1
    · have h2 := h.c1 i h1
      have h3 := hge (thr i) (thr i) (h.th0 i h1)
      omega
    · obtain rfl : i = n := by omega
      have h3 := hge t t ht0
      rw [hthr]; omega
  · rcases Nat.lt_or_ge i n with h1 | h1
    · exact h.th0 i h1
    · obtain rfl : i = n := by omega
      rw [hthr]; exact ht0
/-- The thread hands its vector to P (which is no thread); its clock is one more. -/
theorem Cor.release (h : Cor n K V c thr al run) {t : Int} (ht : run t) (hthr : thr n = t) (hc : c n = V (eT t) t) (P : Ent) (hP : ∀ u, P ≠ eT u) (VP : Int → Int)
    (hG : ∀ i, i < n → (K P i ∨ K (eT t) i ↔ c i ≤ VP (thr i))) (hPt : VP t = V (eT t) t) (hPo : ∀ u, run u → u ≠ t → VP u < V (eT u) u) (hPX : ∀ u, 0 ≤ u → VP u ≤ V (eT u) u)
    (hat : al (eT t)) (hal : ∀ X, X ≠ P → al' X → al X) (hrun : ∀ u, run' u → run u)
    (hK : ∀ X i, i < n → (K' X i ↔ K X i ∨ (X = P ∧ K (eT t) i))) (hKn : ∀ X, K' X n ↔ X = eT t ∨ X = P)
    (hV : ∀ X u, 0 ≤ u → V' X u = if X = P then VP u else if X = eT t ∧ u = t then V X u + 1 else V X u) (hV0 : ∀ X u, 0 ≤ V' X u) : Cor (n + 1) K' V' c thr al' run' := by
  have ht0 := h.run0 t ht
  have hpos := h.pos ht
  have hPt' : eT t ≠ P := fun e => hP t e.symm
  have hth : ∀ u v, 0 ≤ v → V' (eT u) v = if u = t ∧ v = t then V (eT u) v + 1 else V (eT u) v := fun u v hv => by
    rw [hV _ v hv, if_neg (fun e => hP u e.symm)]
    by_cases e : u = t
    · subst e; simp
    · rw [if_neg (fun h => e (th_inj.1 h.1)), if_neg (fun h => e h.1)]
  refine ⟨fun X i hi ha => ?_, fun X u hu hX => ?_, fun X u hu => ?_, fun i hi => ?_, hV0, fun i hi => ?_, fun u hu => h.run0 u (hrun u hu)⟩
  · rcases Nat.lt_or_ge i n with h1 | h1
    · rw [hK X i h1, hV X _ (h.th0 i h1)]
      by_cases e : X = P
      · subst e
        rw [if_pos rfl, ← hG i h1]; simp
      · rw [if_neg e]
        have h2 := h.k X i h1 (hal X e ha)
        simp only [e, false_and, or_false]
        rw [h2]
        split
        · rename_i e2
          obtain ⟨rfl, e3⟩ := e2
          have h3 := (h.c1 i h1).2
          rw [e3] at h3 ⊢; omega
        · exact Iff.rfl
    · obtain rfl : i = n := by omega
      rw [hKn, hthr, hV X t ht0]
      by_cases e : X = P
      · subst e; rw [if_pos rfl]; simp; omega
      · rw [if_neg e]
        by_cases e2 : X = eT t
        · subst e2; simp; omega
        · rw [if_neg (fun h => e2 h.1)]
          have := h.own X t ht e2
          simp [e, e2]; omega
  · have h1 := hrun u hu
    have h0 := h.run0 u h1
    have h2 := h.own X u h1 hX
    rw [hth u u h0, hV X u h0]
    by_cases e : X = P
    · subst e
      rw [if_pos rfl]
      by_cases e2 : u = t
      · subst e2; rw [if_pos ⟨rfl, rfl⟩]; omega
      · rw [if_neg (fun h => e2 h.1)]; exact hPo u h1 e2
    · rw [if_neg e, if_neg (fun h => hX (by rw [h.1, h.2]))]
      split <;> omega
  · have h2 := h.ownX X u hu
    have h3 := hPX u hu
    rw [hth u u hu, hV X u hu]
    by_cases e : X = P
    · subst e; rw [if_pos rfl]; split <;> omega
    · rw [if_neg e]
      split
      · rename_i e2
        rw [if_pos ⟨e2.2, e2.2⟩]; omega
      · split <;> omega
  · rcases Nat.lt_or_ge i n with h1 | h1
    · have h2 := h.c1 i h1
      rw [hth _ _ (h.th0 i h1)]
      split <;> omega
    · obtain rfl : i = n := by omega
      rw [hthr, hth _ _ ht0, if_pos ⟨rfl, rfl⟩]; omega
  · rcases Nat.lt_or_ge i n with h1 | h1
    · exact h.th0 i h1
    · obtain rfl : i = n := by omega
      rw [hthr]; exact ht0
/-- The thread starts another one, of which nothing is known. -/
theorem Cor.fork (h : Cor n K V c thr al run) {t o : Int} (ht : run t) (hthr : thr n = t) (hc : c n = V (eT t) t) (ho0 : 0 ≤ o) (hot : o ≠ t) (hoV : ∀ u, 0 ≤ u → V (eT o) u = 0) (hoK : ∀ i, i < n → ¬ K (eT o) i) (hoi : ∀ i, i < n → thr i ≠ o)
    (hal : ∀ X, al' X → al X) (hrun : ∀ u, run' u → run u ∨ u = o)
    (hK : ∀ X i, i < n → (K' X i ↔ K X i ∨ (X = eT o ∧ K (eT t) i))) (hKn : ∀ X, K' X n ↔ X = eT t ∨ X = eT o) (hat : al (eT t))
    (hV : ∀ X u, 0 ≤ u → V' X u = if X = eT o then (if u = o then 1 else V (eT t) u) else if X = eT t ∧ u = t then V X u + 1 else V X u) (hV0 : ∀ X u, 0 ≤ V' X u) : Cor (n + 1) K' V' c thr al' run' := by
  have ht0 := h.run0 t ht
  have hpos := h.pos ht
  have hz : ∀ X, V X o = 0 := fun X => by have h1 := h.ownX X o ho0; rw [hoV o ho0] at h1; have := h.nn X o; omega
  have hnr : ¬ run o := fun hr => by have := h.pos hr; rw [hoV o ho0] at this; omega
  have hth : ∀ u, 0 ≤ u → V' (eT u) u = if u = o then 1 else if u = t then V (eT u) u + 1 else V (eT u) u := fun u hu => by
    rw [hV _ u hu]
    by_cases e : u = o
    · subst e; simp
    · rw [if_neg (fun h => e (th_inj.1 h)), if_neg e]
      by_cases e2 : u = t
      · subst e2; simp
      · rw [if_neg (fun h => e2 h.2), if_neg e2]
  refine ⟨fun X i hi ha => ?_, fun X u hu hX => ?_, fun X u hu => ?_, fun i hi => ?_, hV0, fun i hi => ?_, fun u hu => ?_⟩
  · rcases Nat.lt_or_ge i n with h1 | h1
    · rw [hK X i h1, hV X _ (h.th0 i h1)]
      by_cases e : X = eT o
      · subst e
        rw [if_pos rfl, if_neg (hoi i h1)]
        have h2 := h.k (eT t) i h1 hat
        simp only [true_and]
        rw [h2]
        exact ⟨fun h => h.resolve_left (hoK i h1), .inr⟩
      · rw [if_neg e]
        have h2 := h.k X i h1 (hal X ha)
        simp only [e, false_and, or_false]
        rw [h2]
        split
        · rename_i e2
          obtain ⟨rfl, e3⟩ := e2
          have h3 := (h.c1 i h1).2
          rw [e3] at h3 ⊢; omega
        · exact Iff.rfl
    · obtain rfl : i = n := by omega
      rw [hKn, hthr, hV X t ht0]
      by_cases e : X = eT o
      · subst e; rw [if_pos rfl, if_neg (Ne.symm hot)]; simp; omega
      · rw [if_neg e]
        by_cases e2 : X = eT t
        · subst e2; simp; omega
        · rw [if_neg (fun h => e2 h.1)]
          have := h.own X t ht e2
          simp [e, e2]; omega
  · rcases hrun u hu with h1 | h1
    · have h0 := h.run0 u h1
      have hu2 : u ≠ o := fun e => hnr (e ▸ h1)
      have h2 := h.own X u h1 hX
      rw [hth u h0, if_neg hu2, hV X u h0]
      by_cases e : X = eT o
      · subst e
        rw [if_pos rfl, if_neg hu2]
        split
        · rename_i e2; subst e2; omega
        · rename_i e2; exact h.own _ _ h1 (fun h => e2 (th_inj.1 h).symm)
      · rw [if_neg e, if_neg (fun h => hX (by rw [h.1, h.2]))]
        split <;> omega
    · subst h1
      rw [hth u ho0, if_pos rfl, hV X u ho0, if_neg hX, hz, if_neg (fun h => hot h.2)]; omega
  · have h2 := h.ownX X u hu
    rw [hth u hu, hV X u hu]
    by_cases e : u = o
    · subst e
      rw [if_pos rfl, if_pos rfl, hz]
      split
      · omega
      · rw [if_neg (fun h => hot h.2)]; omega
    · rw [if_neg e, if_neg e]
      by_cases e2 : X = eT o
      · rw [if_pos e2]
        have := h.ownX (eT t) u hu
        split <;> omega
      · rw [if_neg e2]
        split
        · rename_i e3; rw [if_pos e3.2]; omega
        · split <;> omega
  · rcases Nat.lt_or_ge i n with h1 | h1
    · have h2 := h.c1 i h1
      rw [hth _ (h.th0 i h1), if_neg (hoi i h1)]
      split <;> omega
    · obtain rfl : i = n := by omega
      rw [hthr, hth _ ht0, if_neg (Ne.symm hot), if_pos rfl]; omega
  · rcases Nat.lt_or_ge i n with h1 | h1
    · exact h.th0 i h1
    · obtain rfl : i = n := by omega
      rw [hthr]; exact ht0
  · rcases hrun u hu with h1 | h1
    · exact h.run0 u h1
    · omega
end
/-! ### Who happens before whom -/
abbrev Ev := Int × Int × Int
/-- Is there a step from event i to event j? (es: the events; R: the rounds of Arrives and Departs) -/
def ruleE (a b : Ev) (ra rb : Int) : Prop :=
  a.2.1 = b.2.1 ∨ (a.1 = 6 ∧ b.1 = 5 ∧ a.2.2 = b.2.2) ∨ (a.1 = 4 ∧ b.1 = 3 ∧ a.2.2 = b.2.2) ∨ (a.1 = 7 ∧ a.2.2 = b.2.1) ∨ (b.1 = 8 ∧ b.2.2 = a.2.1) ∨ (a.1 = 9 ∧ b.1 = 10 ∧ a.2.2 = b.2.2 ∧ ra = rb)
instance (a b : Ev) (ra rb : Int) : Decidable (ruleE a b ra rb) := by unfold ruleE; infer_instance
def edge (es : List Ev) (R : Nat → Int) (i j : Nat) : Prop := i < j ∧ ∃ a b, es[i]? = some a ∧ es[j]? = some b ∧ ruleE a b (R i) (R j)
inductive HB (es : List Ev) (R : Nat → Int) : Nat → Nat → Prop
  | one {i j : Nat} : edge es R i j → HB es R i j
  | more {i j k : Nat} : edge es R i j → HB es R j k → HB es R i k
section
variable {es : List Ev} {R : Nat → Int} {i j k n : Nat}
theorem HB.trans (h : HB es R i j) (h2 : HB es R j k) : HB es R i k := by
  induction h with
  | one h => exact .more h h2
  | more h _ ih => exact .more h (ih h2)
theorem HB.lt (h : HB es R i j) : i < j := by
  induction h with
  | one h => exact h.1
  | more h _ ih => exact Nat.lt_trans h.1 ih
theorem HB.last : HB es R i n ↔ ∃ j, edge es R j n ∧ (i = j ∨ HB es R i j) := by
  constructor
  · intro h
    induction h with
    | one h => exact ⟨_, h, .inl rfl⟩
    | more h _ ih =>
      obtain ⟨j, h1, h2⟩ := ih
      refine ⟨j, h1, .inr ?_⟩
      rcases h2 with rfl | h2
      · exact .one h
      · exact .more h h2
  · rintro ⟨j, h1, rfl | h2⟩
    · exact .one h1
    · exact h2.trans (.one h1)
theorem HB.first : HB es R i n ↔ ∃ j, edge es R i j ∧ (j = n ∨ HB es R j n) := by
  constructor
  · intro h
    cases h with
    | one h => exact ⟨_, h, .inl rfl⟩
    | more h h2 => exact ⟨_, h, .inr h2⟩
  · rintro ⟨j, h1, rfl | h2⟩
    · exact .one h1
    · exact .more h1 h2
theorem HB.bound (h : HB es R i j) : i < es.length ∧ j < es.length := by
  induction h with
  | one h => obtain ⟨_, a, b, h1, h2, _⟩ := h; exact ⟨(List.getElem?_eq_some_iff.1 h1).1, (List.getElem?_eq_some_iff.1 h2).1⟩
  | more h _ ih => obtain ⟨_, a, b, h1, h2, _⟩ := h; exact ⟨(List.getElem?_eq_some_iff.1 h1).1, ih.2⟩
/-- Does X learn of an event? -/
def srcE (X : Ent) (e : Ev) (r : Int) : Prop := X = eT e.2.1 ∨ (e.1 = 7 ∧ X = eT e.2.2) ∨ (e.1 = 6 ∧ X = eL e.2.2) ∨ (e.1 = 4 ∧ X = eV e.2.2) ∨ (e.1 = 9 ∧ X = eR (e.2.2, r))
def Src (es : List Ev) (R : Nat → Int) (n : Nat) (X : Ent) (j : Nat) : Prop := j < n ∧ ∃ e, es[j]? = some e ∧ srcE X e (R j)
/-- Is event i known to X behind n events? -/
def Kno (es : List Ev) (R : Nat → Int) (n : Nat) (X : Ent) (i : Nat) : Prop := ∃ j, Src es R n X j ∧ (i = j ∨ HB es R i j)
theorem Kno.lt {X : Ent} (h : Kno es R n X i) : i < n := by
  obtain ⟨j, h1, rfl | h2⟩ := h
  · exact h1.1
  · exact Nat.lt_trans h2.lt h1.1
theorem Kno.mono {X : Ent} {m : Nat} (h : Kno es R n X i) (hm : n ≤ m) : Kno es R m X i := by
  obtain ⟨j, ⟨h1, h3⟩, h2⟩ := h
  exact ⟨j, ⟨by omega, h3⟩, h2⟩
theorem Src.next {X : Ent} {e : Ev} (he : es[n]? = some e) : Src es R (n + 1) X j ↔ Src es R n X j ∨ (j = n ∧ srcE X e (R n)) := by
  unfold Src
  constructor
  · rintro ⟨h1, a, h2, h3⟩
    by_cases h : j = n
    · subst h; rw [he] at h2; cases h2; exact .inr ⟨rfl, h3⟩
    · exact .inl ⟨by omega, a, h2, h3⟩
  · rintro (⟨h1, h2⟩ | ⟨rfl, h2⟩)
    · exact ⟨by omega, h2⟩
    · exact ⟨by omega, e, he, h2⟩
theorem Kno.next {X : Ent} {e : Ev} (he : es[n]? = some e) (hi : i < n) : Kno es R (n + 1) X i ↔ Kno es R n X i ∨ (srcE X e (R n) ∧ HB es R i n) := by
  unfold Kno
  constructor
  · rintro ⟨j, h1, h2⟩
    rcases (Src.next he).1 h1 with h1 | ⟨rfl, h1⟩
    · exact .inl ⟨j, h1, h2⟩
    · exact .inr ⟨h1, h2.resolve_left (by omega)⟩
  · rintro (⟨j, h1, h2⟩ | ⟨h1, h2⟩)
    · exact ⟨j, (Src.next he).2 (.inl h1), h2⟩
    · exact ⟨n, (Src.next he).2 (.inr ⟨rfl, h1⟩), .inr h2⟩
theorem Kno.nextn {X : Ent} {e : Ev} (he : es[n]? = some e) : Kno es R (n + 1) X n ↔ srcE X e (R n) := by
  unfold Kno
  constructor
  · rintro ⟨j, h1, h2⟩
    rcases (Src.next he).1 h1 with h1 | ⟨rfl, h1⟩
    · rcases h2 with rfl | h2
      · exact absurd h1.1 (Nat.lt_irrefl _)
      · have := h2.lt; have := h1.1; omega
    · exact h1
  · intro h1; exact ⟨n, (Src.next he).2 (.inr ⟨rfl, h1⟩), .inl rfl⟩
/-- What is ahead of an event: what its thread knows, and what it takes in. -/
theorem HB.at {e : Ev} (he : es[n]? = some e) (hn : n < es.length) : HB es R i n ↔ Kno es R n (eT e.2.1) i ∨ (e.1 = 5 ∧ Kno es R n (eL e.2.2) i) ∨ (e.1 = 3 ∧ Kno es R n (eV e.2.2) i) ∨
    (e.1 = 8 ∧ ∃ j a, j < n ∧ es[j]? = some a ∧ a.2.1 = e.2.2 ∧ (i = j ∨ HB es R i j)) ∨ (e.1 = 10 ∧ Kno es R n (eR (e.2.2, R n)) i) := by
  rw [HB.last]
  constructor
  · rintro ⟨j, ⟨hj, a, b, ha, hb, hr⟩, h⟩
    rw [he] at hb; cases hb
    rcases hr with h1 | ⟨h1, h2, h3⟩ | ⟨h1, h2, h3⟩ | ⟨h1, h2⟩ | ⟨h1, h2⟩ | ⟨h1, h2, h3, h4⟩
    · exact .inl ⟨j, ⟨hj, a, ha, .inl (by rw [h1])⟩, h⟩
    · exact .inr (.inl ⟨h2, j, ⟨hj, a, ha, .inr (.inr (.inl ⟨h1, by rw [h3]⟩))⟩, h⟩)
    · exact .inr (.inr (.inl ⟨h2, j, ⟨hj, a, ha, .inr (.inr (.inr (.inl ⟨h1, by rw [h3]⟩)))⟩, h⟩))
    · exact .inl ⟨j, ⟨hj, a, ha, .inr (.inl ⟨h1, by rw [h2]⟩)⟩, h⟩
    · exact .inr (.inr (.inr (.inl ⟨h1, j, a, hj, ha, h2.symm, h⟩)))
    · exact .inr (.inr (.inr (.inr ⟨h2, j, ⟨hj, a, ha, .inr (.inr (.inr (.inr ⟨h1, by rw [h3, h4]⟩)))⟩, h⟩)))
  · rintro (⟨j, ⟨hj, a, ha, hs⟩, h⟩ | ⟨k5, j, ⟨hj, a, ha, hs⟩, h⟩ | ⟨k3, j, ⟨hj, a, ha, hs⟩, h⟩ | ⟨k8, j, a, hj, ha, hs, h⟩ | ⟨k10, j, ⟨hj, a, ha, hs⟩, h⟩)
    · refine ⟨j, ⟨hj, a, e, ha, he, ?_⟩, h⟩
      rcases hs with hs | ⟨h1, hs⟩ | ⟨_, hs⟩ | ⟨_, hs⟩ | ⟨_, hs⟩
      · exact .inl (th_inj.1 hs).symm
      · exact .inr (.inr (.inr (.inl ⟨h1, (th_inj.1 hs).symm⟩)))
      all_goals simp [eT] at hs
    · refine ⟨j, ⟨hj, a, e, ha, he, ?_⟩, h⟩
      rcases hs with hs | ⟨_, hs⟩ | ⟨h1, hs⟩ | ⟨_, hs⟩ | ⟨_, hs⟩
      · simp at hs
      · simp at hs
      · exact .inr (.inl ⟨h1, k5, by simpa using hs.symm⟩)
      all_goals simp at hs
    · refine ⟨j, ⟨hj, a, e, ha, he, ?_⟩, h⟩
      rcases hs with hs | ⟨_, hs⟩ | ⟨_, hs⟩ | ⟨h1, hs⟩ | ⟨_, hs⟩
      · simp at hs
      · simp at hs
      · simp at hs
      · exact .inr (.inr (.inl ⟨h1, k3, by simpa using hs.symm⟩))
      · simp at hs
    · exact ⟨j, ⟨hj, a, e, ha, he, .inr (.inr (.inr (.inr (.inl ⟨k8, hs.symm⟩))))⟩, h⟩
    · refine ⟨j, ⟨hj, a, e, ha, he, ?_⟩, h⟩
      rcases hs with hs | ⟨_, hs⟩ | ⟨_, hs⟩ | ⟨_, hs⟩ | ⟨h1, hs⟩
      · simp at hs
      · simp at hs
      · simp at hs
      · simp at hs
      · simp at hs
        exact .inr (.inr (.inr (.inr (.inr ⟨h1, k10, hs.1.symm, hs.2.symm⟩))))
end
end Go.Ab.Ord
set_option linter.unusedVariables false
set_option linter.unusedSimpArgs false
set_option maxRecDepth 100000
namespace Go.Ab.Dj
open Go Go.Proofs Go.Ab Go.Ab.Fe Go.Ab.Vc Go.Ab.Ord
/-- The vector of X. -/
def ve (x : VS) (X : Ent) : List Int :=
  if X = eT X.2.1 then thF x X.2.1 else if X = eL X.2.1 then (x.lk X.2.1).getD [] else if X = eV X.2.1 then (x.vo X.2.1).getD [] else if X.1 = 3 then (rdF x X.2).1 else []
theorem ve_th (x : VS) (t : Int) : ve x (eT t) = thF x t := if_pos rfl
theorem ve_lk (x : VS) (o : Int) : ve x (eL o) = (x.lk o).getD [] := by rw [ve, if_neg (by simp), if_pos rfl]
theorem ve_vo (x : VS) (o : Int) : ve x (eV o) = (x.vo o).getD [] := by rw [ve, if_neg (by simp), if_neg (by simp), if_pos rfl]
theorem ve_rd (x : VS) (r : Int × Int) : ve x (eR r) = (rdF x r).1 := by rw [ve, if_neg (by simp), if_neg (by simp), if_neg (by simp), if_pos rfl]
def VV (x : VS) (X : Ent) (u : Int) : Int := (ve x X).getD u.toNat 0
def runV (x : VS) (u : Int) : Prop := (stF x.ck u).1 = 1 ∨ (stF x.ck u).1 = 2
def alV (es : List Ev) (R : Nat → Int) (n : Nat) (x : VS) (X : Ent) : Prop := X.1 = 3 → (x.rd X.2).isSome = true ∨ ∀ j, ¬ Src es R n X j
def thrE (es : List Ev) (i : Nat) : Int := ((es[i]?).map (·.2.1)).getD 0
theorem thrE_at {es : List Ev} {i : Nat} {e : Ev} (h : es[i]? = some e) : thrE es i = e.2.1 := by simp [thrE, h]
theorem rdc' {x : VS} (hx : VInv x) (r : Int × Int) : CV (rdF x r).1 := by
  unfold rdF
  cases h : x.rd r with
  | none => exact Vc.nil_cv
  | some p => exact hx.rdc _ _ h
theorem opt_cv {m : Option (List Int)} (h : ∀ q, m = some q → CV q) : CV (m.getD []) := by
  cases m with
  | none => exact Vc.nil_cv
  | some q => exact h q rfl
theorem ve_cv {x : VS} (hx : VInv x) (X : Ent) : CV (ve x X) := by
  unfold ve
  split
  · exact opt_cv (hx.thc _)
  split
  · exact opt_cv (hx.lkc _)
  split
  · exact opt_cv (hx.voc _)
  split
  · exact rdc' hx _
  exact Vc.nil_cv
theorem cv_nn' {l : List Int} (h : CV l) (i : Nat) : 0 ≤ l.getD i 0 := (g_rng h.rng (by decide) i).1
theorem VV_nn {x : VS} (hx : VInv x) (X : Ent) (u : Int) : 0 ≤ VV x X u := cv_nn' (ve_cv hx X) _
theorem mg_g {m : Option (List Int)} {l : List Int} (hl : CV l) (h : ∀ q, m = some q → CV q) (i : Nat) : (mgF m l).getD i 0 = max (l.getD i 0) ((m.getD []).getD i 0) := by
  cases m with
  | none =>
    have := cv_nn' hl i
    show l.getD i 0 = max (l.getD i 0) (([] : List Int).getD i 0)
    simp only [List.getD_nil]; omega
  | some q => show (jn l q).getD i 0 = _; rw [jn_g hl (h q rfl)]; rfl
/-- What stands behind n events of a list that can be. -/
structure HInv (es : List Ev) (R : Nat → Int) (c : Nat → Int) (n : Nat) (x : VS) : Prop where
  inv : VInv x
  cor : Cor n (Kno es R n) (VV x) c (thrE es) (alV es R n x) (runV x)
  st : ∀ i e, i < n → es[i]? = some e → (stF x.ck e.2.1).1 ≠ 0 ∧ (e.1 = 7 → (stF x.ck e.2.2).1 ≠ 0)
  held : ∀ o t, owF x.ck o = some t → ∀ i, Kno es R n (eL o) i → Kno es R n (eT t) i
  rnd : ∀ j e, j < n → es[j]? = some e → e.1 = 9 → 0 ≤ e.2.2 ∧ R j ≤ (opF x.ck e.2.2).1 ∧ (R j = (opF x.ck e.2.2).1 → (x.rd (e.2.2, R j)).isSome = true)
  ar : ∀ r, (x.rd r).isSome = true → ∃ j, Src es R n (eR r) j
  ex : ∀ u, (stF x.ck u).1 = 3 → ∃ j e, j < n ∧ es[j]? = some e ∧ e.2.1 = u ∧ e.1 = 11
  fk : ∀ j0 j e0 e, j0 < n → j < n → es[j0]? = some e0 → e0.1 = 7 → es[j]? = some e → e.2.1 = e0.2.2 → j0 < j
/-- Nothing changes but what is told. -/
theorem ve_ext {x y : VS} {X : Ent} (h1 : ∀ t, X = eT t → thF y t = thF x t) (h2 : ∀ t, X = eL t → y.lk t = x.lk t) (h3 : ∀ t, X = eV t → y.vo t = x.vo t) (h4 : ∀ r, X = eR r → rdF y r = rdF x r) : ve y X = ve x X := by
  unfold ve
  split
  · rename_i h; exact h1 _ h
  split
  · rename_i h; rw [h2 _ h]
  split
  · rename_i h; rw [h3 _ h]
  split
  · rename_i h; rw [h4 X.2 (by rw [eR, ← h])]
  rfl
theorem thF_up {c : CS} {T : Int → Option (List Int)} {t u : Int} {L : List Int} {a b r} : thF ⟨c, upd T t (some L), a, b, r⟩ u = if u = t then L else (T u).getD [] := by
  show (upd T t (some L) u).getD [] = _
  unfold upd; split <;> rfl
section
variable {es : List Ev} {R : Nat → Int} {c : Nat → Int} {n : Nat} {x : VS} {e : Ev}
theorem alV_th (x : VS) (t : Int) : alV es R n x (eT t) := fun h => by simp at h
theorem alV_lk (x : VS) (t : Int) : alV es R n x (eL t) := fun h => by simp at h
theorem alV_vo (x : VS) (t : Int) : alV es R n x (eV t) := fun h => by simp at h
/-- What a step does to the checker's part. -/
theorem HInv.next (h : HInv es R c n x) (he : es[n]? = some e) (hc : vcanF x e.1 e.2.1 e.2.2) (hcn : c n = (thF x e.2.1).getD e.2.1.toNat 0)
    (h9 : e.1 = 9 → R n = (opF x.ck e.2.2).1) (h10 : e.1 = 10 → R n = (stF x.ck e.2.1).2.2) : HInv es R c (n + 1) (vnF x e.1 e.2.1 e.2.2) := by
  obtain ⟨k, t, o⟩ := e
  simp only at hc hcn h9 h10 ⊢
  have hx := h.inv
  have hcan := hc.1
  have hst0 := can_th hcan
  obtain ⟨l, hth⟩ := th_some hx hst0
  have hlc := hx.thc _ _ hth
  have hlt := thF_eq hth
  obtain ⟨t0, t1⟩ := th_rng hx hst0
  obtain ⟨o5, o7, o9, o10, o11⟩ := can_obj hx.ck hcan
  have hinv' := next_vinv hx hc
  have hthr : thrE es n = t := thrE_at he
  have hnl : n < es.length := (List.getElem?_eq_some_iff.1 he).1
  have hrunt : runV x t := by
    rcases hcan with ⟨h1, -⟩ | ⟨h1, -⟩
    · exact .inr h1
    · exact .inl h1
  have hVt : VV x (eT t) t = (thF x t).getD t.toNat 0 := by rw [VV, ve_th]
  have hcn' : c n = VV x (eT t) t := by rw [hVt]; exact hcn
  have hpres := pres hx.ck hcan
  obtain ⟨n5, n6, n7, n9, n10, n11, nn⟩ := nxF_k hcan
  have hnn : ∀ X u, 0 ≤ VV (vnF x k t o) X u := VV_nn hinv'
  have hck := vn_ck (x := x) (k := k) (t := t) (o := o)
  have hmono : ∀ {X i}, Kno es R n X i → Kno es R (n + 1) X i := fun h => h.mono (Nat.le_succ _)
  have hHB := fun i => HB.at (i := i) (R := R) he hnl
  simp only at hHB
  -- how the threads stand
  have hstF : ∀ u, (stF (nxF x.ck k t o) u).1 = if k = 7 ∧ u = o then 1 else if k = 9 ∧ u = t then 2 else if k = 10 ∧ u = t then 1 else if k = 11 ∧ u = t then 3 else (stF x.ck u).1 := fun u => by
    obtain ⟨s0, s1, s2⟩ := stF_nz hst0
    by_cases k7 : k = 7
    · obtain ⟨p0, p1, p2⟩ := o7 k7
      rw [n7 k7, stF_set p0 p1 rfl]
      by_cases e : u = o
      · simp [k7, e]
      · simp [k7, e]
    by_cases k9 : k = 9
    · rw [n9 k9, stF_set s0 s1 rfl]
      by_cases e : u = t
      · simp [k9, e]
      · simp [k9, e]
    by_cases k10 : k = 10
    · rw [n10 k10, stF_set s0 s1 rfl]
      by_cases e : u = t
      · simp [k10, e]
      · simp [k10, e]
    by_cases k11 : k = 11
    · rw [n11 k11, stF_set s0 s1 rfl]
      by_cases e : u = t
      · simp [k11, e]
      · simp [k11, e]
    simp only [k7, k9, k10, k11, false_and, if_false]
    by_cases k5 : k = 5
    · rw [n5 k5]; rfl
    by_cases k6 : k = 6
    · rw [n6 k6]; rfl
    rw [nn k5 k6 k7 k9 k10 k11]; rfl
  have hrun : ∀ u, runV (vnF x k t o) u → runV x u ∨ (k = 7 ∧ u = o) := fun u hu => by
    unfold runV at hu ⊢
    rw [hck, hstF] at hu
    by_cases e7 : k = 7 ∧ u = o
    · exact .inr e7
    rw [if_neg e7] at hu
    by_cases e9 : k = 9 ∧ u = t
    · rw [e9.2]; exact .inl hrunt
    rw [if_neg e9] at hu
    by_cases e10 : k = 10 ∧ u = t
    · rw [e10.2]; exact .inl hrunt
    rw [if_neg e10] at hu
    by_cases e11 : k = 11 ∧ u = t
    · rw [if_pos e11] at hu; omega
    rw [if_neg e11] at hu
    exact .inl hu
  have hsrc_rd : ∀ {r : Int × Int}, srcE (eR r) (k, t, o) (R n) ↔ k = 9 ∧ r = (o, R n) := fun {r} => by simp [srcE]
  have hal_rd : ∀ {X : Ent}, (X.1 = 3 → (vnF x k t o).rd X.2 = x.rd X.2) → alV es R (n + 1) (vnF x k t o) X → alV es R n x X := fun hE ha h3 => by
    rcases ha h3 with h1 | h1
    · rw [hE h3] at h1; exact .inl h1
    · exact .inr fun j hj => h1 j ((Src.next he).2 (.inl hj))
  refine ⟨hinv', ?_, fun i a hi ha => ?_, fun o' t' ho i hk => ?_, fun j a hj ha k9' => ?_, fun r hr => ?_, fun u hu => ?_, fun j0 j a0 a hj0 hj ha0 k7' ha hta => ?_⟩
  · -- the clocks
    have hl0 : ∀ u : Int, VV x (eT t) u = l.getD u.toNat 0 := fun u => by rw [VV, ve_th, hlt]
    have gat : ∀ (G : Ent) (L : List Int) (y : VS), vnF x k t o = y → alV es R n x G → (∀ u, runV x u → VV x G u < VV x (eT u) u ∨ VV x G u ≤ 0 ∨ ¬ runV y u) → (∀ i, i < n → (HB es R i n ↔ Kno es R n (eT t) i ∨ Kno es R n G i)) → (k ≠ 6 ∧ k ≠ 4 ∧ k ≠ 9 ∧ k ≠ 7) →
        thF y t = L → (∀ i, L.getD i 0 = max (l.getD i 0) ((ve x G).getD i 0)) → (∀ u, u ≠ t → thF y u = thF x u) → y.lk = x.lk → y.vo = x.vo → (∀ r, (y.rd r).isSome = true → (x.rd r).isSome = true) → (∀ r, rdF y r = rdF x r ∨ ((x.rd r).isSome = true ∧ y.rd r = none)  ∨ (rdF y r).1 = (rdF x r).1) →
        Cor (n + 1) (Kno es R (n + 1)) (VV (vnF x k t o)) c (thrE es) (alV es R (n + 1) (vnF x k t o)) (runV (vnF x k t o)) := by
      intro G L y hy hG hGo hGK hk hyt hL hyu hyl hyv hys hyr
      have hno : ∀ X, srcE X (k, t, o) (R n) ↔ X = eT t := fun X => by
        unfold srcE
        simp only
        constructor
        · rintro (h | ⟨h, -⟩ | ⟨h, -⟩ | ⟨h, -⟩ | ⟨h, -⟩)
          · exact h
          all_goals omega
        · exact .inl
      have hEq : ∀ X, X ≠ eT t → (∀ r, X = eR r → (rdF y r).1 = (rdF x r).1) → ve y X = ve x X := fun X hX hr => by
        unfold ve
        split
        · rename_i h; exact hyu _ (fun e => hX (by rw [h, e]))
        split
        · rw [hyl]
        split
        · rw [hyv]
        split
        · rename_i h; exact hr X.2 (by rw [eR, ← h])
        rfl
      refine h.cor.gather hrunt hthr hcn' (Kno es R n G) (VV x G) (fun i hi => h.cor.k G i hi hG) (fun u hu => ?_) (fun u hu => h.cor.ownX G u hu) (alV_th x t) (fun u => alV_th _ u) (fun X ha => ?_) (fun u hu => (hrun u hu).resolve_right (fun h => hk.2.2.2 h.1)) (fun X i hi => ?_) (fun X => ?_) (fun u hu => ?_) (fun X u hu hX => ?_) hnn
      · rcases hGo u ((hrun u hu).resolve_right (fun h => hk.2.2.2 h.1)) with h1 | h1 | h1
        · exact .inl h1
        · exact .inr h1
        · rw [hy] at hu; exact absurd hu h1
      · intro h3
        rcases ha h3 with h1 | h1
        · rw [hy] at h1; exact .inl (hys _ h1)
        · exact .inr fun j hj => h1 j ((Src.next he).2 (.inl hj))
      · rw [Kno.next he hi, hno, hGK i hi]
        constructor
        · rintro (h1 | ⟨h1, h2 | h2⟩)
          · exact .inl h1
          · rw [h1]; exact .inl h2
          · exact .inr ⟨h1, h2⟩
        · rintro (h1 | ⟨h1, h2⟩)
          · exact .inl h1
          · exact .inr ⟨h1, .inr h2⟩
      · rw [Kno.nextn he, hno]
      · rw [VV, ve_th, hy, hyt, hL, hl0]; rfl
      · rw [hy]
        by_cases hr : ∀ r, X = eR r → (rdF y r).1 = (rdF x r).1
        · have := hEq X hX hr
          unfold VV; rw [this]; exact ⟨Int.le_refl _, fun _ => rfl⟩
        · obtain ⟨r, hr⟩ := Classical.not_forall.1 hr
          obtain ⟨hXr, hr⟩ := Classical.not_imp.1 hr
          subst hXr
          rcases hyr r with h1 | ⟨h1, h2⟩ | h1
          · exact absurd (fun _ => by rw [h1]) hr
          · have hz : VV y (eR r) u = 0 := by rw [VV, ve_rd, rdF, h2]; simp
            rw [hz]
            refine ⟨VV_nn hx _ _, fun ha => ?_⟩
            rcases ha rfl with h3 | h3
            · rw [show (eR r).2 = r from rfl, h2] at h3; cases h3
            · obtain ⟨j, hj⟩ := h.ar r h1
              exact absurd ((Src.next he).2 (.inl hj)) (h3 j)
          · exact absurd (fun _ => h1) hr
    have hjl : ∀ {q : List Int}, CV q → ∀ i, (jn l q).getD i 0 = max (l.getD i 0) (q.getD i 0) := fun hq i => jn_g hlc hq i
    -- what is taken in by nobody
    have hnone : ∀ i, i < n → ¬ Kno es R n ((4, 0, 0) : Ent) i := fun i _ h => by
      obtain ⟨j, ⟨_, a, _, hs⟩, _⟩ := h
      unfold srcE at hs; simp at hs
    have hve0 : ve x ((4, 0, 0) : Ent) = [] := by
      rw [ve, if_neg (by simp), if_neg (by simp), if_neg (by simp), if_neg (by simp)]
    by_cases k5 : k = 5
    · refine gat (eL o) (mgF (x.lk o) l) _ (vn5 hth k5) (alV_lk x o) (fun u hu => .inl (h.cor.own _ u hu (by simp))) (fun i hi => ?_) (by omega) (by rw [thF_up, if_pos rfl]) (fun i => by rw [ve_lk]; exact mg_g hlc (hx.lkc _) i) (fun u hu => by rw [thF_up, if_neg hu]; rfl) rfl rfl (fun _ h => h) (fun _ => .inl rfl)
      rw [hHB]
      constructor
      · rintro (h1 | ⟨_, h1⟩ | ⟨h1, _⟩ | ⟨h1, _⟩ | ⟨h1, _⟩)
        · exact .inl h1
        · exact .inr h1
        all_goals omega
      · rintro (h1 | h1)
        · exact .inl h1
        · exact .inr (.inl ⟨k5, h1⟩)
    by_cases k3 : k = 3
    · refine gat (eV o) (mgF (x.vo o) l) _ (vn3 hth k3) (alV_vo x o) (fun u hu => .inl (h.cor.own _ u hu (by simp))) (fun i hi => ?_) (by omega) (by rw [thF_up, if_pos rfl]) (fun i => by rw [ve_vo]; exact mg_g hlc (hx.voc _) i) (fun u hu => by rw [thF_up, if_neg hu]; rfl) rfl rfl (fun _ h => h) (fun _ => .inl rfl)
      rw [hHB]
      constructor
      · rintro (h1 | ⟨h1, _⟩ | ⟨_, h1⟩ | ⟨h1, _⟩ | ⟨h1, _⟩)
        · exact .inl h1
        · omega
        · exact .inr h1
        all_goals omega
      · rintro (h1 | h1)
        · exact .inl h1
        · exact .inr (.inr (.inl ⟨k3, h1⟩))
    by_cases k8 : k = 8
    · have ho3 : (stF x.ck o).1 = 3 := by
        rcases hcan with ⟨h1, h2, -⟩ | ⟨h1, -, h2⟩
        · omega
        · unfold okK at h2
          rcases h2 with h2 | h2 | h2 | h2 | h2 | h2 | h2 | h2 <;> omega
      refine gat (eT o) (mgF (x.th o) l) _ (vn8 hth k8) (alV_th x o) (fun u hu => ?_) (fun i hi => ?_) (by omega) (by rw [thF_up, if_pos rfl]) (fun i => by rw [ve_th]; exact mg_g hlc (hx.thc _) i) (fun u hu => by rw [thF_up, if_neg hu]; rfl) rfl rfl (fun _ h => h) (fun _ => .inl rfl)
      · refine .inl (h.cor.own _ u hu (fun e => ?_))
        rw [th_inj] at e; subst e
        unfold runV at hu; omega
      · rw [hHB]
        constructor
        · rintro (h1 | ⟨h1, _⟩ | ⟨h1, _⟩ | ⟨_, j, a, h1, h2, h3, h4⟩ | ⟨h1, _⟩)
          · exact .inl h1
          · omega
          · omega
          · exact .inr ⟨j, ⟨h1, a, h2, .inl (by rw [h3])⟩, h4⟩
          · omega
        · rintro (h1 | ⟨j, ⟨hj, a, ha, hs⟩, h4⟩)
          · exact .inl h1
          · refine .inr (.inr (.inr (.inl ⟨k8, ?_⟩)))
            rcases hs with hs | ⟨h7, hs⟩ | ⟨_, hs⟩ | ⟨_, hs⟩ | ⟨_, hs⟩
            · exact ⟨j, a, hj, ha, (th_inj.1 hs).symm, h4⟩
            · obtain ⟨j2, a2, hj2, ha2, ht2, -⟩ := h.ex o ho3
              have hlt := h.fk j j2 a a2 hj hj2 ha h7 ha2 (by rw [ht2]; exact th_inj.1 hs)
              have hE : edge es R j j2 := ⟨hlt, a, a2, ha, ha2, .inr (.inr (.inr (.inl ⟨h7, by rw [ht2]; exact (th_inj.1 hs).symm⟩)))⟩
              refine ⟨j2, a2, hj2, ha2, ht2, .inr ?_⟩
              rcases h4 with rfl | h4
              · exact .one hE
              · exact h4.trans (.one hE)
            all_goals simp at hs
    by_cases k10 : k = 10
    · obtain ⟨q1, q2, q3⟩ := o10 k10
      obtain ⟨p, hp, -⟩ := rd_some hx q1 q3
      have hRn := h10 k10
      have hrK : rdK x t o = (o, R n) := by rw [rdK, hRn]
      have hpr : x.rd (o, R n) = some p := by rw [hRn]; exact hp
      have hrf : rdF x (o, R n) = p := by rw [rdF, hpr]; rfl
      have hne : ∀ y : List Int, vnF x k t o = _ := fun _ => vn10 hth k10
      refine gat (eR (o, R n)) (jn l p.1) _ (vn10 hth k10) (fun _ => .inl (by rw [show (eR (o, R n)).2 = (o, R n) from rfl, hpr]; rfl)) (fun u hu => .inl (h.cor.own _ u hu (by simp))) (fun i hi => ?_) (by omega) ?_ (fun i => by rw [ve_rd, hrf]; exact hjl (hx.rdc _ _ hpr) i) (fun u hu => ?_) rfl rfl (fun r hr => ?_) (fun r => ?_)
      · rw [hHB]
        constructor
        · rintro (h1 | ⟨h1, _⟩ | ⟨h1, _⟩ | ⟨h1, _⟩ | ⟨_, h1⟩)
          · exact .inl h1
          · omega
          · omega
          · omega
          · exact .inr h1
        · rintro (h1 | h1)
          · exact .inl h1
          · exact .inr (.inr (.inr (.inr ⟨k10, h1⟩)))
      · show (upd x.th t _ t).getD [] = _
        rw [upd_same, ← hRn, hrf, hlt]; rfl
      · show (upd x.th t _ u).getD [] = _
        rw [upd_ne hu]; rfl
      · rw [show (⟨nxF x.ck k t o, (dpF x t o).th, (dpF x t o).lk, (dpF x t o).vo, (dpF x t o).rd⟩ : VS).rd r = (dpF x t o).rd r from rfl, dpF] at hr
        by_cases e : r = (o, (stF x.ck t).2.2)
        · rw [e, hp]; rfl
        · simp only [upd_ne e] at hr; exact hr
      · by_cases e : r = (o, (stF x.ck t).2.2)
        · subst e
          by_cases hz : (rdF x (o, (stF x.ck t).2.2)).2 - 1 ≤ 0
          · refine .inr (.inl ⟨by rw [hp]; rfl, ?_⟩)
            show (dpF x t o).rd _ = none
            rw [dpF]; simp only [upd_same, if_pos hz]
          · refine .inr (.inr ?_)
            show (((dpF x t o).rd _).getD ([], 0)).1 = _
            rw [dpF]; simp only [upd_same, if_neg hz, Option.getD_some]
        · refine .inl ?_
          show ((dpF x t o).rd _).getD ([], 0) = _
          rw [dpF]; simp only [upd_ne e]; rfl
    -- what hands on
    have rel : ∀ (P : Ent) (y : VS), vnF x k t o = y → (∀ u, P ≠ eT u) → (∀ X, srcE X (k, t, o) (R n) ↔ X = eT t ∨ X = P) → k ≠ 7 → (∀ i, i < n → (HB es R i n ↔ Kno es R n (eT t) i)) → (∀ i, i < n → (Kno es R n P i ∨ Kno es R n (eT t) i ↔ c i ≤ VV y P (thrE es i))) →
        VV y P t = VV x (eT t) t → (∀ u, runV x u → u ≠ t → VV y P u < VV x (eT u) u) → (∀ u, 0 ≤ u → VV y P u ≤ VV x (eT u) u) → thF y t = icL l t.toNat → (∀ u, u ≠ t → thF y u = thF x u) → (∀ X, X ≠ P → (∀ u, X ≠ eT u) → ve y X = ve x X) → (∀ r, P ≠ eR r → y.rd r = x.rd r) →
        Cor (n + 1) (Kno es R (n + 1)) (VV (vnF x k t o)) c (thrE es) (alV es R (n + 1) (vnF x k t o)) (runV (vnF x k t o)) := by
      intro P y hy hP hs hk7 hHBt hPK hPt hPo hPX hyt hyu hyX hyr
      refine h.cor.release hrunt hthr hcn' P hP (VV y P) hPK hPt hPo hPX (alV_th x t) (fun X hX ha => ?_) (fun u hu => (hrun u hu).resolve_right (fun h => hk7 h.1)) (fun X i hi => ?_) (fun X => ?_) (fun X u hu => ?_) hnn
      · refine hal_rd (fun h3 => ?_) ha
        rw [hy]
        exact hyr X.2 (fun e => hX (by rw [e, eR, ← h3]))
      · rw [Kno.next he hi, hs, hHBt i hi]
        constructor
        · rintro (h1 | ⟨rfl | h1, h2⟩)
          · exact .inl h1
          · exact .inl h2
          · exact .inr ⟨h1, h2⟩
        · rintro (h1 | ⟨h1, h2⟩)
          · exact .inl h1
          · exact .inr ⟨.inr h1, h2⟩
      · rw [Kno.nextn he, hs]
      · rw [hy]
        by_cases e : X = P
        · rw [if_pos e, e]
        · rw [if_neg e]
          by_cases e2 : ∃ w, X = eT w
          · obtain ⟨w, rfl⟩ := e2
            by_cases e3 : w = t
            · subst e3
              have h1 : VV y (eT w) u = (icL l w.toNat).getD u.toNat 0 := by rw [VV, ve_th, hyt]
              rw [h1, icL_g]
              by_cases e4 : u = w
              · subst e4; rw [if_pos rfl, if_pos ⟨rfl, rfl⟩, hl0]
              · rw [if_neg (by omega), if_neg (fun h => e4 h.2), hl0]
            · rw [if_neg (fun h => e3 (th_inj.1 h.1))]
              rw [VV, ve_th, hyu w e3, VV, ve_th]
          · rw [if_neg (fun h => e2 ⟨t, h.1⟩)]
            rw [VV, hyX X e (fun u h => e2 ⟨u, h⟩)]; rfl
    have hHBt : k ≠ 5 → k ≠ 3 → k ≠ 8 → k ≠ 10 → ∀ i, i < n → (HB es R i n ↔ Kno es R n (eT t) i) := fun k5 k3 k8 k10 i hi => by
      rw [hHB]
      constructor
      · rintro (h1 | ⟨h1, _⟩ | ⟨h1, _⟩ | ⟨h1, _⟩ | ⟨h1, _⟩)
        · exact h1
        all_goals omega
      · exact .inl
    have hKt : ∀ i, i < n → (Kno es R n (eT t) i ↔ c i ≤ l.getD (thrE es i).toNat 0) := fun i hi => by
      rw [h.cor.k (eT t) i hi (alV_th x t), hl0]
    have hown : ∀ u, runV x u → u ≠ t → l.getD u.toNat 0 < VV x (eT u) u := fun u hu hne => by
      have := h.cor.own (eT t) u hu (fun e => hne (th_inj.1 e).symm)
      rw [hl0] at this; exact this
    have hownX : ∀ u, 0 ≤ u → l.getD u.toNat 0 ≤ VV x (eT u) u := fun u hu => by
      have := h.cor.ownX (eT t) u hu
      rw [hl0] at this; exact this
    by_cases k6 : k = 6
    · have how : owF x.ck o = some t := by
        rcases hcan with ⟨h1, h2, -⟩ | ⟨h1, -, h2⟩
        · omega
        · unfold okK at h2
          rcases h2 with h2 | h2 | h2 | ⟨h2, h3, h4⟩ | h2 | h2 | h2 | h2
          · omega
          · omega
          · omega
          · exact h4
          all_goals omega
      have hy := vn6 (x := x) (k := k) (t := t) (o := o) hth k6
      have hPv : ∀ u, VV (⟨nxF x.ck k t o, upd x.th t (some (icL l t.toNat)), upd x.lk o (some l), x.vo, x.rd⟩ : VS) (eL o) u = l.getD u.toNat 0 := fun u => by
        rw [VV, ve_lk]; show ((upd x.lk o (some l) o).getD []).getD _ 0 = _; rw [upd_same]; rfl
      refine rel (eL o) _ hy (fun u => by simp) (fun X => ?_) (by omega) (hHBt k5 k3 k8 k10) (fun i hi => ?_) (by rw [hPv, hl0]) (fun u hu hne => by rw [hPv]; exact hown u hu hne) (fun u hu => by rw [hPv]; exact hownX u hu) (by rw [thF_up, if_pos rfl]) (fun u hu => by rw [thF_up, if_neg hu]; rfl) (fun X hX hXt => ve_ext (fun u e => absurd e (hXt u)) (fun u e => upd_ne (fun e2 => hX (by rw [e, e2]))) (fun _ _ => rfl) (fun _ _ => rfl)) (fun _ _ => rfl)
      · unfold srcE; simp only [k6]; simp
      · rw [hPv, ← hKt i hi]
        exact ⟨fun h1 => h1.elim (fun h2 => h.held o t how i h2) id, .inr⟩
    by_cases k4 : k = 4
    · have hy := vn4 (x := x) (k := k) (t := t) (o := o) hth k4
      have hPv : ∀ u, VV (⟨nxF x.ck k t o, upd x.th t (some (icL l t.toNat)), x.lk, upd x.vo o (some (mgF (x.vo o) l)), x.rd⟩ : VS) (eV o) u = max (l.getD u.toNat 0) (VV x (eV o) u) := fun u => by
        rw [VV, ve_vo]; show ((upd x.vo o _ o).getD []).getD _ 0 = _; rw [upd_same, Option.getD_some, mg_g hlc (hx.voc _), VV, ve_vo]
      refine rel (eV o) _ hy (fun u => by simp) (fun X => ?_) (by omega) (hHBt k5 k3 k8 k10) (fun i hi => ?_) ?_ (fun u hu hne => ?_) (fun u hu => ?_) (by rw [thF_up, if_pos rfl]) (fun u hu => by rw [thF_up, if_neg hu]; rfl) (fun X hX hXt => ve_ext (fun u e => absurd e (hXt u)) (fun _ _ => rfl) (fun u e => upd_ne (fun e2 => hX (by rw [e, e2]))) (fun _ _ => rfl)) (fun _ _ => rfl)
      · unfold srcE; simp only [k4]; simp
      · rw [hPv, hKt i hi, h.cor.k (eV o) i hi (alV_vo x o)]; omega
      · have h1 := h.cor.ownX (eV o) t t0
        rw [hPv, ← hl0]; omega
      · have h1 := h.cor.own (eV o) u hu (by simp)
        have h2 := hown u hu hne
        rw [hPv]; omega
      · have h1 := h.cor.ownX (eV o) u hu
        have h2 := hownX u hu
        rw [hPv]; omega
    by_cases k9 : k = 9
    · have hy := vn9 (x := x) (k := k) (t := t) (o := o) hth k9
      have hRn := h9 k9
      rw [← hRn] at hy
      have hcvr : ∀ q, (x.rd (o, R n)).map (·.1) = some q → CV q := fun q hq => map_fst_cv hx hq
      have hgd : ((x.rd (o, R n)).map (·.1)).getD [] = (rdF x (o, R n)).1 := by rw [rdF]; cases x.rd (o, R n) <;> rfl
      have hPv : ∀ u, VV (⟨nxF x.ck k t o, upd x.th t (some (icL l t.toNat)), x.lk, x.vo, upd x.rd (o, R n) (some (mgF ((x.rd (o, R n)).map (·.1)) l, x.ck.pa.getD o.toNat 0))⟩ : VS) (eR (o, R n)) u = max (l.getD u.toNat 0) (VV x (eR (o, R n)) u) := fun u => by
        rw [VV, ve_rd, rdF]; show ((upd x.rd (o, R n) _ (o, R n)).getD ([], 0)).1.getD _ 0 = _; rw [upd_same, Option.getD_some, mg_g hlc hcvr, VV, ve_rd, hgd]
      have hal : alV es R n x (eR (o, R n)) := fun _ => by
        by_cases hs : ∀ j, ¬ Src es R n (eR (o, R n)) j
        · exact .inr hs
        · obtain ⟨j, hj⟩ := Classical.not_forall.1 hs
          obtain ⟨hj, a, ha, hsr⟩ := Classical.not_not.1 hj
          have h1 : a.1 = 9 ∧ o = a.2.2 ∧ R n = R j := by simpa [srcE] using hsr
          have h2 := h.rnd j a hj ha h1.1
          rw [← h1.2.1, ← h1.2.2, hRn] at h2
          rw [show (eR (o, R n)).2 = (o, R n) from rfl, hRn]
          exact .inl (h2.2.2 rfl)
      refine rel (eR (o, R n)) _ hy (fun u => by simp) (fun X => ?_) (by omega) (hHBt k5 k3 k8 k10) (fun i hi => ?_) ?_ (fun u hu hne => ?_) (fun u hu => ?_) (by rw [thF_up, if_pos rfl]) (fun u hu => by rw [thF_up, if_neg hu]; rfl)
        (fun X hX hXt => ve_ext (fun u e => absurd e (hXt u)) (fun _ _ => rfl) (fun _ _ => rfl) (fun r e => ?_)) (fun r hr => upd_ne (fun e => hr (by rw [e])))
      · unfold srcE; simp only [k9]; simp
      · rw [hPv, hKt i hi, h.cor.k (eR (o, R n)) i hi hal]; omega
      · have h1 := h.cor.ownX (eR (o, R n)) t t0
        rw [hPv, ← hl0]; omega
      · have h1 := h.cor.own (eR (o, R n)) u hu (by simp)
        have h2 := hown u hu hne
        rw [hPv]; omega
      · have h1 := h.cor.ownX (eR (o, R n)) u hu
        have h2 := hownX u hu
        rw [hPv]; omega
      · show (upd x.rd (o, R n) _ r).getD ([], 0) = _
        rw [upd_ne (fun e2 => hX (by rw [e, e2]))]; rfl
    by_cases k7 : k = 7
    · obtain ⟨p0, p1, p2⟩ := o7 k7
      have hy := vn7 (x := x) (k := k) (t := t) (o := o) hth k7
      have hot : o ≠ t := fun e => by rw [e] at p2; exact hst0 p2
      have hno : x.th o = none := by
        cases hq : x.th o with
        | none => rfl
        | some q => exact absurd p2 ((hx.th o).1 (by rw [hq]; rfl))
      have hoK : ∀ i, i < n → ¬ Kno es R n (eT o) i := fun i hi hk => by
        obtain ⟨j, ⟨hj, a, ha, hs⟩, -⟩ := hk
        obtain ⟨s1, s2⟩ := h.st j a hj ha
        rcases hs with hs | ⟨h7, hs⟩ | ⟨_, hs⟩ | ⟨_, hs⟩ | ⟨_, hs⟩
        · rw [← th_inj.1 hs] at s1; exact s1 p2
        · have := s2 h7; rw [← th_inj.1 hs] at this; exact this p2
        all_goals simp at hs
      refine h.cor.fork hrunt hthr hcn' p0 hot (fun u hu => ?_) hoK (fun i hi e => ?_) (fun X ha => hal_rd (fun h3 => by rw [hy]) ha) (fun u hu => (hrun u hu).imp id (·.2)) (fun X i hi => ?_) (fun X => ?_) (alV_th x t) (fun X u hu => ?_) hnn
      · rw [VV, ve_th, thF, hno]; simp
      · rcases Nat.lt_or_ge i es.length with h1 | h1
        · obtain ⟨a, ha⟩ := get_lt h1
          rw [thrE_at ha] at e
          have := (h.st i a hi ha).1
          rw [e] at this; exact this p2
        · omega
      · rw [Kno.next he hi, hHBt k5 k3 k8 k10 i hi]
        unfold srcE; simp only [k7]
        constructor
        · rintro (h1 | ⟨rfl | ⟨_, h1⟩ | ⟨h1, _⟩ | ⟨h1, _⟩ | ⟨h1, _⟩, h2⟩)
          · exact .inl h1
          · exact .inl h2
          · exact .inr ⟨h1, h2⟩
          all_goals omega
        · rintro (h1 | ⟨h1, h2⟩)
          · exact .inl h1
          · exact .inr ⟨.inr (.inl ⟨trivial, h1⟩), h2⟩
      · rw [Kno.nextn he]
        unfold srcE; simp only [k7]; simp
      · rw [hy]
        have hth' : ∀ w, thF (⟨nxF x.ck k t o, upd (upd x.th o (some (stL l o.toNat 1))) t (some (icL l t.toNat)), x.lk, x.vo, x.rd⟩ : VS) w = if w = t then icL l t.toNat else if w = o then stL l o.toNat 1 else thF x w := fun w => by
          rw [thF_up]
          split
          · rfl
          · unfold upd
            split <;> rfl
        by_cases e : ∃ w, X = eT w
        · obtain ⟨w, rfl⟩ := e
          rw [VV, ve_th, hth']
          by_cases e1 : w = t
          · subst e1
            rw [if_pos rfl, if_neg (fun e => hot (th_inj.1 e).symm), icL_g]
            by_cases e4 : u = w
            · subst e4; rw [if_pos rfl, if_pos ⟨rfl, rfl⟩, hl0]
            · rw [if_neg (by omega), if_neg (fun h => e4 h.2), hl0]
          · rw [if_neg e1]
            by_cases e2 : w = o
            · subst e2
              rw [if_pos rfl, if_pos rfl, stL_g]
              by_cases e4 : u = w
              · subst e4; rw [if_pos rfl, if_pos rfl]
              · rw [if_neg (by omega), if_neg e4, hl0]
            · rw [if_neg e2, if_neg (fun e => e2 (th_inj.1 e)), if_neg (fun h => e1 (th_inj.1 h.1)), VV, ve_th]
        · rw [if_neg (fun h => e ⟨o, h⟩), if_neg (fun h => e ⟨t, h.1⟩)]
          rw [VV, VV, ve_ext (x := x) (y := ⟨nxF x.ck k t o, upd (upd x.th o (some (stL l o.toNat 1))) t (some (icL l t.toNat)), x.lk, x.vo, x.rd⟩) (fun u h => absurd ⟨u, h⟩ e) (fun _ _ => rfl) (fun _ _ => rfl) (fun _ _ => rfl)]
    · refine gat ((4, 0, 0) : Ent) l _ (vn0 k5 k3 k8 k10 k6 k4 k9 k7) (fun h => by simp at h) (fun u hu => .inr (.inl ?_)) (fun i hi => ?_) (by omega) hlt (fun i => ?_) (fun u hu => rfl) rfl rfl (fun _ h => h) (fun _ => .inl rfl)
      · rw [VV, hve0]; simp
      · rw [hHBt k5 k3 k8 k10 i hi]
        exact ⟨.inl, fun h => h.resolve_right (hnone i hi)⟩
      · have := cv_nn' hlc i
        rw [hve0]; simp only [List.getD_nil]; omega
  · rw [hck]
    rcases Nat.lt_or_ge i n with h1 | h1
    · obtain ⟨s1, s2⟩ := h.st i a h1 ha
      exact ⟨(hpres _).2 (.inl s1), fun h7 => (hpres _).2 (.inl (s2 h7))⟩
    · obtain rfl : i = n := by omega
      rw [he] at ha; cases ha
      exact ⟨(hpres _).2 (.inl hst0), fun h7 => (hpres _).2 (.inr ⟨h7, rfl⟩)⟩
  · -- who holds a lock knows what it keeps
    rw [hck] at ho
    have hi : i < n ∨ i = n := by have := hk.lt; omega
    have hold : owF x.ck o' = some t' ∨ (k = 5 ∧ o' = o ∧ t' = t) := by
      by_cases k5 : k = 5
      · obtain ⟨p0, p1⟩ := o5 (.inl k5)
        rw [n5 k5, owF_set p0 p1 rfl] at ho
        by_cases e : o' = o
        · subst e
          rw [if_pos rfl, if_neg (by omega)] at ho
          cases ho
          exact .inr ⟨k5, rfl, rfl⟩
        · rw [if_neg e] at ho; exact .inl ho
      by_cases k6 : k = 6
      · obtain ⟨p0, p1⟩ := o5 (.inr k6)
        rw [n6 k6, owF_set p0 p1 rfl] at ho
        by_cases e : o' = o
        · subst e
          rw [if_pos rfl, if_pos rfl] at ho
          cases ho
        · rw [if_neg e] at ho; exact .inl ho
      by_cases k7 : k = 7
      · rw [n7 k7] at ho; exact .inl ho
      by_cases k9 : k = 9
      · rw [n9 k9] at ho; exact .inl ho
      by_cases k10 : k = 10
      · rw [n10 k10] at ho; exact .inl ho
      by_cases k11 : k = 11
      · rw [n11 k11] at ho; exact .inl ho
      rw [nn k5 k6 k7 k9 k10 k11] at ho; exact .inl ho
    have hkl : k = 6 → o' ≠ o := fun k6 e => by
      obtain ⟨p0, p1⟩ := o5 (.inr k6)
      rw [n6 k6, owF_set p0 p1 rfl, if_pos e, if_pos rfl] at ho
      cases ho
    have hnsrc : ¬ srcE (eL o') (k, t, o) (R n) := fun hs => by
      have h1 : k = 6 ∧ o' = o := by simpa [srcE] using hs
      exact hkl h1.1 h1.2
    have hkn : Kno es R n (eL o') i := by
      rcases hi with hi | rfl
      · rw [Kno.next he hi] at hk
        exact hk.resolve_right (fun h => hnsrc h.1)
      · rw [Kno.nextn he] at hk; exact absurd hk hnsrc
    rcases hold with hold | ⟨k5, rfl, rfl⟩
    · exact hmono (h.held o' t' hold i hkn)
    · have hin := hkn.lt
      rw [Kno.next he hin]
      refine .inr ⟨.inl rfl, ?_⟩
      rw [hHB]; exact .inr (.inl ⟨k5, hkn⟩)
  · -- rounds
    rw [hck]
    have hvr := vn_rd (x := x) (k := k) (t := t) (o := o)
    rcases Nat.lt_or_ge j n with h1 | h1
    · obtain ⟨r0, r1, r2⟩ := h.rnd j a h1 ha k9'
      have hop := opF_next hx.ck hcan r0
      rw [hop]
      by_cases e : k = 9 ∧ a.2.2 = o
      · obtain ⟨k9, e⟩ := e
        rw [if_pos ⟨k9, e⟩]
        rw [e] at r0 r1 r2 ⊢
        have hRn := h9 k9
        unfold arrF
        split
        · exact ⟨r0, by show R j ≤ _ + 1; omega, fun e2 => by simp only at e2; omega⟩
        · refine ⟨r0, r1, fun e2 => ?_⟩
          simp only at e2
          rw [hvr, if_neg (by omega), if_pos k9, e2, upd_same]; rfl
      · rw [if_neg e]
        refine ⟨r0, r1, fun e2 => ?_⟩
        have hs := r2 e2
        rw [hvr]
        by_cases k10 : k = 10
        · rw [if_pos k10]
          by_cases e3 : (a.2.2, R j) = rdK x t o
          · exfalso
            rw [rdK] at e3
            simp only [Prod.mk.injEq] at e3
            obtain ⟨q1, q2, q3⟩ := o10 k10
            have hfull : fullF x.ck t := by
              rcases hcan with ⟨_, _, _, h4⟩ | ⟨h4, -⟩
              · exact h4
              · omega
            have := hfull.2
            rw [← q3, ← e3.1, ← e3.2] at this
            omega
          · rw [upd_ne e3]; exact hs
        · rw [if_neg k10]
          by_cases k9 : k = 9
          · rw [if_pos k9, upd_ne (fun h => e ⟨k9, by simp only [Prod.mk.injEq] at h; exact h.1⟩)]; exact hs
          · rw [if_neg k9]; exact hs
    · obtain rfl : j = n := by omega
      rw [he] at ha; cases ha
      simp only at k9' ⊢
      obtain ⟨p0, p1, p2, p3⟩ := o9 k9'
      have hRn := h9 k9'
      have hop := opF_next hx.ck hcan p0
      rw [hop, if_pos ⟨k9', rfl⟩, hvr, if_neg (by omega), if_pos k9', hRn, upd_same]
      refine ⟨p0, ?_, fun _ => rfl⟩
      unfold arrF
      split
      · show _ ≤ _ + 1; omega
      · exact Int.le_refl _
  · rw [vn_rd] at hr
    have old : (x.rd r).isSome = true → ∃ j, Src es R (n + 1) (eR r) j := fun h2 => by
      obtain ⟨j, hj⟩ := h.ar r h2
      exact ⟨j, (Src.next he).2 (.inl hj)⟩
    by_cases k10 : k = 10
    · rw [if_pos k10] at hr
      by_cases e : r = rdK x t o
      · obtain ⟨q1, q2, q3⟩ := o10 k10
        obtain ⟨p, hp, -⟩ := rd_some hx q1 q3
        exact old (by rw [e, rdK, hp]; rfl)
      · rw [upd_ne e] at hr; exact old hr
    · rw [if_neg k10] at hr
      by_cases k9 : k = 9
      · rw [if_pos k9] at hr
        by_cases e : r = (o, (opF x.ck o).1)
        · exact ⟨n, (Src.next he).2 (.inr ⟨rfl, hsrc_rd.2 ⟨k9, by rw [e, h9 k9]⟩⟩)⟩
        · rw [upd_ne e] at hr; exact old hr
      · rw [if_neg k9] at hr; exact old hr
  · rw [hck, hstF] at hu
    by_cases e11 : k = 11 ∧ u = t
    · exact ⟨n, _, Nat.lt_succ_self _, he, e11.2.symm, e11.1⟩
    · have h3 : (stF x.ck u).1 = 3 := by
        repeat (split at hu; · omega)
        exact hu
      obtain ⟨j, a, hj, ha, h1, h2⟩ := h.ex u h3
      exact ⟨j, a, by omega, ha, h1, h2⟩
  · rcases Nat.lt_or_ge j0 n with h1 | h1
    · rcases Nat.lt_or_ge j n with h2 | h2
      · exact h.fk j0 j a0 a h1 h2 ha0 k7' ha hta
      · omega
    · obtain rfl : j0 = n := by omega
      rw [he] at ha0; cases ha0
      obtain ⟨p0, p1, p2⟩ := o7 k7'
      rcases Nat.lt_or_ge j j0 with h2 | h2
      · have := (h.st j a h2 ha).1
        rw [hta] at this; exact absurd p2 this
      · have : j ≠ j0 := fun e => by
          subst e; rw [he] at ha; cases ha
          exact hst0 (by rw [show t = o from hta]; exact p2)
        omega
end
end Go.Ab.Dj
set_option linter.unusedVariables false
set_option linter.unusedSimpArgs false
set_option maxRecDepth 100000
namespace Go.Ab.Fe
open Go Go.Proofs Go.Ab
/-- The document's checker at b. -/
def rk (pa : Option Addr) (pc b : Nat) (x : CS) : HProp := fun h => ∃ ta tc oa oc ba bc, Sat [cells b 0 [.int .i64 x.th, .int .i64 x.va, .int .i64 x.vo, .int .i64 x.lk, .slice pa x.pa.length pc, .slice ta x.T.length tc, .slice oa x.O.length oc, .slice ba x.B.length bc, .int .i64 x.n], own 3 enc3 ta tc x.T, own 1 encZ oa oc x.O, own 2 enc2 ba bc x.B] h
section
variable {w0 : World} {ds : List Deferred} {n : Nat} {e : Env} {Γ : List HProp} {X : Act → World → Prop}
theorem rk_open {pa : Option Addr} {pc b : Nat} {x : CS} (k : ∀ ta tc oa oc ba bc, Le (St w0 ds n e (cells b 0 [.int .i64 x.th, .int .i64 x.va, .int .i64 x.vo, .int .i64 x.lk, .slice pa x.pa.length pc, .slice ta x.T.length tc, .slice oa x.O.length oc, .slice ba x.B.length bc, .int .i64 x.n] :: own 3 enc3 ta tc x.T :: own 1 encZ oa oc x.O :: own 2 enc2 ba bc x.B :: Γ)) X) : Le (St w0 ds n e (rk pa pc b x :: Γ)) X := fun a w s => by
  obtain ⟨h1, l1, ⟨ta, tc, oa, oc, ba, bc, a1⟩, s1⟩ := s.heap
  exact k ta tc oa oc ba bc a w ⟨s.defers, s.size, s.env, Bun.unfold ⟨h1, l1, a1, s1⟩, s.amb⟩
theorem rk_fold {Γ' : List HProp} {b : Nat} (x : CS) {pn tn on bn : Nat} {pa : Option Addr} {pc : Nat} {ta oa ba : Option Addr} {tc oc bc : Nat}
    (tk : Takes Γ [cells b 0 [.int .i64 x.th, .int .i64 x.va, .int .i64 x.vo, .int .i64 x.lk, .slice pa pn pc, .slice ta tn tc, .slice oa on oc, .slice ba bn bc, .int .i64 x.n], own 3 enc3 ta tc x.T, own 1 encZ oa oc x.O, own 2 enc2 ba bc x.B] Γ') (h1 : pn = x.pa.length) (h2 : tn = x.T.length) (h3 : on = x.O.length) (h4 : bn = x.B.length)
    (k : Le (St w0 ds n e (rk pa pc b x :: Γ')) X) : Le (St w0 ds n e Γ) X := s_heap (fun h s => by
  subst h1 h2 h3 h4
  obtain ⟨h1, l1, a1, s1⟩ := Bun.fold (tk h s)
  exact ⟨h1, l1, ⟨ta, tc, oa, oc, ba, bc, a1⟩, s1⟩) k
end
theorem can_run' {x : CS} {k t o : Int} (h : (stF x t).1 = 1) : canF x k t o ↔ 0 ≤ o ∧ okK x k t o := by
  unfold canF; rw [h]; simp
theorem owF_n {x : CS} {o : Int} : owF x o = none ↔ owV x o = -1 := by
  unfold owF; split
  · rename_i h; simp [h]
  · rename_i h; simp [h]
theorem owF_s {x : CS} {o t : Int} (ht : t ≠ -1) : owF x o = some t ↔ owV x o = t := by
  unfold owF; split
  · rename_i h; rw [h]; simp; omega
  · simp
theorem can_out {x : CS} {k t o : Int} (h : ¬ (0 ≤ t ∧ t < (x.T.length : Int))) : ¬ canF x k t o := fun hc => by
  have := stF_nz (can_th hc); omega
theorem full_out {x : CS} {t : Int} (h : ¬ (0 ≤ t ∧ t < (x.T.length : Int))) : ¬ fullF x t := fun hc => by
  have := stF_nz (x := x) (t := t) (by rw [hc.1]; decide); omega
theorem take_next {α : Type} {l : List α} {i : Nat} {a : α} (h : l[i]? = some a) : l.take (i + 1) = l.take i ++ [a] := by
  rw [List.take_add_one, h]; rfl
theorem below_spec (i m : Int) : Spec Try.prog 63 [.int .i64 i, .int .i64 m] [] (fun (_ : Unit) => .bool (decide (0 ≤ i ∧ i < m))) (fun _ => True) (fun _ => []) := by
 refine spec_mk (n := 12) Try.func63 rfl rfl rfl ?_
 intro Γ w0
 simp only [argE, List.cons_append, List.nil_append, Nat.zero_add, Nat.reduceAdd]
 refine c_seq ?_
 refine c_plain (.q 0 (.done)) (by kernel_rfl) ?_
 refine q_assign rfl rfl rfl rfl ?_
 refine r_done ?_
 refine k_then_n ?_
 refine c_seq ?_
 refine c_plain (.q 0 (.q 1 (.q 2 (.q 3 (.q 4 (.q 5 (.q 6 (.q 7 (.done))))))))) (by kernel_rfl) ?_
 refine q_move rfl rfl rfl rfl ?_
 refine q_int rfl rfl rfl rfl rfl (b_geq _ _ _ _) ?_
 refine q_move rfl rfl rfl rfl ?_
 refine s_bool_p 7 rfl (fun g_1 => ?_) (fun g_1 => ?_)
 ·
  refine q_move rfl rfl rfl rfl ?_
  refine q_move rfl rfl rfl rfl ?_
  refine q_int rfl rfl rfl rfl rfl (b_lss _ _ _ _) ?_
  refine q_pick_t rfl rfl rfl rfl rfl ?_
  refine q_assign rfl rfl rfl rfl ?_
  refine r_done ?_
  refine s_keep [4] (e' := [(4, _)]) rfl ?_
  refine k_then_n ?_
  refine c_ret ?_
  refine ret1 rfl rfl (()) (by congr 1; first | (rw [decide_eq_decide]; omega) | (symm; rw [decide_eq_false_iff_not]; omega)) (by trivial) ?_
  exact Tf
 ·
  refine q_skip rfl rfl rfl rfl ?_
  refine q_skip rfl rfl rfl rfl ?_
  refine q_skip rfl rfl rfl rfl ?_
  refine q_pick_f rfl rfl rfl rfl rfl ?_
  refine q_assign rfl rfl rfl rfl ?_
  refine r_done ?_
  refine s_keep [4] (e' := [(4, _)]) rfl ?_
  refine k_then_n ?_
  refine c_ret ?_
  refine ret1 rfl rfl (()) (by congr 1; first | (rw [decide_eq_decide]; omega) | (symm; rw [decide_eq_false_iff_not]; omega)) (by trivial) ?_
  exact Tf
theorem count_spec (i : Int) : Spec Try.prog 62 [.int .i64 i] [] (fun (_ : Unit) => .bool (decide (0 ≤ i ∧ i ≤ 4096))) (fun _ => True) (fun _ => []) := by
 refine spec_mk (n := 9) Try.func62 rfl rfl rfl ?_
 intro Γ w0
 simp only [argE, List.cons_append, List.nil_append, Nat.zero_add, Nat.reduceAdd]
 refine c_seq ?_
 refine c_plain (.q 0 (.done)) (by kernel_rfl) ?_
 refine q_assign rfl rfl rfl rfl ?_
 refine r_done ?_
 refine k_then_n ?_
 refine c_seq ?_
 refine c_plain (.q 0 (.q 1 (.q 2 (.q 3 (.q 4 (.q 5 (.q 6 (.done)))))))) (by kernel_rfl) ?_
 refine q_move rfl rfl rfl rfl ?_
 refine q_int rfl rfl rfl rfl rfl (b_geq _ _ _ _) ?_
 refine q_move rfl rfl rfl rfl ?_
 refine s_bool_p 5 rfl (fun g_1 => ?_) (fun g_1 => ?_)
 ·
  refine q_move rfl rfl rfl rfl ?_
  refine q_int rfl rfl rfl rfl rfl (b_leq _ _ _ _) ?_
  refine q_pick_t rfl rfl rfl rfl rfl ?_
  refine q_assign rfl rfl rfl rfl ?_
  refine r_done ?_
  refine s_keep [2] (e' := [(2, _)]) rfl ?_
  refine k_then_n ?_
  refine c_ret ?_
  refine ret1 rfl rfl (()) (by congr 1; first | (rw [decide_eq_decide]; omega) | (symm; rw [decide_eq_false_iff_not]; omega)) (by trivial) ?_
  exact Tf
 ·
  refine q_skip rfl rfl rfl rfl ?_
  refine q_skip rfl rfl rfl rfl ?_
  refine q_pick_f rfl rfl rfl rfl rfl ?_
  refine q_assign rfl rfl rfl rfl ?_
  refine r_done ?_
  refine s_keep [2] (e' := [(2, _)]) rfl ?_
  refine k_then_n ?_
  refine c_ret ?_
  refine ret1 rfl rfl (()) (by congr 1; first | (rw [decide_eq_decide]; omega) | (symm; rw [decide_eq_false_iff_not]; omega)) (by trivial) ?_
  exact Tf
theorem rshape_spec (th va vo lk : Int) (pl : List Int) (ao : Option Addr) (n c : Nat) (A : HProp) (hr : RdS A ao (pl.flatMap encZ)) (hn : pl.length = n) (hb : n ≤ 4000000) : Spec Try.prog 36 [.agg #[.int .i64 th, .int .i64 va, .int .i64 vo, .int .i64 lk, .slice ao n c]] [A] (fun (_ : Unit) => .int .i64 (if OkS th va vo lk pl then 0 else 5)) (fun _ => True) (fun _ => [A]) := by
 refine spec_mk (n := 58) Try.func36 rfl rfl rfl ?_
 intro Γ w0
 simp only [argE, List.cons_append, List.nil_append, Nat.zero_add, Nat.reduceAdd]
 refine c_seq ?_
 refine c_plain ((.l 0 [] (.q 1 (.done)))) (by kernel_rfl) ?_
 refine l_box rfl rfl rfl rfl (us := [_, _, _, _, _]) rfl ?_
 intro b1
 refine ag_nil ?_
 refine q_assign rfl rfl rfl rfl ?_
 refine r_done ?_
 refine k_then_n ?_
 refine c_seq ?_
 refine c_seq ?_
 refine c_plain (.q 0 (.q 1 (.q 2 (.q 3 (.q 4 (.q 5 (.q 6 (.q 7 (.q 8 (.q 9 (.q 10 ((.l 11 [] (.q 12 (.q 13 (.q 14 (.q 15 (.q 16 ((.l 17 [] (.q 18 (.q 19 (.q 20 (.q 21 (.q 22 ((.l 23 [] (.q 24 (.q 25 (.q 26 (.q 27 (.q 28 (.q 29 ((.l 30 [] (.q 31 (.q 32 (.done)))))))))))))))))))))))))))))))))))))) (by kernel_rfl) ?_
 refine q_field (k := 0) rfl rfl rfl rfl Try.underlying25 rfl Try.sizeOf3 rfl ?_
 refine q_load_c (j := 0) rfl rfl rfl rfl Try.isAgg3 Tk (by first | rfl | exact (Nat.add_zero _).symm) (by rfl) ?_
 refine q_int rfl rfl rfl rfl rfl (b_lss _ _ _ _) ?_
 refine q_move rfl rfl rfl rfl ?_
 refine s_bool_p 7 rfl (fun h1 => ?_) (fun h1 => ?_)
 ·
  refine q_skip rfl rfl rfl rfl ?_
  refine q_skip rfl rfl rfl rfl ?_
  refine q_skip rfl rfl rfl rfl ?_
  refine q_pick_t rfl rfl rfl rfl rfl ?_
  refine q_move rfl rfl rfl rfl ?_
  refine q_skip rfl rfl rfl rfl ?_
  refine q_skip rfl rfl rfl rfl ?_
  refine l_skip rfl rfl rfl rfl ?_
  refine q_skip rfl rfl rfl rfl ?_
  refine q_pick_t rfl rfl rfl rfl rfl ?_
  refine q_move rfl rfl rfl rfl ?_
  refine q_skip rfl rfl rfl rfl ?_
  refine q_skip rfl rfl rfl rfl ?_
  refine l_skip rfl rfl rfl rfl ?_
  refine q_skip rfl rfl rfl rfl ?_
  refine q_pick_t rfl rfl rfl rfl rfl ?_
  refine q_move rfl rfl rfl rfl ?_
  refine q_skip rfl rfl rfl rfl ?_
  refine q_skip rfl rfl rfl rfl ?_
  refine l_skip rfl rfl rfl rfl ?_
  refine q_skip rfl rfl rfl rfl ?_
  refine q_pick_t rfl rfl rfl rfl rfl ?_
  refine q_move rfl rfl rfl rfl ?_
  refine q_skip rfl rfl rfl rfl ?_
  refine q_skip rfl rfl rfl rfl ?_
  refine q_skip rfl rfl rfl rfl ?_
  refine l_skip rfl rfl rfl rfl ?_
  refine q_skip rfl rfl rfl rfl ?_
  refine q_pick_t rfl rfl rfl rfl rfl ?_
  refine r_done ?_
  refine s_keep [1, 36] (e' := [(1, _), (36, _)]) rfl ?_
  refine k_then_n ?_
  refine c_cond_t rfl ?_
  refine c_seq ?_
  refine c_plain (.q 0 (.done)) (by kernel_rfl) ?_
  refine q_assign rfl rfl rfl rfl ?_
  refine r_done ?_
  refine k_then_n ?_
  refine c_ret ?_
  refine k_then_ret ?_
  refine ret1 rfl rfl (()) (by rw [if_neg (fun h => by have h1 := h.th; have h2 := h.va; have h3 := h.vo; have h4 := h.lk; have h5 := h.pl; omega)]) (by trivial) ?_
  exact Tf
 ·
  refine q_field (k := 0) rfl rfl rfl rfl Try.underlying25 rfl Try.sizeOf3 rfl ?_
  refine q_load_c (j := 0) rfl rfl rfl rfl Try.isAgg3 Tk (by first | rfl | exact (Nat.add_zero _).symm) (by rfl) ?_
  refine q_int rfl rfl rfl rfl rfl (b_gtr _ _ _ _) ?_
  refine q_pick_f rfl rfl rfl rfl rfl ?_
  refine q_move rfl rfl rfl rfl ?_
  refine s_bool_p 12 rfl (fun h2 => ?_) (fun h2 => ?_)
  ·
   refine q_skip rfl rfl rfl rfl ?_
   refine q_skip rfl rfl rfl rfl ?_
   refine l_skip rfl rfl rfl rfl ?_
   refine q_skip rfl rfl rfl rfl ?_
   refine q_pick_t rfl rfl rfl rfl rfl ?_
   refine q_move rfl rfl rfl rfl ?_
   refine q_skip rfl rfl rfl rfl ?_
   refine q_skip rfl rfl rfl rfl ?_
   refine l_skip rfl rfl rfl rfl ?_
   refine q_skip rfl rfl rfl rfl ?_
   refine q_pick_t rfl rfl rfl rfl rfl ?_
   refine q_move rfl rfl rfl rfl ?_
   refine q_skip rfl rfl rfl rfl ?_
   refine q_skip rfl rfl rfl rfl ?_
   refine l_skip rfl rfl rfl rfl ?_
   refine q_skip rfl rfl rfl rfl ?_
   refine q_pick_t rfl rfl rfl rfl rfl ?_
   refine q_move rfl rfl rfl rfl ?_
   refine q_skip rfl rfl rfl rfl ?_
   refine q_skip rfl rfl rfl rfl ?_
   refine q_skip rfl rfl rfl rfl ?_
   refine l_skip rfl rfl rfl rfl ?_
   refine q_skip rfl rfl rfl rfl ?_
   refine q_pick_t rfl rfl rfl rfl rfl ?_
   refine r_done ?_
   refine s_keep [1, 36] (e' := [(1, _), (36, _)]) rfl ?_
   refine k_then_n ?_
   refine c_cond_t rfl ?_
   refine c_seq ?_
   refine c_plain (.q 0 (.done)) (by kernel_rfl) ?_
   refine q_assign rfl rfl rfl rfl ?_
   refine r_done ?_
   refine k_then_n ?_
   refine c_ret ?_
   refine k_then_ret ?_
   refine ret1 rfl rfl (()) (by rw [if_neg (fun h => by have h1 := h.th; have h2 := h.va; have h3 := h.vo; have h4 := h.lk; have h5 := h.pl; omega)]) (by trivial) ?_
   exact Tf
  ·
   refine q_field (k := 1) rfl rfl rfl rfl Try.underlying25 rfl Try.sizeOf3 rfl ?_
   refine q_load_c (j := 1) rfl rfl rfl rfl Try.isAgg3 Tk (by first | rfl | exact (Nat.add_zero _).symm) (by rfl) ?_
   have sp_1 := count_spec va
   refine l_call rfl rfl rfl rfl rfl rfl Try.call62 (sp_1) Ts ?_
   rintro ⟨⟩ -
   try simp only [List.cons_append, List.nil_append]
   refine ag_nil ?_
   refine q_not rfl rfl rfl rfl ?_
   refine q_pick_f rfl rfl rfl rfl rfl ?_
   refine q_move rfl rfl rfl rfl ?_
   refine s_bool_np 18 rfl (fun h3 => ?_) (fun h3 => ?_)
   ·
    refine q_skip rfl rfl rfl rfl ?_
    refine q_skip rfl rfl rfl rfl ?_
    refine l_skip rfl rfl rfl rfl ?_
    refine q_skip rfl rfl rfl rfl ?_
    refine q_pick_t rfl rfl rfl rfl rfl ?_
    refine q_move rfl rfl rfl rfl ?_
    refine q_skip rfl rfl rfl rfl ?_
    refine q_skip rfl rfl rfl rfl ?_
    refine l_skip rfl rfl rfl rfl ?_
    refine q_skip rfl rfl rfl rfl ?_
    refine q_pick_t rfl rfl rfl rfl rfl ?_
    refine q_move rfl rfl rfl rfl ?_
    refine q_skip rfl rfl rfl rfl ?_
    refine q_skip rfl rfl rfl rfl ?_
    refine q_skip rfl rfl rfl rfl ?_
    refine l_skip rfl rfl rfl rfl ?_
    refine q_skip rfl rfl rfl rfl ?_
    refine q_pick_t rfl rfl rfl rfl rfl ?_
    refine r_done ?_
    refine s_keep [1, 36] (e' := [(1, _), (36, _)]) rfl ?_
    refine k_then_n ?_
    refine c_cond_t rfl ?_
    refine c_seq ?_
    refine c_plain (.q 0 (.done)) (by kernel_rfl) ?_
    refine q_assign rfl rfl rfl rfl ?_
    refine r_done ?_
    refine k_then_n ?_
    refine c_ret ?_
    refine k_then_ret ?_
    refine ret1 rfl rfl (()) (by rw [if_neg (fun h => by have h1 := h.th; have h2 := h.va; have h3 := h.vo; have h4 := h.lk; have h5 := h.pl; omega)]) (by trivial) ?_
    exact Tf
   ·
    refine q_field (k := 2) rfl rfl rfl rfl Try.underlying25 rfl Try.sizeOf3 rfl ?_
    refine q_load_c (j := 2) rfl rfl rfl rfl Try.isAgg3 Tk (by first | rfl | exact (Nat.add_zero _).symm) (by rfl) ?_
    have sp_2 := count_spec vo
    refine l_call rfl rfl rfl rfl rfl rfl Try.call62 (sp_2) Ts ?_
    rintro ⟨⟩ -
    try simp only [List.cons_append, List.nil_append]
    refine ag_nil ?_
    refine q_not rfl rfl rfl rfl ?_
    refine q_pick_f rfl rfl rfl rfl rfl ?_
    refine q_move rfl rfl rfl rfl ?_
    refine s_bool_np 24 rfl (fun h4 => ?_) (fun h4 => ?_)
    ·
     refine q_skip rfl rfl rfl rfl ?_
     refine q_skip rfl rfl rfl rfl ?_
     refine l_skip rfl rfl rfl rfl ?_
     refine q_skip rfl rfl rfl rfl ?_
     refine q_pick_t rfl rfl rfl rfl rfl ?_
     refine q_move rfl rfl rfl rfl ?_
     refine q_skip rfl rfl rfl rfl ?_
     refine q_skip rfl rfl rfl rfl ?_
     refine q_skip rfl rfl rfl rfl ?_
     refine l_skip rfl rfl rfl rfl ?_
     refine q_skip rfl rfl rfl rfl ?_
     refine q_pick_t rfl rfl rfl rfl rfl ?_
     refine r_done ?_
     refine s_keep [1, 36] (e' := [(1, _), (36, _)]) rfl ?_
     refine k_then_n ?_
     refine c_cond_t rfl ?_
     refine c_seq ?_
     refine c_plain (.q 0 (.done)) (by kernel_rfl) ?_
     refine q_assign rfl rfl rfl rfl ?_
     refine r_done ?_
     refine k_then_n ?_
     refine c_ret ?_
     refine k_then_ret ?_
     refine ret1 rfl rfl (()) (by rw [if_neg (fun h => by have h1 := h.th; have h2 := h.va; have h3 := h.vo; have h4 := h.lk; have h5 := h.pl; omega)]) (by trivial) ?_
     exact Tf
    ·
     refine q_field (k := 3) rfl rfl rfl rfl Try.underlying25 rfl Try.sizeOf3 rfl ?_
     refine q_load_c (j := 3) rfl rfl rfl rfl Try.isAgg3 Tk (by first | rfl | exact (Nat.add_zero _).symm) (by rfl) ?_
     have sp_3 := count_spec lk
     refine l_call rfl rfl rfl rfl rfl rfl Try.call62 (sp_3) Ts ?_
     rintro ⟨⟩ -
     try simp only [List.cons_append, List.nil_append]
     refine ag_nil ?_
     refine q_not rfl rfl rfl rfl ?_
     refine q_pick_f rfl rfl rfl rfl rfl ?_
     refine q_move rfl rfl rfl rfl ?_
     refine s_bool_np 30 rfl (fun h5 => ?_) (fun h5 => ?_)
     ·
      refine q_skip rfl rfl rfl rfl ?_
      refine q_skip rfl rfl rfl rfl ?_
      refine q_skip rfl rfl rfl rfl ?_
      refine l_skip rfl rfl rfl rfl ?_
      refine q_skip rfl rfl rfl rfl ?_
      refine q_pick_t rfl rfl rfl rfl rfl ?_
      refine r_done ?_
      refine s_keep [1, 36] (e' := [(1, _), (36, _)]) rfl ?_
      refine k_then_n ?_
      refine c_cond_t rfl ?_
      refine c_seq ?_
      refine c_plain (.q 0 (.done)) (by kernel_rfl) ?_
      refine q_assign rfl rfl rfl rfl ?_
      refine r_done ?_
      refine k_then_n ?_
      refine c_ret ?_
      refine k_then_ret ?_
      refine ret1 rfl rfl (()) (by rw [if_neg (fun h => by have h1 := h.th; have h2 := h.va; have h3 := h.vo; have h4 := h.lk; have h5 := h.pl; omega)]) (by trivial) ?_
      exact Tf
     ·
      refine q_field (k := 4) rfl rfl rfl rfl Try.underlying25 rfl Try.sizeOf23 rfl ?_
      refine q_load_c (j := 4) rfl rfl rfl rfl Try.isAgg23 Tk (by first | rfl | exact (Nat.add_zero _).symm) (by rfl) ?_
      refine q_len rfl rfl rfl rfl Try.underlying23 ?_
      have sp_4 := count_spec ((n : Nat) : Int)
      refine l_call rfl rfl rfl rfl rfl rfl Try.call62 (sp_4) Ts ?_
      rintro ⟨⟩ -
      try simp only [List.cons_append, List.nil_append]
      refine ag_nil ?_
      refine q_not rfl rfl rfl rfl ?_
      refine q_pick_f rfl rfl rfl rfl rfl ?_
      refine r_done ?_
      refine s_keep [1, 36] (e' := [(1, _), (36, _)]) rfl ?_
      refine k_then_n ?_
      refine c_cond_np rfl (fun h6 => ?_) (fun h6 => ?_)
      ·
       refine c_seq ?_
       refine c_plain (.q 0 (.done)) (by kernel_rfl) ?_
       refine q_assign rfl rfl rfl rfl ?_
       refine r_done ?_
       refine k_then_n ?_
       refine c_ret ?_
       refine k_then_ret ?_
       refine ret1 rfl rfl (()) (by rw [if_neg (fun h => by have h1 := h.th; have h2 := h.va; have h3 := h.vo; have h4 := h.lk; have h5 := h.pl; omega)]) (by trivial) ?_
       exact Tf
      ·
       refine c_skip ?_
       refine k_then_n ?_
       refine c_seq ?_
       refine c_seq ?_
       refine c_plain (.q 0 (.done)) (by kernel_rfl) ?_
       refine q_assign rfl rfl rfl rfl ?_
       refine r_done ?_
       refine k_then_n ?_
       refine c_block ?_
       refine c_loop2 (α := Nat) (fun (i : Nat) => i ≤ n ∧ (∀ (j : Nat) (p : Int), j < i → pl[j]? = some p → badP p = false)) (fun (i : Nat) => [(3, .int .i64 ((i : Nat) : Int))]) (fun (i : Nat) => []) (fun (i : Nat) => n - i) [1] (er := [(1, _)]) rfl (0) ?_ (by exact ⟨rfl, trivial⟩) (by (try dsimp only); (try simp only [Nat.add_zero, Nat.zero_add]); (repeat ((with_reducible apply Z2); focus (first | (with_reducible (repeat (first | exact Z0 | apply Z1)); done) | (repeat (first | exact Z0 | apply Z1))))); exact Z3) ?_
       · exact ⟨Nat.zero_le _, fun j p h => by omega⟩
       rintro i ⟨hle_i, hI⟩
       try simp only [List.cons_append, List.nil_append]
       refine c_seq ?_
       refine c_seq ?_
       refine c_plain (.q 0 (.q 1 (.q 2 (.q 3 (.q 4 (.done)))))) (by kernel_rfl) ?_
       refine q_move rfl rfl rfl rfl ?_
       refine q_field (k := 4) rfl rfl rfl rfl Try.underlying25 rfl Try.sizeOf23 rfl ?_
       refine q_load_c (j := 4) rfl rfl rfl rfl Try.isAgg23 Tk (by first | rfl | exact (Nat.add_zero _).symm) (by rfl) ?_
       refine q_len rfl rfl rfl rfl Try.underlying23 ?_
       refine q_int rfl rfl rfl rfl rfl (b_lss _ _ _ _) ?_
       refine r_done ?_
       refine s_keep [1, 3, 41] (e' := [(1, _), (3, _), (41, _)]) rfl ?_
       refine k_then_n ?_
       refine c_cond_p rfl (fun hlt => ?_) (fun hlt => ?_)
       ·
        refine c_skip ?_
        refine k_then_n ?_
        refine c_seq ?_
        refine c_block ?_
        refine c_seq ?_
        obtain ⟨p, hp⟩ := get_lt (l := pl) (i := i) (by omega)
        refine c_plain (.q 0 (.q 1 (.q 2 (.q 3 (.q 4 (.q 5 (.q 6 (.q 7 (.q 8 (.q 9 (.q 10 (.q 11 (.q 12 (.q 13 (.done))))))))))))))) (by kernel_rfl) ?_
        refine q_field (k := 4) rfl rfl rfl rfl Try.underlying25 rfl Try.sizeOf23 rfl ?_
        refine q_load_c (j := 4) rfl rfl rfl rfl Try.isAgg23 Tk (by first | rfl | exact (Nat.add_zero _).symm) (by rfl) ?_
        refine q_move rfl rfl rfl rfl ?_
        refine q_idxR (sz := 0) (k := i) rfl rfl rfl rfl rfl Try.underlying23 Try.sizeOf3 (hr) hp encZ_len (by first | rfl | omega) (by omega) ?_
        intro ib47 io47 _ hd47
        refine q_load rfl rfl rfl rfl Try.isAgg3 Tk (hd47 0 (.int .i64 p) rfl) ?_
        refine q_int rfl rfl rfl rfl rfl (b_lss _ _ _ _) ?_
        refine q_move rfl rfl rfl rfl ?_
        refine s_bool_p 50 rfl (fun hp1 => ?_) (fun hp1 => ?_)
        ·
         refine q_skip rfl rfl rfl rfl ?_
         refine q_skip rfl rfl rfl rfl ?_
         refine q_skip rfl rfl rfl rfl ?_
         refine q_skip rfl rfl rfl rfl ?_
         refine q_skip rfl rfl rfl rfl ?_
         refine q_skip rfl rfl rfl rfl ?_
         refine q_pick_t rfl rfl rfl rfl rfl ?_
         refine r_done ?_
         refine s_keep [1, 3, 51, 52, 53, 54, 55, 56, 57] (e' := [(1, _), (3, _), (51, _), (52, _), (53, _), (54, _), (55, _), (56, _), (57, _)]) rfl ?_
         refine k_then_n ?_
         refine c_cond_t rfl ?_
         have hno : ¬ OkS th va vo lk pl := fun h => by
           have := h.pa p (List.mem_of_getElem? hp); omega
         refine c_seq ?_
         refine c_plain (.q 0 (.done)) (by kernel_rfl) ?_
         refine q_assign rfl rfl rfl rfl ?_
         refine r_done ?_
         refine s_keep [2] (e' := [(2, _)]) rfl ?_
         refine k_then_n ?_
         refine c_ret ?_
         refine k_blk_ret ?_
         refine k_then_ret ?_
         refine k_then_ret ?_
         refine k_blk_ret ?_
         refine k_then_ret ?_
         refine ret1 rfl rfl (()) (by rw [if_neg hno]) (by trivial) ?_
         exact Tf
        ·
         refine q_field (k := 4) rfl rfl rfl rfl Try.underlying25 rfl Try.sizeOf23 rfl ?_
         refine q_load_c (j := 4) rfl rfl rfl rfl Try.isAgg23 Tk (by first | rfl | exact (Nat.add_zero _).symm) (by rfl) ?_
         refine q_move rfl rfl rfl rfl ?_
         refine q_idxR (sz := 0) (k := i) rfl rfl rfl rfl rfl Try.underlying23 Try.sizeOf3 (hr) hp encZ_len (by first | rfl | omega) (by omega) ?_
         intro ib54 io54 _ hd54
         refine q_load rfl rfl rfl rfl Try.isAgg3 Tk (hd54 0 (.int .i64 p) rfl) ?_
         refine q_int rfl rfl rfl rfl rfl (b_gtr _ _ _ _) ?_
         refine q_pick_f rfl rfl rfl rfl rfl ?_
         refine r_done ?_
         refine s_keep [1, 3, 51, 52, 53, 54, 55, 56, 57] (e' := [(1, _), (3, _), (51, _), (52, _), (53, _), (54, _), (55, _), (56, _), (57, _)]) rfl ?_
         refine k_then_n ?_
         refine c_cond_p rfl (fun hp2 => ?_) (fun hp2 => ?_)
         ·
          have hno : ¬ OkS th va vo lk pl := fun h => by
            have := h.pa p (List.mem_of_getElem? hp); omega
          refine c_seq ?_
          refine c_plain (.q 0 (.done)) (by kernel_rfl) ?_
          refine q_assign rfl rfl rfl rfl ?_
          refine r_done ?_
          refine s_keep [2] (e' := [(2, _)]) rfl ?_
          refine k_then_n ?_
          refine c_ret ?_
          refine k_blk_ret ?_
          refine k_then_ret ?_
          refine k_then_ret ?_
          refine k_blk_ret ?_
          refine k_then_ret ?_
          refine ret1 rfl rfl (()) (by rw [if_neg hno]) (by trivial) ?_
          exact Tf
         ·
          have hgood : badP p = false := by simp only [badP, Bool.or_eq_false_iff, decide_eq_false_iff_not]; omega
          refine c_skip ?_
          refine k_blk_n ?_
          refine k_then_n ?_
          refine c_plain (.q 0 (.q 1 (.q 2 (.done)))) (by kernel_rfl) ?_
          refine q_move rfl rfl rfl rfl ?_
          refine q_int rfl rfl rfl rfl rfl (b_add' _ (by exact fits_i64 (by omega) (by omega))) ?_
          refine q_assign rfl rfl rfl rfl ?_
          refine r_done ?_
          refine k_then_n ?_
          refine loop_next (x := i) (i + 1) ?_ ?_ ?_ ?_
          · exact ⟨by omega, fun j q hj hq => (by
                by_cases h : j = i
                · subst h; rw [hp] at hq; cases hq; exact hgood
                · exact hI j q (by omega) hq)⟩
          · show n - (i + 1) < n - i; omega
          · exact ⟨rfl, rfl, trivial⟩
          · (try simp only [List.cons_append, List.nil_append]); exact Tf
       ·
        refine c_exit ?_
        refine k_then_exit ?_
        refine k_then_exit ?_
        refine k_blk_here ?_
        refine k_then_n ?_
        refine c_seq ?_
        refine c_plain (.q 0 (.done)) (by kernel_rfl) ?_
        refine q_assign rfl rfl rfl rfl ?_
        refine r_done ?_
        refine k_then_n ?_
        refine c_ret ?_
        refine ret1 rfl rfl (()) (by rw [if_pos (okS_iff.2 ⟨by omega, by omega, by omega, by omega, by omega, fun p q => by
          obtain ⟨j, hj⟩ := List.getElem?_of_mem q
          exact hI j p (by have := (List.getElem?_eq_some_iff.1 hj).1; omega) hj⟩)]) (by trivial) ?_
        exact Tf
theorem rfull_spec (pa : Option Addr) (pc b : Nat) (x : CS) (hx : CInv x) (t : Int) : Spec Try.prog 64 [.pointer (some ⟨b, 0, none⟩), .int .i64 t] [rk pa pc b x] (fun (_ : Unit) => .bool (decide (fullF x t))) (fun _ => True) (fun _ => [rk pa pc b x]) := by
 refine spec_mk (n := 42) Try.func64 rfl rfl rfl ?_
 intro Γ w0
 simp only [argE, List.cons_append, List.nil_append, Nat.zero_add, Nat.reduceAdd]
 refine c_seq ?_
 refine c_plain (.q 0 (.done)) (by kernel_rfl) ?_
 refine q_assign rfl rfl rfl rfl ?_
 refine r_done ?_
 refine k_then_n ?_
 refine c_seq ?_
 refine c_seq ?_
 refine s_take (A := rk pa pc b x) Tk ?_
 refine rk_open fun ta tc oa oc ba bc => ?_
 refine c_plain (.q 0 (.q 1 (.q 2 (.q 3 (.q 4 (.q 5 (.q 6 (.q 7 (.q 8 ((.l 9 [] (.q 10 (.q 11 (.done)))))))))))))) (by kernel_rfl) ?_
 refine q_move rfl rfl rfl rfl ?_
 refine q_eq_nil rfl rfl rfl rfl Try.underlying83 ?_
 refine s_eq 7 rfl (v' := .bool false) rfl ?_
 refine q_move rfl rfl rfl rfl ?_
 refine q_move rfl rfl rfl rfl ?_
 refine q_move rfl rfl rfl rfl ?_
 refine q_nil_p rfl rfl rfl rfl ?_
 refine q_field (k := 5) rfl rfl rfl rfl Try.underlying133 rfl Try.sizeOf131 rfl ?_
 refine q_load_c (j := 5) rfl rfl rfl rfl Try.isAgg131 Tk (by first | rfl | exact (Nat.add_zero _).symm) (by rfl) ?_
 refine q_len rfl rfl rfl rfl Try.underlying131 ?_
 have sp_1 := below_spec t ((x.T.length : Nat) : Int)
 refine l_call rfl rfl rfl rfl rfl rfl Try.call63 (sp_1) Ts ?_
 rintro ⟨⟩ -
 try simp only [List.cons_append, List.nil_append]
 refine ag_nil ?_
 refine q_not rfl rfl rfl rfl ?_
 refine q_pick_f rfl rfl rfl rfl rfl ?_
 refine r_done ?_
 refine s_keep [0, 1, 17] (e' := [(0, _), (1, _), (17, _)]) rfl ?_
 refine k_then_n ?_
 refine c_cond_np rfl (fun hin => ?_) (fun hin => ?_)
 ·
  refine c_seq ?_
  refine c_plain (.q 0 (.done)) (by kernel_rfl) ?_
  refine q_assign rfl rfl rfl rfl ?_
  refine r_done ?_
  refine k_then_n ?_
  refine c_ret ?_
  refine k_then_ret ?_
  refine rk_fold (b := b) x (pa := pa) (pc := pc) (ta := ta) (tc := tc) (oa := oa) (oc := oc) (ba := ba) (bc := bc) Ts (by rfl) (by rfl) (by rfl) (by rfl) ?_
  refine ret1 rfl rfl (()) (by congr 1; symm; rw [decide_eq_false_iff_not]; exact full_out hin) (by trivial) ?_
  exact Tf
 ·
  have hst := stF_at (x := x) hin.1 hin.2
  refine c_skip ?_
  refine k_then_n ?_
  refine c_seq ?_
  refine c_plain (.q 0 (.q 1 (.q 2 (.q 3 (.q 4 (.q 5 (.q 6 ((.l 7 [] ((.l 8 [] (.done)))))))))))) (by kernel_rfl) ?_
  refine q_move rfl rfl rfl rfl ?_
  refine q_nil_p rfl rfl rfl rfl ?_
  refine q_field (k := 5) rfl rfl rfl rfl Try.underlying133 rfl Try.sizeOf131 rfl ?_
  refine q_load_c (j := 5) rfl rfl rfl rfl Try.isAgg131 Tk (by first | rfl | exact (Nat.add_zero _).symm) (by rfl) ?_
  refine q_move rfl rfl rfl rfl ?_
  refine q_idxO (sz := 2) (k := t.toNat) (enc := enc3) (xs := x.T) rfl rfl rfl rfl rfl Try.underlying131 Try.sizeOf95 hst (by first | rfl | omega) (by omega) Tk ?_
  intro ib23 io23 ha23 hl23 hc23
  refine q_loadN_O (j := 0) (k' := t.toNat) (us := [_, _, _]) (enc := enc3) (off := io23) rfl rfl rfl rfl Try.isAgg95 Try.sizeOf95 ha23 enc3_len hst Tk (by first | rfl | exact (Nat.add_zero _).symm | omega) (by rfl) rfl ?_
  refine l_alloc rfl rfl rfl Try.zeroValue95 (zs := [.int .i64 0, .int .i64 0, .int .i64 0]) rfl ?_
  intro b5
  refine ag_nil ?_
  refine l_store (j := 0) rfl rfl rfl rfl Try.sizeOf95 (us := [_, _, _]) rfl rfl rfl Tk (by first | rfl | exact (Nat.add_zero _).symm) (by first | decide | (simp; done) | omega) ?_
  simp only [setL, List.set]
  refine ag_nil ?_
  refine r_done ?_
  refine s_keep [0, 5] (e' := [(0, _), (5, _)]) rfl ?_
  refine k_then_n ?_
  refine c_seq ?_
  refine c_draw rfl (.q 0 (.q 1 (.q 2 (.q 3 (.q 4 (.q 5 (.q 6 (.q 7 (.q 8 (.q 9 (.q 10 (.q 11 (.q 12 (.q 13 (.q 14 (.q 15 (.q 16 (.q 17 (.done))))))))))))))))))) (by kernel_rfl) ?_
  refine q_field (k := 0) rfl rfl rfl rfl Try.underlying95 rfl Try.sizeOf93 rfl ?_
  refine q_load_c (j := 0) rfl rfl rfl rfl Try.isAgg93 Tk (by first | rfl | exact (Nat.add_zero _).symm) (by rfl) ?_
  refine q_int rfl rfl rfl rfl rfl (b_eql _ _ _ _) ?_
  refine q_move rfl rfl rfl rfl ?_
  refine s_bool_p 28 rfl (fun h2 => ?_) (fun h2 => ?_)
  ·
   have hsi := (stF_inv hx t).2.2.1 h2
   have hop := opF_at hsi.1 hsi.2.1
   refine q_field (k := 2) rfl rfl rfl rfl Try.underlying95 rfl Try.sizeOf3 rfl ?_
   refine q_load_c (j := 2) rfl rfl rfl rfl Try.isAgg3 Tk (by first | rfl | exact (Nat.add_zero _).symm) (by rfl) ?_
   refine q_move rfl rfl rfl rfl ?_
   refine q_nil_p rfl rfl rfl rfl ?_
   refine q_field (k := 7) rfl rfl rfl rfl Try.underlying133 rfl Try.sizeOf126 rfl ?_
   refine q_load_c (j := 7) rfl rfl rfl rfl Try.isAgg126 Tk (by first | rfl | exact (Nat.add_zero _).symm) (by rfl) ?_
   refine q_field (k := 1) rfl rfl rfl rfl Try.underlying95 rfl Try.sizeOf3 rfl ?_
   refine q_load_c (j := 1) rfl rfl rfl rfl Try.isAgg3 Tk (by first | rfl | exact (Nat.add_zero _).symm) (by rfl) ?_
   refine q_idxO (sz := 1) (k := (stF x t).2.1.toNat) (enc := enc2) (xs := x.B) rfl rfl rfl rfl rfl Try.underlying126 Try.sizeOf90 hop (by first | rfl | omega) (by omega) Tk ?_
   intro ib37 io37 ha37 hl37 hc37
   refine q_field (k := 0) rfl rfl rfl rfl Try.underlying90 rfl Try.sizeOf3 rfl ?_
   refine q_load_O (v := (.int .i64 ((opF x (stF x t).2.1).1))) (j := 0) (k' := (stF x t).2.1.toNat) (enc := enc2) (off := io37) rfl rfl rfl rfl Try.isAgg3 ha37 enc2_len hop Tk (by first | rfl | exact (Nat.add_zero _).symm | omega) (by rfl) ?_
   refine q_int rfl rfl rfl rfl rfl (b_lss _ _ _ _) ?_
   refine q_pick_t rfl rfl rfl rfl rfl ?_
   refine q_assign rfl rfl rfl rfl ?_
   refine r_done ?_
   refine s_keep [4] (e' := [(4, _)]) rfl ?_
   refine k_then_n ?_
   refine c_ret ?_
   refine rk_fold (b := b) x (pa := pa) (pc := pc) (ta := ta) (tc := tc) (oa := oa) (oc := oc) (ba := ba) (bc := bc) Ts (by rfl) (by rfl) (by rfl) (by rfl) ?_
   refine ret1 rfl rfl (()) (by congr 1; first | (rw [decide_eq_decide]; simp [fullF, h2]; done) | (symm; rw [decide_eq_false_iff_not]; simp [fullF, h2])) (by trivial) ?_
   exact Tf
  ·
   refine q_skip rfl rfl rfl rfl ?_
   refine q_skip rfl rfl rfl rfl ?_
   refine q_skip rfl rfl rfl rfl ?_
   refine q_skip rfl rfl rfl rfl ?_
   refine q_skip rfl rfl rfl rfl ?_
   refine q_skip rfl rfl rfl rfl ?_
   refine q_skip rfl rfl rfl rfl ?_
   refine q_skip rfl rfl rfl rfl ?_
   refine q_skip rfl rfl rfl rfl ?_
   refine q_skip rfl rfl rfl rfl ?_
   refine q_skip rfl rfl rfl rfl ?_
   refine q_skip rfl rfl rfl rfl ?_
   refine q_pick_f rfl rfl rfl rfl rfl ?_
   refine q_assign rfl rfl rfl rfl ?_
   refine r_done ?_
   refine s_keep [4] (e' := [(4, _)]) rfl ?_
   refine k_then_n ?_
   refine c_ret ?_
   refine rk_fold (b := b) x (pa := pa) (pc := pc) (ta := ta) (tc := tc) (oa := oa) (oc := oc) (ba := ba) (bc := bc) Ts (by rfl) (by rfl) (by rfl) (by rfl) ?_
   refine ret1 rfl rfl (()) (by congr 1; first | (rw [decide_eq_decide]; simp [fullF, h2]; done) | (symm; rw [decide_eq_false_iff_not]; simp [fullF, h2])) (by trivial) ?_
   exact Tf
theorem rcan_spec (pa : Option Addr) (pc b : Nat) (x : CS) (hx : CInv x) (k t o : Int) : Spec Try.prog 38 [.pointer (some ⟨b, 0, none⟩), .agg #[.int .i64 k, .int .i64 t, .int .i64 o]] [rk pa pc b x] (fun (_ : Unit) => .bool (decide (canF x k t o))) (fun _ => True) (fun _ => [rk pa pc b x]) := by
 refine spec_mk (n := 176) Try.func38 rfl rfl rfl ?_
 intro Γ w0
 simp only [argE, List.cons_append, List.nil_append, Nat.zero_add, Nat.reduceAdd]
 have htl := hx.tl
 have hol := hx.ol
 have hbl := hx.bl
 refine c_seq ?_
 refine c_plain ((.l 0 [] (.q 1 (.done)))) (by kernel_rfl) ?_
 refine l_box rfl rfl rfl rfl (us := [_, _, _]) rfl ?_
 intro b3
 refine ag_nil ?_
 refine q_assign rfl rfl rfl rfl ?_
 refine r_done ?_
 refine k_then_n ?_
 refine c_seq ?_
 refine c_seq ?_
 refine s_take (A := rk pa pc b x) Tk ?_
 refine rk_open fun ta tc oa oc ba bc => ?_
 refine c_draw rfl (.q 0 (.q 1 (.q 2 (.q 3 (.q 4 (.q 5 (.q 6 (.q 7 (.q 8 (.q 9 ((.l 10 [] (.q 11 (.q 12 (.done))))))))))))))) (by kernel_rfl) ?_
 refine q_move rfl rfl rfl rfl ?_
 refine q_eq_nil rfl rfl rfl rfl Try.underlying83 ?_
 refine s_eq 7 rfl (v' := .bool false) rfl ?_
 refine q_move rfl rfl rfl rfl ?_
 refine q_field (k := 1) rfl rfl rfl rfl Try.underlying36 rfl Try.sizeOf3 rfl ?_
 refine q_load_c (j := 1) rfl rfl rfl rfl Try.isAgg3 Tk (by first | rfl | exact (Nat.add_zero _).symm) (by rfl) ?_
 refine q_move rfl rfl rfl rfl ?_
 refine q_nil_p rfl rfl rfl rfl ?_
 refine q_field (k := 5) rfl rfl rfl rfl Try.underlying133 rfl Try.sizeOf131 rfl ?_
 refine q_load_c (j := 5) rfl rfl rfl rfl Try.isAgg131 Tk (by first | rfl | exact (Nat.add_zero _).symm) (by rfl) ?_
 refine q_len rfl rfl rfl rfl Try.underlying131 ?_
 have sp_1 := below_spec t ((x.T.length : Nat) : Int)
 refine l_call rfl rfl rfl rfl rfl rfl Try.call63 (sp_1) Ts ?_
 rintro ⟨⟩ -
 try simp only [List.cons_append, List.nil_append]
 refine ag_nil ?_
 refine q_not rfl rfl rfl rfl ?_
 refine q_pick_f rfl rfl rfl rfl rfl ?_
 refine r_done ?_
 refine s_keep [0, 3, 18] (e' := [(0, _), (3, _), (18, _)]) rfl ?_
 refine k_then_n ?_
 refine c_cond_np rfl (fun hin => ?_) (fun hin => ?_)
 ·
  refine c_seq ?_
  refine c_plain (.q 0 (.done)) (by kernel_rfl) ?_
  refine q_assign rfl rfl rfl rfl ?_
  refine r_done ?_
  refine k_then_n ?_
  refine c_ret ?_
  refine k_then_ret ?_
  refine rk_fold (b := b) x (pa := pa) (pc := pc) (ta := ta) (tc := tc) (oa := oa) (oc := oc) (ba := ba) (bc := bc) Ts (by rfl) (by rfl) (by rfl) (by rfl) ?_
  refine ret1 rfl rfl (()) (by congr 1; symm; rw [decide_eq_false_iff_not]; exact can_out hin) (by trivial) ?_
  exact Tf
 ·
  have hst := stF_at (x := x) hin.1 hin.2
  refine c_skip ?_
  refine k_then_n ?_
  refine c_seq ?_
  refine c_draw rfl (.q 0 (.q 1 (.q 2 (.q 3 (.q 4 (.q 5 (.q 6 (.q 7 ((.l 8 [3, 5, 7] ((.l 9 [] (.done))))))))))))) (by kernel_rfl) ?_
  refine q_move rfl rfl rfl rfl ?_
  refine q_nil_p rfl rfl rfl rfl ?_
  refine q_field (k := 5) rfl rfl rfl rfl Try.underlying133 rfl Try.sizeOf131 rfl ?_
  refine q_load_c (j := 5) rfl rfl rfl rfl Try.isAgg131 Tk (by first | rfl | exact (Nat.add_zero _).symm) (by rfl) ?_
  refine q_field (k := 1) rfl rfl rfl rfl Try.underlying36 rfl Try.sizeOf3 rfl ?_
  refine q_load_c (j := 1) rfl rfl rfl rfl Try.isAgg3 Tk (by first | rfl | exact (Nat.add_zero _).symm) (by rfl) ?_
  refine q_idxO (sz := 2) (k := t.toNat) (enc := enc3) (xs := x.T) rfl rfl rfl rfl rfl Try.underlying131 Try.sizeOf95 hst (by first | rfl | omega) (by omega) Tk ?_
  intro ib25 io25 ha25 hl25 hc25
  refine q_loadN_O (j := 0) (k' := t.toNat) (us := [_, _, _]) (enc := enc3) (off := io25) rfl rfl rfl rfl Try.isAgg95 Try.sizeOf95 ha25 enc3_len hst Tk (by first | rfl | exact (Nat.add_zero _).symm | omega) (by rfl) rfl ?_
  refine l_alloc rfl rfl rfl Try.zeroValue95 (zs := [.int .i64 0, .int .i64 0, .int .i64 0]) rfl ?_
  intro b5
  refine ag_load_c (q := 5) rfl rfl rfl Try.isAgg131 Tk (by first | rfl | exact (Nat.add_zero _).symm) (by rfl) ?_
  refine ag_load_c (q := 1) rfl rfl rfl Try.isAgg3 Tk (by first | rfl | exact (Nat.add_zero _).symm) (by rfl) ?_
  refine ag_loadN_O (j := 0) (k' := t.toNat) (us := [_, _, _]) (enc := enc3) (off := io25) rfl rfl rfl Try.isAgg95 Try.sizeOf95 ha25 enc3_len hst Tk (by first | rfl | exact (Nat.add_zero _).symm | omega) (by rfl) rfl ?_
  refine ag_nil ?_
  refine l_store (j := 0) rfl rfl rfl rfl Try.sizeOf95 (us := [_, _, _]) rfl rfl rfl Tk (by first | rfl | exact (Nat.add_zero _).symm) (by first | decide | (simp; done) | omega) ?_
  simp only [setL, List.set]
  refine ag_nil ?_
  refine r_done ?_
  refine s_keep [0, 3, 5] (e' := [(0, _), (3, _), (5, _)]) rfl ?_
  refine k_then_n ?_
  refine c_seq ?_
  refine c_seq ?_
  refine c_plain (.q 0 (.q 1 (.q 2 (.done)))) (by kernel_rfl) ?_
  refine q_field (k := 0) rfl rfl rfl rfl Try.underlying95 rfl Try.sizeOf93 rfl ?_
  refine q_load_c (j := 0) rfl rfl rfl rfl Try.isAgg93 Tk (by first | rfl | exact (Nat.add_zero _).symm) (by rfl) ?_
  refine q_int rfl rfl rfl rfl rfl (b_eql _ _ _ _) ?_
  refine r_done ?_
  refine k_then_n ?_
  refine c_cond_p rfl (fun h2 => ?_) (fun h2 => ?_)
  ·
   refine c_seq ?_
   refine c_plain (.q 0 (.q 1 (.q 2 (.q 3 (.q 4 (.q 5 (.q 6 (.q 7 (.q 8 (.q 9 (.q 10 (.q 11 (.q 12 (.q 13 ((.l 14 [] (.q 15 (.q 16 (.done))))))))))))))))))) (by kernel_rfl) ?_
   refine q_field (k := 0) rfl rfl rfl rfl Try.underlying36 rfl Try.sizeOf34 rfl ?_
   refine q_load_c (j := 0) rfl rfl rfl rfl Try.isAgg34 Tk (by first | rfl | exact (Nat.add_zero _).symm) (by rfl) ?_
   refine q_int rfl rfl rfl rfl rfl (b_eql _ _ _ _) ?_
   refine q_move rfl rfl rfl rfl ?_
   refine s_bool_p 33 rfl (fun h10 => ?_) (fun h10 => ?_)
   ·
    refine q_field (k := 2) rfl rfl rfl rfl Try.underlying36 rfl Try.sizeOf3 rfl ?_
    refine q_load_c (j := 2) rfl rfl rfl rfl Try.isAgg3 Tk (by first | rfl | exact (Nat.add_zero _).symm) (by rfl) ?_
    refine q_field (k := 1) rfl rfl rfl rfl Try.underlying95 rfl Try.sizeOf3 rfl ?_
    refine q_load_c (j := 1) rfl rfl rfl rfl Try.isAgg3 Tk (by first | rfl | exact (Nat.add_zero _).symm) (by rfl) ?_
    refine q_int rfl rfl rfl rfl rfl (b_eql _ _ _ _) ?_
    refine q_pick_t rfl rfl rfl rfl rfl ?_
    refine q_move rfl rfl rfl rfl ?_
    refine s_bool_p 40 rfl (fun hob => ?_) (fun hob => ?_)
    ·
     refine q_move rfl rfl rfl rfl ?_
     refine q_field (k := 1) rfl rfl rfl rfl Try.underlying36 rfl Try.sizeOf3 rfl ?_
     refine q_load_c (j := 1) rfl rfl rfl rfl Try.isAgg3 Tk (by first | rfl | exact (Nat.add_zero _).symm) (by rfl) ?_
     refine rk_fold (b := b) x (pa := pa) (pc := pc) (ta := ta) (tc := tc) (oa := oa) (oc := oc) (ba := ba) (bc := bc) Ts (by rfl) (by rfl) (by rfl) (by rfl) ?_
     have sp_2 := rfull_spec pa pc b x hx t
     refine l_call rfl rfl rfl rfl rfl rfl Try.call64 (sp_2) Ts ?_
     rintro ⟨⟩ -
     try simp only [List.cons_append, List.nil_append]
     refine ag_nil ?_
     refine s_take (A := rk pa pc b x) Tk ?_
     refine rk_open fun ta tc oa oc ba bc => ?_
     refine q_pick_t rfl rfl rfl rfl rfl ?_
     refine q_assign rfl rfl rfl rfl ?_
     refine r_done ?_
     refine s_keep [4] (e' := [(4, _)]) rfl ?_
     refine k_then_n ?_
     refine c_ret ?_
     refine k_then_ret ?_
     refine rk_fold (b := b) x (pa := pa) (pc := pc) (ta := ta) (tc := tc) (oa := oa) (oc := oc) (ba := ba) (bc := bc) Ts (by rfl) (by rfl) (by rfl) (by rfl) ?_
     refine ret1 rfl rfl (()) (by congr 1; first | (rw [decide_eq_decide, can_wait h2]; simp_all; done) | (symm; rw [decide_eq_false_iff_not, can_wait h2]; simp_all)) (by trivial) ?_
     exact Tf
    ·
     refine q_skip rfl rfl rfl rfl ?_
     refine q_skip rfl rfl rfl rfl ?_
     refine q_skip rfl rfl rfl rfl ?_
     refine l_skip rfl rfl rfl rfl ?_
     refine q_pick_f rfl rfl rfl rfl rfl ?_
     refine q_assign rfl rfl rfl rfl ?_
     refine r_done ?_
     refine s_keep [4] (e' := [(4, _)]) rfl ?_
     refine k_then_n ?_
     refine c_ret ?_
     refine k_then_ret ?_
     refine rk_fold (b := b) x (pa := pa) (pc := pc) (ta := ta) (tc := tc) (oa := oa) (oc := oc) (ba := ba) (bc := bc) Ts (by rfl) (by rfl) (by rfl) (by rfl) ?_
     refine ret1 rfl rfl (()) (by congr 1; first | (rw [decide_eq_decide, can_wait h2]; simp_all; done) | (symm; rw [decide_eq_false_iff_not, can_wait h2]; simp_all)) (by trivial) ?_
     exact Tf
   ·
    refine q_skip rfl rfl rfl rfl ?_
    refine q_skip rfl rfl rfl rfl ?_
    refine q_skip rfl rfl rfl rfl ?_
    refine q_skip rfl rfl rfl rfl ?_
    refine q_skip rfl rfl rfl rfl ?_
    refine q_pick_f rfl rfl rfl rfl rfl ?_
    refine q_move rfl rfl rfl rfl ?_
    refine q_skip rfl rfl rfl rfl ?_
    refine q_skip rfl rfl rfl rfl ?_
    refine q_skip rfl rfl rfl rfl ?_
    refine l_skip rfl rfl rfl rfl ?_
    refine q_pick_f rfl rfl rfl rfl rfl ?_
    refine q_assign rfl rfl rfl rfl ?_
    refine r_done ?_
    refine s_keep [4] (e' := [(4, _)]) rfl ?_
    refine k_then_n ?_
    refine c_ret ?_
    refine k_then_ret ?_
    refine rk_fold (b := b) x (pa := pa) (pc := pc) (ta := ta) (tc := tc) (oa := oa) (oc := oc) (ba := ba) (bc := bc) Ts (by rfl) (by rfl) (by rfl) (by rfl) ?_
    refine ret1 rfl rfl (()) (by congr 1; first | (rw [decide_eq_decide, can_wait h2]; simp_all; done) | (symm; rw [decide_eq_false_iff_not, can_wait h2]; simp_all)) (by trivial) ?_
    exact Tf
  ·
   refine c_skip ?_
   refine k_then_n ?_
   refine c_seq ?_
   refine c_seq ?_
   refine c_plain (.q 0 (.q 1 (.q 2 (.done)))) (by kernel_rfl) ?_
   refine q_field (k := 0) rfl rfl rfl rfl Try.underlying95 rfl Try.sizeOf93 rfl ?_
   refine q_load_c (j := 0) rfl rfl rfl rfl Try.isAgg93 Tk (by first | rfl | exact (Nat.add_zero _).symm) (by rfl) ?_
   refine q_int rfl rfl rfl rfl rfl (b_neq _ _ _ _) ?_
   refine r_done ?_
   refine s_keep [0, 3, 48] (e' := [(0, _), (3, _), (48, _)]) rfl ?_
   refine k_then_n ?_
   refine c_cond_p rfl (fun h1 => ?_) (fun h1 => ?_)
   ·
    refine c_seq ?_
    refine c_plain (.q 0 (.done)) (by kernel_rfl) ?_
    refine q_assign rfl rfl rfl rfl ?_
    refine r_done ?_
    refine k_then_n ?_
    refine c_ret ?_
    refine k_then_ret ?_
    refine rk_fold (b := b) x (pa := pa) (pc := pc) (ta := ta) (tc := tc) (oa := oa) (oc := oc) (ba := ba) (bc := bc) Ts (by rfl) (by rfl) (by rfl) (by rfl) ?_
    refine ret1 rfl rfl (()) (by congr 1; symm; rw [decide_eq_false_iff_not]; exact can_not h2 (.inl h1)) (by trivial) ?_
    exact Tf
   ·
    have h1 : (stF x t).1 = 1 := by omega
    refine c_skip ?_
    refine k_then_n ?_
    refine c_seq ?_
    refine c_seq ?_
    refine c_plain (.q 0 (.q 1 (.done))) (by kernel_rfl) ?_
    refine q_field (k := 0) rfl rfl rfl rfl Try.underlying36 rfl Try.sizeOf34 rfl ?_
    refine q_load_c (j := 0) rfl rfl rfl rfl Try.isAgg34 Tk (by first | rfl | exact (Nat.add_zero _).symm) (by rfl) ?_
    refine r_done ?_
    refine k_then_n ?_
    refine c_block ?_
    refine c_seq ?_
    refine c_seq ?_
    refine c_plain (.q 0 (.q 1 (.done))) (by kernel_rfl) ?_
    refine q_int rfl rfl rfl rfl rfl (b_eql _ _ _ _) ?_
    refine q_assign rfl rfl rfl rfl ?_
    refine r_done ?_
    refine k_then_n ?_
    refine c_cond_p rfl (fun k1 => ?_) (fun k1 => ?_)
    ·
     refine s_eq 51 rfl (v' := .bool true) (by rw [decide_eq_true k1]) ?_
     refine c_skip ?_
     refine k_then_n ?_
     refine c_cond_t rfl ?_
     refine c_seq ?_
     refine c_draw rfl (.q 0 (.q 1 (.q 2 (.q 3 (.q 4 (.q 5 (.q 6 ((.l 7 [] (.q 8 (.done))))))))))) (by kernel_rfl) ?_
     refine q_field (k := 2) rfl rfl rfl rfl Try.underlying36 rfl Try.sizeOf3 rfl ?_
     refine q_load_c (j := 2) rfl rfl rfl rfl Try.isAgg3 Tk (by first | rfl | exact (Nat.add_zero _).symm) (by rfl) ?_
     refine q_move rfl rfl rfl rfl ?_
     refine q_nil_p rfl rfl rfl rfl ?_
     refine q_field (k := 0) rfl rfl rfl rfl Try.underlying133 rfl Try.sizeOf25 rfl ?_
     refine q_field (k := 1) rfl rfl rfl rfl Try.underlying25 rfl Try.sizeOf3 rfl ?_
     refine q_load_c (j := 1) rfl rfl rfl rfl Try.isAgg3 Tk (by first | rfl | exact (Nat.add_zero _).symm) (by rfl) ?_
     have sp_3 := below_spec o x.va
     refine l_call rfl rfl rfl rfl rfl rfl Try.call63 (sp_3) Ts ?_
     rintro ⟨⟩ -
     try simp only [List.cons_append, List.nil_append]
     refine ag_nil ?_
     refine q_assign rfl rfl rfl rfl ?_
     refine r_done ?_
     refine s_keep [4] (e' := [(4, _)]) rfl ?_
     refine k_then_n ?_
     refine c_ret ?_
     refine k_blk_ret ?_
     refine k_then_ret ?_
     refine rk_fold (b := b) x (pa := pa) (pc := pc) (ta := ta) (tc := tc) (oa := oa) (oc := oc) (ba := ba) (bc := bc) Ts (by rfl) (by rfl) (by rfl) (by rfl) ?_
     refine ret1 rfl rfl (()) (by congr 1; rw [decide_eq_decide, can_run' h1, okK_k.1 (.inl k1)]; try rfl) (by trivial) ?_
     exact Tf
    ·
     refine s_eq 51 rfl (v' := .bool false) (by rw [decide_eq_false k1]) ?_
     refine c_plain (.q 0 (.q 1 (.done))) (by kernel_rfl) ?_
     refine q_int rfl rfl rfl rfl rfl (b_eql _ _ _ _) ?_
     refine q_assign rfl rfl rfl rfl ?_
     refine r_done ?_
     refine s_keep [0, 3, 50, 51] (e' := [(0, _), (3, _), (50, _), (51, _)]) rfl ?_
     refine k_then_n ?_
     refine c_cond_p rfl (fun k2 => ?_) (fun k2 => ?_)
     ·
      refine c_seq ?_
      refine c_draw rfl (.q 0 (.q 1 (.q 2 (.q 3 (.q 4 (.q 5 (.q 6 ((.l 7 [] (.q 8 (.done))))))))))) (by kernel_rfl) ?_
      refine q_field (k := 2) rfl rfl rfl rfl Try.underlying36 rfl Try.sizeOf3 rfl ?_
      refine q_load_c (j := 2) rfl rfl rfl rfl Try.isAgg3 Tk (by first | rfl | exact (Nat.add_zero _).symm) (by rfl) ?_
      refine q_move rfl rfl rfl rfl ?_
      refine q_nil_p rfl rfl rfl rfl ?_
      refine q_field (k := 0) rfl rfl rfl rfl Try.underlying133 rfl Try.sizeOf25 rfl ?_
      refine q_field (k := 1) rfl rfl rfl rfl Try.underlying25 rfl Try.sizeOf3 rfl ?_
      refine q_load_c (j := 1) rfl rfl rfl rfl Try.isAgg3 Tk (by first | rfl | exact (Nat.add_zero _).symm) (by rfl) ?_
      have sp_4 := below_spec o x.va
      refine l_call rfl rfl rfl rfl rfl rfl Try.call63 (sp_4) Ts ?_
      rintro ⟨⟩ -
      try simp only [List.cons_append, List.nil_append]
      refine ag_nil ?_
      refine q_assign rfl rfl rfl rfl ?_
      refine r_done ?_
      refine s_keep [4] (e' := [(4, _)]) rfl ?_
      refine k_then_n ?_
      refine c_ret ?_
      refine k_blk_ret ?_
      refine k_then_ret ?_
      refine rk_fold (b := b) x (pa := pa) (pc := pc) (ta := ta) (tc := tc) (oa := oa) (oc := oc) (ba := ba) (bc := bc) Ts (by rfl) (by rfl) (by rfl) (by rfl) ?_
      refine ret1 rfl rfl (()) (by congr 1; rw [decide_eq_decide, can_run' h1, okK_k.1 (.inr k2)]; try rfl) (by trivial) ?_
      exact Tf
     ·
      refine c_seq ?_
      refine c_seq ?_
      refine c_plain (.q 0 (.q 1 (.done))) (by kernel_rfl) ?_
      refine q_int rfl rfl rfl rfl rfl (b_eql _ _ _ _) ?_
      refine q_assign rfl rfl rfl rfl ?_
      refine r_done ?_
      refine k_then_n ?_
      refine c_cond_p rfl (fun k3 => ?_) (fun k3 => ?_)
      ·
       refine s_eq 62 rfl (v' := .bool true) (by rw [decide_eq_true k3]) ?_
       refine c_skip ?_
       refine k_then_n ?_
       refine c_cond_t rfl ?_
       refine c_seq ?_
       refine c_draw rfl (.q 0 (.q 1 (.q 2 (.q 3 (.q 4 (.q 5 (.q 6 ((.l 7 [] (.q 8 (.done))))))))))) (by kernel_rfl) ?_
       refine q_field (k := 2) rfl rfl rfl rfl Try.underlying36 rfl Try.sizeOf3 rfl ?_
       refine q_load_c (j := 2) rfl rfl rfl rfl Try.isAgg3 Tk (by first | rfl | exact (Nat.add_zero _).symm) (by rfl) ?_
       refine q_move rfl rfl rfl rfl ?_
       refine q_nil_p rfl rfl rfl rfl ?_
       refine q_field (k := 0) rfl rfl rfl rfl Try.underlying133 rfl Try.sizeOf25 rfl ?_
       refine q_field (k := 2) rfl rfl rfl rfl Try.underlying25 rfl Try.sizeOf3 rfl ?_
       refine q_load_c (j := 2) rfl rfl rfl rfl Try.isAgg3 Tk (by first | rfl | exact (Nat.add_zero _).symm) (by rfl) ?_
       have sp_5 := below_spec o x.vo
       refine l_call rfl rfl rfl rfl rfl rfl Try.call63 (sp_5) Ts ?_
       rintro ⟨⟩ -
       try simp only [List.cons_append, List.nil_append]
       refine ag_nil ?_
       refine q_assign rfl rfl rfl rfl ?_
       refine r_done ?_
       refine s_keep [4] (e' := [(4, _)]) rfl ?_
       refine k_then_n ?_
       refine c_ret ?_
       refine k_blk_ret ?_
       refine k_then_ret ?_
       refine rk_fold (b := b) x (pa := pa) (pc := pc) (ta := ta) (tc := tc) (oa := oa) (oc := oc) (ba := ba) (bc := bc) Ts (by rfl) (by rfl) (by rfl) (by rfl) ?_
       refine ret1 rfl rfl (()) (by congr 1; rw [decide_eq_decide, can_run' h1, okK_k.2.1 (.inl k3)]; try rfl) (by trivial) ?_
       exact Tf
      ·
       refine s_eq 62 rfl (v' := .bool false) (by rw [decide_eq_false k3]) ?_
       refine c_plain (.q 0 (.q 1 (.done))) (by kernel_rfl) ?_
       refine q_int rfl rfl rfl rfl rfl (b_eql _ _ _ _) ?_
       refine q_assign rfl rfl rfl rfl ?_
       refine r_done ?_
       refine k_then_n ?_
       refine c_cond_p rfl (fun k4 => ?_) (fun k4 => ?_)
       ·
        refine c_seq ?_
        refine c_draw rfl (.q 0 (.q 1 (.q 2 (.q 3 (.q 4 (.q 5 (.q 6 ((.l 7 [] (.q 8 (.done))))))))))) (by kernel_rfl) ?_
        refine q_field (k := 2) rfl rfl rfl rfl Try.underlying36 rfl Try.sizeOf3 rfl ?_
        refine q_load_c (j := 2) rfl rfl rfl rfl Try.isAgg3 Tk (by first | rfl | exact (Nat.add_zero _).symm) (by rfl) ?_
        refine q_move rfl rfl rfl rfl ?_
        refine q_nil_p rfl rfl rfl rfl ?_
        refine q_field (k := 0) rfl rfl rfl rfl Try.underlying133 rfl Try.sizeOf25 rfl ?_
        refine q_field (k := 2) rfl rfl rfl rfl Try.underlying25 rfl Try.sizeOf3 rfl ?_
        refine q_load_c (j := 2) rfl rfl rfl rfl Try.isAgg3 Tk (by first | rfl | exact (Nat.add_zero _).symm) (by rfl) ?_
        have sp_6 := below_spec o x.vo
        refine l_call rfl rfl rfl rfl rfl rfl Try.call63 (sp_6) Ts ?_
        rintro ⟨⟩ -
        try simp only [List.cons_append, List.nil_append]
        refine ag_nil ?_
        refine q_assign rfl rfl rfl rfl ?_
        refine r_done ?_
        refine s_keep [4] (e' := [(4, _)]) rfl ?_
        refine k_then_n ?_
        refine c_ret ?_
        refine k_blk_ret ?_
        refine k_then_ret ?_
        refine rk_fold (b := b) x (pa := pa) (pc := pc) (ta := ta) (tc := tc) (oa := oa) (oc := oc) (ba := ba) (bc := bc) Ts (by rfl) (by rfl) (by rfl) (by rfl) ?_
        refine ret1 rfl rfl (()) (by congr 1; rw [decide_eq_decide, can_run' h1, okK_k.2.1 (.inr k4)]; try rfl) (by trivial) ?_
        exact Tf
       ·
        refine c_seq ?_
        refine c_plain (.q 0 (.q 1 (.done))) (by kernel_rfl) ?_
        refine q_int rfl rfl rfl rfl rfl (b_eql _ _ _ _) ?_
        refine q_assign rfl rfl rfl rfl ?_
        refine r_done ?_
        refine s_keep [0, 3, 50, 73] (e' := [(0, _), (3, _), (50, _), (73, _)]) rfl ?_
        refine k_then_n ?_
        refine c_cond_p rfl (fun k5 => ?_) (fun k5 => ?_)
        ·
         refine c_seq ?_
         refine c_draw rfl (.q 0 (.q 1 (.q 2 (.q 3 (.q 4 (.q 5 (.q 6 ((.l 7 [] (.q 8 (.q 9 (.q 10 (.q 11 (.q 12 (.q 13 (.q 14 (.q 15 (.q 16 (.q 17 (.q 18 (.q 19 (.done)))))))))))))))))))))) (by kernel_rfl) ?_
         refine q_field (k := 2) rfl rfl rfl rfl Try.underlying36 rfl Try.sizeOf3 rfl ?_
         refine q_load_c (j := 2) rfl rfl rfl rfl Try.isAgg3 Tk (by first | rfl | exact (Nat.add_zero _).symm) (by rfl) ?_
         refine q_move rfl rfl rfl rfl ?_
         refine q_nil_p rfl rfl rfl rfl ?_
         refine q_field (k := 6) rfl rfl rfl rfl Try.underlying133 rfl Try.sizeOf23 rfl ?_
         refine q_load_c (j := 6) rfl rfl rfl rfl Try.isAgg23 Tk (by first | rfl | exact (Nat.add_zero _).symm) (by rfl) ?_
         refine q_len rfl rfl rfl rfl Try.underlying23 ?_
         have sp_7 := below_spec o ((x.O.length : Nat) : Int)
         refine l_call rfl rfl rfl rfl rfl rfl Try.call63 (sp_7) Ts ?_
         rintro ⟨⟩ -
         try simp only [List.cons_append, List.nil_append]
         refine ag_nil ?_
         refine q_move rfl rfl rfl rfl ?_
         refine s_bool_p 83 rfl (fun hin2 => ?_) (fun hin2 => ?_)
         ·
          have hel := owV_at (x := x) (l := o) hin2.1 hin2.2
          refine q_move rfl rfl rfl rfl ?_
          refine q_nil_p rfl rfl rfl rfl ?_
          refine q_field (k := 6) rfl rfl rfl rfl Try.underlying133 rfl Try.sizeOf23 rfl ?_
          refine q_load_c (j := 6) rfl rfl rfl rfl Try.isAgg23 Tk (by first | rfl | exact (Nat.add_zero _).symm) (by rfl) ?_
          refine q_field (k := 2) rfl rfl rfl rfl Try.underlying36 rfl Try.sizeOf3 rfl ?_
          refine q_load_c (j := 2) rfl rfl rfl rfl Try.isAgg3 Tk (by first | rfl | exact (Nat.add_zero _).symm) (by rfl) ?_
          refine q_idxO (sz := 0) (k := o.toNat) (enc := encZ) (xs := x.O) rfl rfl rfl rfl rfl Try.underlying23 Try.sizeOf3 hel (by first | rfl | omega) (by omega) Tk ?_
          intro ib90 io90 ha90 hl90 hc90
          refine q_load_O (v := (.int .i64 (owV x o))) (j := 0) (k' := o.toNat) (enc := encZ) (off := io90) rfl rfl rfl rfl Try.isAgg3 ha90 encZ_len hel Tk (by first | rfl | exact (Nat.add_zero _).symm | omega) (by rfl) ?_
          refine q_int rfl rfl rfl rfl rfl (b_eql _ _ _ _) ?_
          refine q_pick_t rfl rfl rfl rfl rfl ?_
          refine q_assign rfl rfl rfl rfl ?_
          refine r_done ?_
          refine s_keep [4] (e' := [(4, _)]) rfl ?_
          refine k_then_n ?_
          refine c_ret ?_
          refine k_blk_ret ?_
          refine k_then_ret ?_
          refine rk_fold (b := b) x (pa := pa) (pc := pc) (ta := ta) (tc := tc) (oa := oa) (oc := oc) (ba := ba) (bc := bc) Ts (by rfl) (by rfl) (by rfl) (by rfl) ?_
          refine ret1 rfl rfl (()) (by congr 1; rw [decide_eq_decide, can_run' h1, okK_k.2.2.1 (k5)]; rw [owF_n]; exact ⟨fun h => ⟨hin2.1, by omega, h⟩, fun h => h.2.2⟩) (by trivial) ?_
          exact Tf
         ·
          refine q_skip rfl rfl rfl rfl ?_
          refine q_skip rfl rfl rfl rfl ?_
          refine q_skip rfl rfl rfl rfl ?_
          refine q_skip rfl rfl rfl rfl ?_
          refine q_skip rfl rfl rfl rfl ?_
          refine q_skip rfl rfl rfl rfl ?_
          refine q_skip rfl rfl rfl rfl ?_
          refine q_skip rfl rfl rfl rfl ?_
          refine q_skip rfl rfl rfl rfl ?_
          refine q_pick_f rfl rfl rfl rfl rfl ?_
          refine q_assign rfl rfl rfl rfl ?_
          refine r_done ?_
          refine s_keep [4] (e' := [(4, _)]) rfl ?_
          refine k_then_n ?_
          refine c_ret ?_
          refine k_blk_ret ?_
          refine k_then_ret ?_
          refine rk_fold (b := b) x (pa := pa) (pc := pc) (ta := ta) (tc := tc) (oa := oa) (oc := oc) (ba := ba) (bc := bc) Ts (by rfl) (by rfl) (by rfl) (by rfl) ?_
          refine ret1 rfl rfl (()) (by congr 1; symm; rw [decide_eq_false_iff_not, can_run' h1, okK_k.2.2.1 (k5)]; rintro ⟨q1, q2, -⟩; omega) (by trivial) ?_
          exact Tf
        ·
         refine c_seq ?_
         refine c_plain (.q 0 (.q 1 (.done))) (by kernel_rfl) ?_
         refine q_int rfl rfl rfl rfl rfl (b_eql _ _ _ _) ?_
         refine q_assign rfl rfl rfl rfl ?_
         refine r_done ?_
         refine k_then_n ?_
         refine c_cond_p rfl (fun k6 => ?_) (fun k6 => ?_)
         ·
          refine c_seq ?_
          refine c_draw rfl (.q 0 (.q 1 (.q 2 (.q 3 (.q 4 (.q 5 (.q 6 ((.l 7 [] (.q 8 (.q 9 (.q 10 (.q 11 (.q 12 (.q 13 (.q 14 (.q 15 (.q 16 (.q 17 (.q 18 (.q 19 (.q 20 (.q 21 (.done)))))))))))))))))))))))) (by kernel_rfl) ?_
          refine q_field (k := 2) rfl rfl rfl rfl Try.underlying36 rfl Try.sizeOf3 rfl ?_
          refine q_load_c (j := 2) rfl rfl rfl rfl Try.isAgg3 Tk (by first | rfl | exact (Nat.add_zero _).symm) (by rfl) ?_
          refine q_move rfl rfl rfl rfl ?_
          refine q_nil_p rfl rfl rfl rfl ?_
          refine q_field (k := 6) rfl rfl rfl rfl Try.underlying133 rfl Try.sizeOf23 rfl ?_
          refine q_load_c (j := 6) rfl rfl rfl rfl Try.isAgg23 Tk (by first | rfl | exact (Nat.add_zero _).symm) (by rfl) ?_
          refine q_len rfl rfl rfl rfl Try.underlying23 ?_
          have sp_8 := below_spec o ((x.O.length : Nat) : Int)
          refine l_call rfl rfl rfl rfl rfl rfl Try.call63 (sp_8) Ts ?_
          rintro ⟨⟩ -
          try simp only [List.cons_append, List.nil_append]
          refine ag_nil ?_
          refine q_move rfl rfl rfl rfl ?_
          refine s_bool_p 104 rfl (fun hin2 => ?_) (fun hin2 => ?_)
          ·
           have hel := owV_at (x := x) (l := o) hin2.1 hin2.2
           refine q_move rfl rfl rfl rfl ?_
           refine q_nil_p rfl rfl rfl rfl ?_
           refine q_field (k := 6) rfl rfl rfl rfl Try.underlying133 rfl Try.sizeOf23 rfl ?_
           refine q_load_c (j := 6) rfl rfl rfl rfl Try.isAgg23 Tk (by first | rfl | exact (Nat.add_zero _).symm) (by rfl) ?_
           refine q_field (k := 2) rfl rfl rfl rfl Try.underlying36 rfl Try.sizeOf3 rfl ?_
           refine q_load_c (j := 2) rfl rfl rfl rfl Try.isAgg3 Tk (by first | rfl | exact (Nat.add_zero _).symm) (by rfl) ?_
           refine q_idxO (sz := 0) (k := o.toNat) (enc := encZ) (xs := x.O) rfl rfl rfl rfl rfl Try.underlying23 Try.sizeOf3 hel (by first | rfl | omega) (by omega) Tk ?_
           intro ib111 io111 ha111 hl111 hc111
           refine q_load_O (v := (.int .i64 (owV x o))) (j := 0) (k' := o.toNat) (enc := encZ) (off := io111) rfl rfl rfl rfl Try.isAgg3 ha111 encZ_len hel Tk (by first | rfl | exact (Nat.add_zero _).symm | omega) (by rfl) ?_
           refine q_field (k := 1) rfl rfl rfl rfl Try.underlying36 rfl Try.sizeOf3 rfl ?_
           refine q_load_c (j := 1) rfl rfl rfl rfl Try.isAgg3 Tk (by first | rfl | exact (Nat.add_zero _).symm) (by rfl) ?_
           refine q_int rfl rfl rfl rfl rfl (b_eql _ _ _ _) ?_
           refine q_pick_t rfl rfl rfl rfl rfl ?_
           refine q_assign rfl rfl rfl rfl ?_
           refine r_done ?_
           refine s_keep [4] (e' := [(4, _)]) rfl ?_
           refine k_then_n ?_
           refine c_ret ?_
           refine k_blk_ret ?_
           refine k_then_ret ?_
           refine rk_fold (b := b) x (pa := pa) (pc := pc) (ta := ta) (tc := tc) (oa := oa) (oc := oc) (ba := ba) (bc := bc) Ts (by rfl) (by rfl) (by rfl) (by rfl) ?_
           refine ret1 rfl rfl (()) (by congr 1; rw [decide_eq_decide, can_run' h1, okK_k.2.2.2.1 (k6)]; rw [owF_s (by omega)]; exact ⟨fun h => ⟨hin2.1, by omega, h⟩, fun h => h.2.2⟩) (by trivial) ?_
           exact Tf
          ·
           refine q_skip rfl rfl rfl rfl ?_
           refine q_skip rfl rfl rfl rfl ?_
           refine q_skip rfl rfl rfl rfl ?_
           refine q_skip rfl rfl rfl rfl ?_
           refine q_skip rfl rfl rfl rfl ?_
           refine q_skip rfl rfl rfl rfl ?_
           refine q_skip rfl rfl rfl rfl ?_
           refine q_skip rfl rfl rfl rfl ?_
           refine q_skip rfl rfl rfl rfl ?_
           refine q_skip rfl rfl rfl rfl ?_
           refine q_skip rfl rfl rfl rfl ?_
           refine q_pick_f rfl rfl rfl rfl rfl ?_
           refine q_assign rfl rfl rfl rfl ?_
           refine r_done ?_
           refine s_keep [4] (e' := [(4, _)]) rfl ?_
           refine k_then_n ?_
           refine c_ret ?_
           refine k_blk_ret ?_
           refine k_then_ret ?_
           refine rk_fold (b := b) x (pa := pa) (pc := pc) (ta := ta) (tc := tc) (oa := oa) (oc := oc) (ba := ba) (bc := bc) Ts (by rfl) (by rfl) (by rfl) (by rfl) ?_
           refine ret1 rfl rfl (()) (by congr 1; symm; rw [decide_eq_false_iff_not, can_run' h1, okK_k.2.2.2.1 (k6)]; rintro ⟨q1, q2, -⟩; omega) (by trivial) ?_
           exact Tf
         ·
          refine c_seq ?_
          refine c_plain (.q 0 (.q 1 (.done))) (by kernel_rfl) ?_
          refine q_int rfl rfl rfl rfl rfl (b_eql _ _ _ _) ?_
          refine q_assign rfl rfl rfl rfl ?_
          refine r_done ?_
          refine s_keep [0, 3, 50, 117] (e' := [(0, _), (3, _), (50, _), (117, _)]) rfl ?_
          refine k_then_n ?_
          refine c_cond_p rfl (fun k7 => ?_) (fun k7 => ?_)
          ·
           refine c_seq ?_
           refine c_draw rfl (.q 0 (.q 1 (.q 2 (.q 3 (.q 4 (.q 5 (.q 6 ((.l 7 [] (.q 8 (.q 9 (.q 10 (.q 11 (.q 12 (.q 13 (.q 14 (.q 15 (.q 16 (.q 17 (.q 18 (.q 19 (.q 20 (.done))))))))))))))))))))))) (by kernel_rfl) ?_
           refine q_field (k := 2) rfl rfl rfl rfl Try.underlying36 rfl Try.sizeOf3 rfl ?_
           refine q_load_c (j := 2) rfl rfl rfl rfl Try.isAgg3 Tk (by first | rfl | exact (Nat.add_zero _).symm) (by rfl) ?_
           refine q_move rfl rfl rfl rfl ?_
           refine q_nil_p rfl rfl rfl rfl ?_
           refine q_field (k := 5) rfl rfl rfl rfl Try.underlying133 rfl Try.sizeOf131 rfl ?_
           refine q_load_c (j := 5) rfl rfl rfl rfl Try.isAgg131 Tk (by first | rfl | exact (Nat.add_zero _).symm) (by rfl) ?_
           refine q_len rfl rfl rfl rfl Try.underlying131 ?_
           have sp_9 := below_spec o ((x.T.length : Nat) : Int)
           refine l_call rfl rfl rfl rfl rfl rfl Try.call63 (sp_9) Ts ?_
           rintro ⟨⟩ -
           try simp only [List.cons_append, List.nil_append]
           refine ag_nil ?_
           refine q_move rfl rfl rfl rfl ?_
           refine s_bool_p 127 rfl (fun hin2 => ?_) (fun hin2 => ?_)
           ·
            have hel := stF_at (x := x) (t := o) hin2.1 hin2.2
            refine q_move rfl rfl rfl rfl ?_
            refine q_nil_p rfl rfl rfl rfl ?_
            refine q_field (k := 5) rfl rfl rfl rfl Try.underlying133 rfl Try.sizeOf131 rfl ?_
            refine q_load_c (j := 5) rfl rfl rfl rfl Try.isAgg131 Tk (by first | rfl | exact (Nat.add_zero _).symm) (by rfl) ?_
            refine q_field (k := 2) rfl rfl rfl rfl Try.underlying36 rfl Try.sizeOf3 rfl ?_
            refine q_load_c (j := 2) rfl rfl rfl rfl Try.isAgg3 Tk (by first | rfl | exact (Nat.add_zero _).symm) (by rfl) ?_
            refine q_idxO (sz := 2) (k := o.toNat) (enc := enc3) (xs := x.T) rfl rfl rfl rfl rfl Try.underlying131 Try.sizeOf95 hel (by first | rfl | omega) (by omega) Tk ?_
            intro ib134 io134 ha134 hl134 hc134
            refine q_field (k := 0) rfl rfl rfl rfl Try.underlying95 rfl Try.sizeOf93 rfl ?_
            refine q_load_O (v := (.int .i64 ((stF x o).1))) (j := 0) (k' := o.toNat) (enc := enc3) (off := io134) rfl rfl rfl rfl Try.isAgg93 ha134 enc3_len hel Tk (by first | rfl | exact (Nat.add_zero _).symm | omega) (by rfl) ?_
            refine q_int rfl rfl rfl rfl rfl (b_eql _ _ _ _) ?_
            refine q_pick_t rfl rfl rfl rfl rfl ?_
            refine q_assign rfl rfl rfl rfl ?_
            refine r_done ?_
            refine s_keep [4] (e' := [(4, _)]) rfl ?_
            refine k_then_n ?_
            refine c_ret ?_
            refine k_blk_ret ?_
            refine k_then_ret ?_
            refine rk_fold (b := b) x (pa := pa) (pc := pc) (ta := ta) (tc := tc) (oa := oa) (oc := oc) (ba := ba) (bc := bc) Ts (by rfl) (by rfl) (by rfl) (by rfl) ?_
            refine ret1 rfl rfl (()) (by congr 1; rw [decide_eq_decide, can_run' h1, okK_k.2.2.2.2.1 (k7)]; omega) (by trivial) ?_
            exact Tf
           ·
            refine q_skip rfl rfl rfl rfl ?_
            refine q_skip rfl rfl rfl rfl ?_
            refine q_skip rfl rfl rfl rfl ?_
            refine q_skip rfl rfl rfl rfl ?_
            refine q_skip rfl rfl rfl rfl ?_
            refine q_skip rfl rfl rfl rfl ?_
            refine q_skip rfl rfl rfl rfl ?_
            refine q_skip rfl rfl rfl rfl ?_
            refine q_skip rfl rfl rfl rfl ?_
            refine q_skip rfl rfl rfl rfl ?_
            refine q_pick_f rfl rfl rfl rfl rfl ?_
            refine q_assign rfl rfl rfl rfl ?_
            refine r_done ?_
            refine s_keep [4] (e' := [(4, _)]) rfl ?_
            refine k_then_n ?_
            refine c_ret ?_
            refine k_blk_ret ?_
            refine k_then_ret ?_
            refine rk_fold (b := b) x (pa := pa) (pc := pc) (ta := ta) (tc := tc) (oa := oa) (oc := oc) (ba := ba) (bc := bc) Ts (by rfl) (by rfl) (by rfl) (by rfl) ?_
            refine ret1 rfl rfl (()) (by congr 1; symm; rw [decide_eq_false_iff_not, can_run' h1, okK_k.2.2.2.2.1 (k7)]; rintro ⟨q1, q2, -⟩; omega) (by trivial) ?_
            exact Tf
          ·
           refine c_seq ?_
           refine c_plain (.q 0 (.q 1 (.done))) (by kernel_rfl) ?_
           refine q_int rfl rfl rfl rfl rfl (b_eql _ _ _ _) ?_
           refine q_assign rfl rfl rfl rfl ?_
           refine r_done ?_
           refine k_then_n ?_
           refine c_cond_p rfl (fun k8 => ?_) (fun k8 => ?_)
           ·
            refine c_seq ?_
            refine c_draw rfl (.q 0 (.q 1 (.q 2 (.q 3 (.q 4 (.q 5 (.q 6 ((.l 7 [] (.q 8 (.q 9 (.q 10 (.q 11 (.q 12 (.q 13 (.q 14 (.q 15 (.q 16 (.q 17 (.q 18 (.q 19 (.q 20 (.done))))))))))))))))))))))) (by kernel_rfl) ?_
            refine q_field (k := 2) rfl rfl rfl rfl Try.underlying36 rfl Try.sizeOf3 rfl ?_
            refine q_load_c (j := 2) rfl rfl rfl rfl Try.isAgg3 Tk (by first | rfl | exact (Nat.add_zero _).symm) (by rfl) ?_
            refine q_move rfl rfl rfl rfl ?_
            refine q_nil_p rfl rfl rfl rfl ?_
            refine q_field (k := 5) rfl rfl rfl rfl Try.underlying133 rfl Try.sizeOf131 rfl ?_
            refine q_load_c (j := 5) rfl rfl rfl rfl Try.isAgg131 Tk (by first | rfl | exact (Nat.add_zero _).symm) (by rfl) ?_
            refine q_len rfl rfl rfl rfl Try.underlying131 ?_
            have sp_10 := below_spec o ((x.T.length : Nat) : Int)
            refine l_call rfl rfl rfl rfl rfl rfl Try.call63 (sp_10) Ts ?_
            rintro ⟨⟩ -
            try simp only [List.cons_append, List.nil_append]
            refine ag_nil ?_
            refine q_move rfl rfl rfl rfl ?_
            refine s_bool_p 149 rfl (fun hin2 => ?_) (fun hin2 => ?_)
            ·
             have hel := stF_at (x := x) (t := o) hin2.1 hin2.2
             refine q_move rfl rfl rfl rfl ?_
             refine q_nil_p rfl rfl rfl rfl ?_
             refine q_field (k := 5) rfl rfl rfl rfl Try.underlying133 rfl Try.sizeOf131 rfl ?_
             refine q_load_c (j := 5) rfl rfl rfl rfl Try.isAgg131 Tk (by first | rfl | exact (Nat.add_zero _).symm) (by rfl) ?_
             refine q_field (k := 2) rfl rfl rfl rfl Try.underlying36 rfl Try.sizeOf3 rfl ?_
             refine q_load_c (j := 2) rfl rfl rfl rfl Try.isAgg3 Tk (by first | rfl | exact (Nat.add_zero _).symm) (by rfl) ?_
             refine q_idxO (sz := 2) (k := o.toNat) (enc := enc3) (xs := x.T) rfl rfl rfl rfl rfl Try.underlying131 Try.sizeOf95 hel (by first | rfl | omega) (by omega) Tk ?_
             intro ib156 io156 ha156 hl156 hc156
             refine q_field (k := 0) rfl rfl rfl rfl Try.underlying95 rfl Try.sizeOf93 rfl ?_
             refine q_load_O (v := (.int .i64 ((stF x o).1))) (j := 0) (k' := o.toNat) (enc := enc3) (off := io156) rfl rfl rfl rfl Try.isAgg93 ha156 enc3_len hel Tk (by first | rfl | exact (Nat.add_zero _).symm | omega) (by rfl) ?_
             refine q_int rfl rfl rfl rfl rfl (b_eql _ _ _ _) ?_
             refine q_pick_t rfl rfl rfl rfl rfl ?_
             refine q_assign rfl rfl rfl rfl ?_
             refine r_done ?_
             refine s_keep [4] (e' := [(4, _)]) rfl ?_
             refine k_then_n ?_
             refine c_ret ?_
             refine k_blk_ret ?_
             refine k_then_ret ?_
             refine rk_fold (b := b) x (pa := pa) (pc := pc) (ta := ta) (tc := tc) (oa := oa) (oc := oc) (ba := ba) (bc := bc) Ts (by rfl) (by rfl) (by rfl) (by rfl) ?_
             refine ret1 rfl rfl (()) (by congr 1; rw [decide_eq_decide, can_run' h1, okK_k.2.2.2.2.2.1 (k8)]; omega) (by trivial) ?_
             exact Tf
            ·
             refine q_skip rfl rfl rfl rfl ?_
             refine q_skip rfl rfl rfl rfl ?_
             refine q_skip rfl rfl rfl rfl ?_
             refine q_skip rfl rfl rfl rfl ?_
             refine q_skip rfl rfl rfl rfl ?_
             refine q_skip rfl rfl rfl rfl ?_
             refine q_skip rfl rfl rfl rfl ?_
             refine q_skip rfl rfl rfl rfl ?_
             refine q_skip rfl rfl rfl rfl ?_
             refine q_skip rfl rfl rfl rfl ?_
             refine q_pick_f rfl rfl rfl rfl rfl ?_
             refine q_assign rfl rfl rfl rfl ?_
             refine r_done ?_
             refine s_keep [4] (e' := [(4, _)]) rfl ?_
             refine k_then_n ?_
             refine c_ret ?_
             refine k_blk_ret ?_
             refine k_then_ret ?_
             refine rk_fold (b := b) x (pa := pa) (pc := pc) (ta := ta) (tc := tc) (oa := oa) (oc := oc) (ba := ba) (bc := bc) Ts (by rfl) (by rfl) (by rfl) (by rfl) ?_
             refine ret1 rfl rfl (()) (by congr 1; symm; rw [decide_eq_false_iff_not, can_run' h1, okK_k.2.2.2.2.2.1 (k8)]; rintro ⟨q1, q2, -⟩; omega) (by trivial) ?_
             exact Tf
           ·
            refine c_seq ?_
            refine c_plain (.q 0 (.q 1 (.done))) (by kernel_rfl) ?_
            refine q_int rfl rfl rfl rfl rfl (b_eql _ _ _ _) ?_
            refine q_assign rfl rfl rfl rfl ?_
            refine r_done ?_
            refine s_keep [0, 3, 50, 161] (e' := [(0, _), (3, _), (50, _), (161, _)]) rfl ?_
            refine k_then_n ?_
            refine c_cond_p rfl (fun k9 => ?_) (fun k9 => ?_)
            ·
             refine c_seq ?_
             refine c_draw rfl (.q 0 (.q 1 (.q 2 (.q 3 (.q 4 (.q 5 (.q 6 ((.l 7 [] (.q 8 (.done))))))))))) (by kernel_rfl) ?_
             refine q_field (k := 2) rfl rfl rfl rfl Try.underlying36 rfl Try.sizeOf3 rfl ?_
             refine q_load_c (j := 2) rfl rfl rfl rfl Try.isAgg3 Tk (by first | rfl | exact (Nat.add_zero _).symm) (by rfl) ?_
             refine q_move rfl rfl rfl rfl ?_
             refine q_nil_p rfl rfl rfl rfl ?_
             refine q_field (k := 7) rfl rfl rfl rfl Try.underlying133 rfl Try.sizeOf126 rfl ?_
             refine q_load_c (j := 7) rfl rfl rfl rfl Try.isAgg126 Tk (by first | rfl | exact (Nat.add_zero _).symm) (by rfl) ?_
             refine q_len rfl rfl rfl rfl Try.underlying126 ?_
             have sp_11 := below_spec o ((x.B.length : Nat) : Int)
             refine l_call rfl rfl rfl rfl rfl rfl Try.call63 (sp_11) Ts ?_
             rintro ⟨⟩ -
             try simp only [List.cons_append, List.nil_append]
             refine ag_nil ?_
             refine q_assign rfl rfl rfl rfl ?_
             refine r_done ?_
             refine s_keep [4] (e' := [(4, _)]) rfl ?_
             refine k_then_n ?_
             refine c_ret ?_
             refine k_blk_ret ?_
             refine k_then_ret ?_
             refine rk_fold (b := b) x (pa := pa) (pc := pc) (ta := ta) (tc := tc) (oa := oa) (oc := oc) (ba := ba) (bc := bc) Ts (by rfl) (by rfl) (by rfl) (by rfl) ?_
             refine ret1 rfl rfl (()) (by congr 1; rw [decide_eq_decide, can_run' h1, okK_k.2.2.2.2.2.2.1 (k9)]; try rfl) (by trivial) ?_
             exact Tf
            ·
             refine c_seq ?_
             refine c_plain (.q 0 (.q 1 (.done))) (by kernel_rfl) ?_
             refine q_int rfl rfl rfl rfl rfl (b_eql _ _ _ _) ?_
             refine q_assign rfl rfl rfl rfl ?_
             refine r_done ?_
             refine s_keep [3, 171] (e' := [(3, _), (171, _)]) rfl ?_
             refine k_then_n ?_
             refine c_cond_p rfl (fun k11 => ?_) (fun k11 => ?_)
             ·
              refine c_seq ?_
              refine c_plain (.q 0 (.q 1 (.q 2 (.q 3 (.done))))) (by kernel_rfl) ?_
              refine q_field (k := 2) rfl rfl rfl rfl Try.underlying36 rfl Try.sizeOf3 rfl ?_
              refine q_load_c (j := 2) rfl rfl rfl rfl Try.isAgg3 Tk (by first | rfl | exact (Nat.add_zero _).symm) (by rfl) ?_
              refine q_int rfl rfl rfl rfl rfl (b_eql _ _ _ _) ?_
              refine q_assign rfl rfl rfl rfl ?_
              refine r_done ?_
              refine s_keep [4] (e' := [(4, _)]) rfl ?_
              refine k_then_n ?_
              refine c_ret ?_
              refine k_blk_ret ?_
              refine k_then_ret ?_
              refine rk_fold (b := b) x (pa := pa) (pc := pc) (ta := ta) (tc := tc) (oa := oa) (oc := oc) (ba := ba) (bc := bc) Ts (by rfl) (by rfl) (by rfl) (by rfl) ?_
              refine ret1 rfl rfl (()) (by congr 1; rw [decide_eq_decide, can_run' h1, okK_k.2.2.2.2.2.2.2.1 (k11)]; omega) (by trivial) ?_
              exact Tf
             ·
              refine c_skip ?_
              refine k_blk_n ?_
              refine k_then_n ?_
              refine c_seq ?_
              refine c_plain (.q 0 (.done)) (by kernel_rfl) ?_
              refine q_assign rfl rfl rfl rfl ?_
              refine r_done ?_
              refine k_then_n ?_
              refine c_ret ?_
              refine rk_fold (b := b) x (pa := pa) (pc := pc) (ta := ta) (tc := tc) (oa := oa) (oc := oc) (ba := ba) (bc := bc) Ts (by rfl) (by rfl) (by rfl) (by rfl) ?_
              refine ret1 rfl rfl (()) (by congr 1; symm; rw [decide_eq_false_iff_not, can_run' h1]; exact fun h => okK_k.2.2.2.2.2.2.2.2 k1 k2 k3 k4 k5 k6 k7 k8 k9 k11 h.2) (by trivial) ?_
              exact Tf
end Go.Ab.Fe
