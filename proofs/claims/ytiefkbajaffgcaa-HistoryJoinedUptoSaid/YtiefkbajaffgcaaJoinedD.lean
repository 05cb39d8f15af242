/- What the law Joined rests on, part 4 of 4. -/
import Derived.Test.YtiefkbajaffgcaaJoinedC
import Derived.Test.YtiefkbajaffgcaaRows
import Derived.WalkKit
import Derived.ProofKit
import Derived.OpenShut
import Derived.JoinedCond
import Derived.Carry
set_option linter.unusedVariables false
set_option linter.unusedSimpArgs false
set_option maxRecDepth 100000
namespace Go.Ab.Hi
open Go Go.Proofs Go.Ab Go.Ab.Fe Go.Ab.Vc Go.Ab.Dj Go.Ab.So
theorem agF_len (x : HS) (k t o : Int) : (agF x k t o).length ≤ 2 * x.keys.length := by
  unfold agF
  split
  · rw [isort_len]; exact flat_len (agK_len _ _ _ _ _) _
  · simp
theorem set_two {α : Type} {l : List α} {i : Nat} {a b : α} : (l.set i a).set i b = l.set i b := List.set_set ..
theorem ntV_no {n k t o : Int} {l : List Int} {w : Tld} (h : ¬ (0 : Int) < ((l.length : Nat) : Int)) : ntV n k t o l w = (w.1, w.2.1, w.2.2.1, (k, t, o), n) := by
  have : l = [] := List.eq_nil_of_length_eq_zero (by omega)
  subst this; rfl
theorem ntV_at {n k t o z : Int} {l : List Int} {w : Tld} (h : l[l.length - 1]? = some z) : ntV n k t o l w = (if w.2.2.1 = true then w.1 else (o, z, n), (o, z, n), true, (k, t, o), n) := by
  unfold ntV
  rw [List.getLast?_eq_getElem?, h]
theorem note_spec (pa : Option Addr) (pc : Nat) (po : Option Addr) (poc b : Nat) (x : HS) (hx : SInv x) (hn : x.v.ck.n ≤ 100000000000) (k t o : Int) (hc : canF x.v.ck k t o) (hk : k = 1 ∨ k = 2) : Spec Try.prog 30 [.pointer (some ⟨b, 0, none⟩), .agg #[.int .i64 k, .int .i64 t, .int .i64 o]] [hsR pa pc po poc b x] (fun (_ : Unit) => .tuple #[]) (fun _ => True) (fun _ => [hsR pa pc po poc b (ntF x k t o)]) := by
 refine spec_mk (n := 104) Try.func30 rfl rfl rfl ?_
 intro Γ w0
 simp only [argE, List.cons_append, List.nil_append, Nat.zero_add, Nat.reduceAdd]
 refine c_seq ?_
 refine c_plain ((.l 0 [] (.done))) (by kernel_rfl) ?_
 refine l_box rfl rfl rfl rfl (us := [_, _, _]) rfl ?_
 intro b3
 refine ag_nil ?_
 refine r_done ?_
 refine k_then_n ?_
 refine c_seq ?_
 obtain ⟨l, hth⟩ := th_some hx.v (can_th hc)
 obtain ⟨h0, h1⟩ := th_rng hx.v (can_th hc)
 have hlc := hx.v.thc _ _ hth
 have hkn := hx.kn
 have hlen := hx.len
 have hn0 := hx.v.ck.n0
 have hlg := g_rng hlc.rng (by decide) t.toNat
 have hmx : maxC = 281474976710655 := rfl
 have hagl := agF_len x k t o
 obtain ⟨o0, o1⟩ := acc_o hc hk
 obtain ⟨w, hw⟩ := get_lt (l := x.vars) (i := o.toNat) (by omega)
 refine s_take (A := hsR pa pc po poc b x) Tk ?_
 refine hs_open fun vb mk va vc => ?_
 refine s_take (A := vsR pa pc po poc vb x.v) Tk ?_
 refine vs_open fun cb m1 m2 m3 m4 F1 F2 F3 F4 => ?_
 refine c_plain (.q 0 (.q 1 (.q 2 (.q 3 (.q 4 (.q 5 (.q 6 ((.l 7 [] (.q 8 (.done))))))))))) (by kernel_rfl) ?_
 refine q_move rfl rfl rfl rfl ?_
 refine q_nil_p rfl rfl rfl rfl ?_
 refine q_field (k := 0) rfl rfl rfl rfl Try.underlying70 rfl Try.sizeOf64 rfl ?_
 refine q_load_c (j := 0) rfl rfl rfl rfl Try.isAgg64 Tk (by first | rfl | exact (Nat.add_zero _).symm) (by rfl) ?_
 refine q_nil_p rfl rfl rfl rfl ?_
 refine q_field (k := 0) rfl rfl rfl rfl Try.underlying80 rfl Try.sizeOf76 rfl ?_
 refine q_load_c (j := 0) rfl rfl rfl rfl Try.isAgg76 Tk (by first | rfl | exact (Nat.add_zero _).symm) (by rfl) ?_
 have sp_1 := Fe.len_spec pa pc cb x.v.ck
 refine l_call rfl rfl rfl rfl rfl rfl Try.call43 (sp_1) Ts ?_
 rintro ⟨⟩ -
 try simp only [List.cons_append, List.nil_append]
 refine ag_nil ?_
 refine q_assign rfl rfl rfl rfl ?_
 refine r_done ?_
 refine s_keep [0, 3, 4] (e' := [(0, _), (3, _), (4, _)]) rfl ?_
 refine k_then_n ?_
 refine c_seq ?_
 refine c_draw rfl (.q 0 (.q 1 (.q 2 (.q 3 (.q 4 (.q 5 (.q 6 (.q 7 (.done))))))))) (by kernel_rfl) ?_
 refine q_move rfl rfl rfl rfl ?_
 refine q_nil_p rfl rfl rfl rfl ?_
 refine q_field (k := 2) rfl rfl rfl rfl Try.underlying70 rfl Try.sizeOf67 rfl ?_
 refine q_load_c (j := 2) rfl rfl rfl rfl Try.isAgg67 Tk (by first | rfl | exact (Nat.add_zero _).symm) (by rfl) ?_
 refine q_field (k := 2) rfl rfl rfl rfl Try.underlying36 rfl Try.sizeOf3 rfl ?_
 refine q_load_c (j := 2) rfl rfl rfl rfl Try.isAgg3 Tk (by first | rfl | exact (Nat.add_zero _).symm) (by rfl) ?_
 refine q_idxO (sz := 10) (k := o.toNat) (enc := encD) (xs := x.vars) rfl rfl rfl rfl rfl Try.underlying67 Try.sizeOf102 hw (by first | rfl | omega) (by omega) Tk ?_
 intro ib22 io22 ha22 hl22 hc22
 refine q_assign rfl rfl rfl rfl ?_
 refine r_done ?_
 refine s_keep [0, 3, 4, 5] (e' := [(0, _), (3, _), (4, _), (5, _)]) rfl ?_
 refine k_then_n ?_
 refine c_seq ?_
 refine c_seq ?_
 refine s_rest_take (F := F1) (T := x.v.th) (S := []) t Tk (by simp) hth fun tv htF => ?_
 refine s_vec Tk fun tb ta tc hta => ?_
 subst hta
 refine c_plain (.q 0 (.q 1 ((.l 2 [] (.q 3 (.done)))))) (by kernel_rfl) ?_
 refine q_move rfl rfl rfl rfl ?_
 refine q_loadN_c rfl rfl rfl rfl Try.isAgg36 Try.sizeOf36 Tk 0 (us := [_, _, _]) (by first | rfl | exact (Nat.add_zero _).symm) rfl rfl ?_
 have sp_2 := Hi.against_spec b vb mk m1 tb (.int .i64 x.v.ck.th) (.slice va x.vars.length vc) (.pointer (some ⟨cb, 0, none⟩)) (.slice po x.v.ck.pa.length poc) (.map (some m2)) (.map (some m3)) (.map (some m4)) x.kept F1  ta tc l x.keys k t o htF hx.nd hx.ks hx.kt (by omega)
 refine l_call rfl rfl rfl rfl rfl rfl Try.call35 (sp_2) Ts ?_
 rintro ⟨ga, gc⟩ -
 rw [show (if k = 1 ∨ k = 2 then isort (x.keys.flatMap (agK x.kept k t o l)) else []) = agF x k t o from by unfold agF; rw [thF_eq hth]]
 try simp only [List.cons_append, List.nil_append]
 refine ag_nil ?_
 refine q_assign rfl rfl rfl rfl ?_
 refine r_done ?_
 refine k_then_n ?_
 refine c_seq ?_
 refine c_plain (.q 0 (.q 1 (.q 2 (.done)))) (by kernel_rfl) ?_
 refine q_move rfl rfl rfl rfl ?_
 refine q_len rfl rfl rfl rfl Try.underlying23 ?_
 refine q_int rfl rfl rfl rfl rfl (b_gtr _ _ _ _) ?_
 refine r_done ?_
 refine s_keep [0, 3, 4, 5, 6, 28] (e' := [(0, _), (3, _), (4, _), (5, _), (6, _), (28, _)]) rfl ?_
 refine k_then_n ?_
 refine c_cond_p rfl (fun hgp => ?_) (fun hgp => ?_)
 ·
  obtain ⟨z, hz⟩ := get_lt (l := (agF x k t o)) (i := (agF x k t o).length - 1) (by omega)
  refine c_seq ?_
  refine c_draw rfl (.q 0 (.q 1 (.q 2 (.q 3 (.q 4 (.q 5 (.q 6 (.q 7 (.q 8 (.q 9 (.q 10 (.q 11 (.q 12 ((.l 13 [] (.done)))))))))))))))) (by kernel_rfl) ?_
  refine q_move rfl rfl rfl rfl ?_
  refine q_field (k := 2) rfl rfl rfl rfl Try.underlying36 rfl Try.sizeOf3 rfl ?_
  refine q_load_c (j := 2) rfl rfl rfl rfl Try.isAgg3 Tk (by first | rfl | exact (Nat.add_zero _).symm) (by rfl) ?_
  refine q_move rfl rfl rfl rfl ?_
  refine q_move rfl rfl rfl rfl ?_
  refine q_len rfl rfl rfl rfl Try.underlying23 ?_
  refine q_int rfl rfl rfl rfl rfl (b_sub' _ (by exact fits_i64 (by omega) (by omega))) ?_
  refine q_idxO (sz := 0) (k := ((agF x k t o).length - 1)) (enc := encZ) (xs := (agF x k t o)) rfl rfl rfl rfl rfl Try.underlying23 Try.sizeOf3 hz (by first | rfl | omega) (by omega) Tk ?_
  intro ib36 io36 ha36 hl36 hc36
  refine q_load_O (v := (.int .i64 z)) (j := 0) (k' := ((agF x k t o).length - 1)) (enc := encZ) (off := io36) rfl rfl rfl rfl Try.isAgg3 ha36 encZ_len hz Tk (by first | rfl | exact (Nat.add_zero _).symm | omega) (by rfl) ?_
  refine q_move rfl rfl rfl rfl ?_
  refine q_build rfl rfl rfl rfl (vs := [_, _, _]) (run_buildS Try.underlying56 Try.zeroValue56 (ps := [(0, 1), (1, 1), (2, 1)]) ⟨rfl, Try.sizeOf3, rfl, Try.sizeOf3, rfl, Try.sizeOf3, trivial⟩ rfl) ?_
  refine q_nil_p rfl rfl rfl rfl ?_
  refine q_field (k := 3) rfl rfl rfl rfl Try.underlying102 rfl Try.sizeOf56 rfl ?_
  refine l_store_O (j := 3) (k := o.toNat) (q := (w.1, (o, z, x.v.ck.n), w.2.2.1, w.2.2.2.1, w.2.2.2.2)) (enc := encD) (off := io22) rfl rfl rfl rfl Try.sizeOf56 (us := [_, _, _]) rfl rfl rfl ha22 encD_len hw Tk (by first | rfl | exact (Nat.add_zero _).symm | omega) (by first | decide | exact Nat.le_of_ble_eq_true rfl) (by rfl) ?_
  refine ag_nil ?_
  have hs1 : (x.vars.set o.toNat (w.1, (o, z, x.v.ck.n), w.2.2.1, w.2.2.2.1, w.2.2.2.2))[o.toNat]? = some ((w.1, (o, z, x.v.ck.n), w.2.2.1, w.2.2.2.1, w.2.2.2.2) : Tld) := List.getElem?_set_self (by first | omega | (simp only [List.length_set]; omega))
  refine r_done ?_
  refine s_keep [0, 3, 4, 5] (e' := [(0, _), (3, _), (4, _), (5, _)]) rfl ?_
  refine k_then_n ?_
  refine c_seq ?_
  refine c_plain (.q 0 (.q 1 (.q 2 (.q 3 (.q 4 (.done)))))) (by kernel_rfl) ?_
  refine q_move rfl rfl rfl rfl ?_
  refine q_nil_p rfl rfl rfl rfl ?_
  refine q_field (k := 6) rfl rfl rfl rfl Try.underlying102 rfl Try.sizeOf4 rfl ?_
  refine q_load_O (v := (.bool w.2.2.1)) (j := 6) (k' := o.toNat) (enc := encD) (off := io22) rfl rfl rfl rfl Try.isAgg4 ha22 encD_len hs1 Tk (by first | rfl | exact (Nat.add_zero _).symm | omega) (by rfl) ?_
  refine q_not rfl rfl rfl rfl ?_
  refine r_done ?_
  refine s_keep [0, 3, 4, 5, 46] (e' := [(0, _), (3, _), (4, _), (5, _), (46, _)]) rfl ?_
  refine k_then_n ?_
  refine c_cond rfl (fun hra => ?_) (fun hra => ?_)
  ·
   try simp only [Bool.and_eq_true, Bool.or_eq_true, Bool.not_eq_true', Bool.not_eq_false', Bool.and_eq_false_iff, Bool.or_eq_false_iff, decide_eq_true_eq, decide_eq_false_iff_not] at hra
   refine c_plain (.q 0 (.q 1 (.q 2 (.q 3 (.q 4 (.q 5 (.q 6 (.q 7 ((.l 8 [] (.q 9 (.q 10 ((.l 11 [] (.done))))))))))))))) (by kernel_rfl) ?_
   refine q_move rfl rfl rfl rfl ?_
   refine q_move rfl rfl rfl rfl ?_
   refine q_move rfl rfl rfl rfl ?_
   refine q_nil_p rfl rfl rfl rfl ?_
   refine q_field (k := 3) rfl rfl rfl rfl Try.underlying102 rfl Try.sizeOf56 rfl ?_
   refine q_loadN_O (j := 3) (k' := o.toNat) (us := [_, _, _]) (enc := encD) (off := io22) rfl rfl rfl rfl Try.isAgg56 Try.sizeOf56 ha22 encD_len hs1 Tk (by first | rfl | exact (Nat.add_zero _).symm | omega) (by rfl) rfl ?_
   refine q_nil_p rfl rfl rfl rfl ?_
   refine q_field (k := 0) rfl rfl rfl rfl Try.underlying102 rfl Try.sizeOf56 rfl ?_
   refine l_store_O (j := 0) (k := o.toNat) (q := ((o, z, x.v.ck.n), (o, z, x.v.ck.n), w.2.2.1, w.2.2.2.1, w.2.2.2.2)) (enc := encD) (off := io22) rfl rfl rfl rfl Try.sizeOf56 (us := [_, _, _]) rfl rfl rfl ha22 encD_len hs1 Tk (by first | rfl | exact (Nat.add_zero _).symm | omega) (by first | decide | exact Nat.le_of_ble_eq_true rfl) (by rfl) ?_
   refine ag_nil ?_
   have hs2 : ((x.vars.set o.toNat (w.1, (o, z, x.v.ck.n), w.2.2.1, w.2.2.2.1, w.2.2.2.2)).set o.toNat ((o, z, x.v.ck.n), (o, z, x.v.ck.n), w.2.2.1, w.2.2.2.1, w.2.2.2.2))[o.toNat]? = some (((o, z, x.v.ck.n), (o, z, x.v.ck.n), w.2.2.1, w.2.2.2.1, w.2.2.2.2) : Tld) := List.getElem?_set_self (by first | omega | (simp only [List.length_set]; omega))
   refine q_nil_p rfl rfl rfl rfl ?_
   refine q_field (k := 6) rfl rfl rfl rfl Try.underlying102 rfl Try.sizeOf4 rfl ?_
   refine l_store_O (j := 6) (k := o.toNat) (q := ((o, z, x.v.ck.n), (o, z, x.v.ck.n), true, w.2.2.2.1, w.2.2.2.2)) (enc := encD) (off := io22) rfl rfl rfl rfl Try.sizeOf4 (us := [_]) rfl rfl rfl ha22 encD_len hs2 Tk (by first | rfl | exact (Nat.add_zero _).symm | omega) (by first | decide | exact Nat.le_of_ble_eq_true rfl) (by rfl) ?_
   refine ag_nil ?_
   have hs3 : (((x.vars.set o.toNat (w.1, (o, z, x.v.ck.n), w.2.2.1, w.2.2.2.1, w.2.2.2.2)).set o.toNat ((o, z, x.v.ck.n), (o, z, x.v.ck.n), w.2.2.1, w.2.2.2.1, w.2.2.2.2)).set o.toNat ((o, z, x.v.ck.n), (o, z, x.v.ck.n), true, w.2.2.2.1, w.2.2.2.2))[o.toNat]? = some (((o, z, x.v.ck.n), (o, z, x.v.ck.n), true, w.2.2.2.1, w.2.2.2.2) : Tld) := List.getElem?_set_self (by first | omega | (simp only [List.length_set]; omega))
   refine r_done ?_
   refine s_keep [0, 3, 4, 5] (e' := [(0, _), (3, _), (4, _), (5, _)]) rfl ?_
   refine k_then_n ?_
   refine c_seq ?_
   refine c_plain (.q 0 (.q 1 (.q 2 (.q 3 (.q 4 (.q 5 ((.l 6 [] (.q 7 (.q 8 ((.l 9 [] (.done))))))))))))) (by kernel_rfl) ?_
   refine q_move rfl rfl rfl rfl ?_
   refine q_move rfl rfl rfl rfl ?_
   refine q_loadN_c rfl rfl rfl rfl Try.isAgg36 Try.sizeOf36 Tk 0 (us := [_, _, _]) (by first | rfl | exact (Nat.add_zero _).symm) rfl rfl ?_
   refine q_move rfl rfl rfl rfl ?_
   refine q_nil_p rfl rfl rfl rfl ?_
   refine q_field (k := 7) rfl rfl rfl rfl Try.underlying102 rfl Try.sizeOf36 rfl ?_
   refine l_store_O (j := 7) (k := o.toNat) (q := ((o, z, x.v.ck.n), (o, z, x.v.ck.n), true, (k, t, o), w.2.2.2.2)) (enc := encD) (off := io22) rfl rfl rfl rfl Try.sizeOf36 (us := [_, _, _]) rfl rfl rfl ha22 encD_len hs3 Tk (by first | rfl | exact (Nat.add_zero _).symm | omega) (by first | decide | exact Nat.le_of_ble_eq_true rfl) (by rfl) ?_
   refine ag_nil ?_
   have hs4 : ((((x.vars.set o.toNat (w.1, (o, z, x.v.ck.n), w.2.2.1, w.2.2.2.1, w.2.2.2.2)).set o.toNat ((o, z, x.v.ck.n), (o, z, x.v.ck.n), w.2.2.1, w.2.2.2.1, w.2.2.2.2)).set o.toNat ((o, z, x.v.ck.n), (o, z, x.v.ck.n), true, w.2.2.2.1, w.2.2.2.2)).set o.toNat ((o, z, x.v.ck.n), (o, z, x.v.ck.n), true, (k, t, o), w.2.2.2.2))[o.toNat]? = some (((o, z, x.v.ck.n), (o, z, x.v.ck.n), true, (k, t, o), w.2.2.2.2) : Tld) := List.getElem?_set_self (by first | omega | (simp only [List.length_set]; omega))
   refine q_nil_p rfl rfl rfl rfl ?_
   refine q_field (k := 10) rfl rfl rfl rfl Try.underlying102 rfl Try.sizeOf3 rfl ?_
   refine l_store_O (j := 10) (k := o.toNat) (q := ((o, z, x.v.ck.n), (o, z, x.v.ck.n), true, (k, t, o), x.v.ck.n)) (enc := encD) (off := io22) rfl rfl rfl rfl Try.sizeOf3 (us := [_]) rfl rfl rfl ha22 encD_len hs4 Tk (by first | rfl | exact (Nat.add_zero _).symm | omega) (by first | decide | exact Nat.le_of_ble_eq_true rfl) (by rfl) ?_
   refine ag_nil ?_
   have hs5 : (((((x.vars.set o.toNat (w.1, (o, z, x.v.ck.n), w.2.2.1, w.2.2.2.1, w.2.2.2.2)).set o.toNat ((o, z, x.v.ck.n), (o, z, x.v.ck.n), w.2.2.1, w.2.2.2.1, w.2.2.2.2)).set o.toNat ((o, z, x.v.ck.n), (o, z, x.v.ck.n), true, w.2.2.2.1, w.2.2.2.2)).set o.toNat ((o, z, x.v.ck.n), (o, z, x.v.ck.n), true, (k, t, o), w.2.2.2.2)).set o.toNat ((o, z, x.v.ck.n), (o, z, x.v.ck.n), true, (k, t, o), x.v.ck.n))[o.toNat]? = some (((o, z, x.v.ck.n), (o, z, x.v.ck.n), true, (k, t, o), x.v.ck.n) : Tld) := List.getElem?_set_self (by first | omega | (simp only [List.length_set]; omega))
   refine r_done ?_
   refine s_keep [0, 3, 4] (e' := [(0, _), (3, _), (4, _)]) rfl ?_
   refine k_then_n ?_
   refine c_seq ?_
   refine c_plain (.q 0 (.q 1 (.q 2 (.q 3 (.q 4 ((.l 5 [] ((.l 6 [] ((.l 7 [] (.done)))))))))))) (by kernel_rfl) ?_
   refine q_move rfl rfl rfl rfl ?_
   refine q_field (k := 2) rfl rfl rfl rfl Try.underlying36 rfl Try.sizeOf3 rfl ?_
   refine q_load_c (j := 2) rfl rfl rfl rfl Try.isAgg3 Tk (by first | rfl | exact (Nat.add_zero _).symm) (by rfl) ?_
   refine q_field (k := 1) rfl rfl rfl rfl Try.underlying36 rfl Try.sizeOf3 rfl ?_
   refine q_load_c (j := 1) rfl rfl rfl rfl Try.isAgg3 Tk (by first | rfl | exact (Nat.add_zero _).symm) (by rfl) ?_
   have sp_3 := Hi.touched_spec b mk (.pointer (some ⟨vb, 0, none⟩)) (.int .i64 x.v.ck.th) (.slice va x.vars.length vc) x.kept o t
   refine l_call rfl rfl rfl rfl rfl rfl Try.call33 (sp_3) Ts ?_
   rintro ⟨⟩ -
   try simp only [List.cons_append, List.nil_append]
   refine ag_nil ?_
   refine l_alloc rfl rfl rfl Try.zeroValue39 (zs := [.int .i64 0, .int .i64 0, .int .u64 0, .int .u64 0]) rfl ?_
   intro b7
   refine ag_nil ?_
   refine l_store (j := 0) rfl rfl rfl rfl Try.sizeOf39 (us := [_, _, _, _]) rfl rfl rfl Tk (by first | rfl | exact (Nat.add_zero _).symm) (by first | decide | (simp; done) | omega) ?_
   simp only [setL, List.set]
   refine ag_nil ?_
   refine r_done ?_
   refine s_keep [0, 3, 4, 7] (e' := [(0, _), (3, _), (4, _), (7, _)]) rfl ?_
   refine k_then_n ?_
   refine c_seq ?_
   refine c_seq ?_
   refine c_plain (.q 0 (.q 1 (.q 2 (.done)))) (by kernel_rfl) ?_
   refine q_field (k := 0) rfl rfl rfl rfl Try.underlying36 rfl Try.sizeOf34 rfl ?_
   refine q_load_c (j := 0) rfl rfl rfl rfl Try.isAgg34 Tk (by first | rfl | exact (Nat.add_zero _).symm) (by rfl) ?_
   refine q_int rfl rfl rfl rfl rfl (b_eql _ _ _ _) ?_
   refine r_done ?_
   refine k_then_n ?_
   refine c_cond_p rfl (fun hk1 => ?_) (fun hk1 => ?_)
   ·
    refine c_draw rfl (.q 0 (.q 1 (.q 2 (.q 3 (.q 4 (.q 5 (.q 6 (.q 8 ((.l 7 [] ((.l 9 [] (.q 10 ((.l 11 [] (.done)))))))))))))))) (by kernel_rfl) ?_
    refine q_move rfl rfl rfl rfl ?_
    refine q_move rfl rfl rfl rfl ?_
    refine q_nil_p rfl rfl rfl rfl ?_
    refine q_field (k := 0) rfl rfl rfl rfl Try.underlying70 rfl Try.sizeOf64 rfl ?_
    refine q_load_c (j := 0) rfl rfl rfl rfl Try.isAgg64 Tk (by first | rfl | exact (Nat.add_zero _).symm) (by rfl) ?_
    refine q_field (k := 1) rfl rfl rfl rfl Try.underlying36 rfl Try.sizeOf3 rfl ?_
    refine q_load_c (j := 1) rfl rfl rfl rfl Try.isAgg3 Tk (by first | rfl | exact (Nat.add_zero _).symm) (by rfl) ?_
    refine q_field (k := 0) rfl rfl rfl rfl Try.underlying39 rfl Try.sizeOf3 rfl ?_
    have sp_4 := clock_spec vb m1 (.pointer (some ⟨cb, 0, none⟩)) (.slice po x.v.ck.pa.length poc) (.map (some m2)) (.map (some m3)) (.map (some m4)) F1 tb (ta) (tc) l t (by omega) htF
    refine l_call rfl rfl rfl rfl rfl rfl Try.call50 (sp_4) Ts ?_
    rintro ⟨⟩ -
    try simp only [List.cons_append, List.nil_append]
    refine ag_nil ?_
    refine l_store (j := 0) rfl rfl rfl rfl Try.sizeOf3 (us := [_]) rfl rfl rfl Tk (by first | rfl | exact (Nat.add_zero _).symm) (by first | decide | (simp; done) | omega) ?_
    simp only [setL, List.set]
    refine ag_nil ?_
    refine q_field (k := 2) rfl rfl rfl rfl Try.underlying39 rfl Try.sizeOf37 rfl ?_
    refine l_store (j := 2) rfl rfl rfl rfl Try.sizeOf37 (us := [_]) rfl rfl rfl Tk (by first | rfl | exact (Nat.add_zero _).symm) (by first | decide | (simp; done) | omega) ?_
    simp only [setL, List.set]
    refine ag_nil ?_
    refine r_done ?_
    refine s_keep [0, 3, 7] (e' := [(0, _), (3, _), (7, _)]) rfl ?_
    refine k_then_n ?_
    refine c_draw rfl (.q 0 (.q 1 (.q 2 (.q 3 (.q 4 (.q 5 (.q 6 (.q 7 (.q 8 (.q 9 ((.l 10 [] (.done))))))))))))) (by kernel_rfl) ?_
    refine q_move rfl rfl rfl rfl ?_
    refine q_nil_p rfl rfl rfl rfl ?_
    refine q_field (k := 3) rfl rfl rfl rfl Try.underlying70 rfl Try.sizeOf68 rfl ?_
    refine q_load_c (j := 3) rfl rfl rfl rfl Try.isAgg68 Tk (by first | rfl | exact (Nat.add_zero _).symm) (by rfl) ?_
    refine q_field (k := 2) rfl rfl rfl rfl Try.underlying36 rfl Try.sizeOf3 rfl ?_
    refine q_load_c (j := 2) rfl rfl rfl rfl Try.isAgg3 Tk (by first | rfl | exact (Nat.add_zero _).symm) (by rfl) ?_
    refine q_field (k := 1) rfl rfl rfl rfl Try.underlying36 rfl Try.sizeOf3 rfl ?_
    refine q_load_c (j := 1) rfl rfl rfl rfl Try.isAgg3 Tk (by first | rfl | exact (Nat.add_zero _).symm) (by rfl) ?_
    refine q_build rfl rfl rfl rfl (vs := [_, _]) (run_buildS Try.underlying111 Try.zeroValue111 (ps := [(0, 1), (1, 1)]) ⟨rfl, Try.sizeOf3, rfl, Try.sizeOf3, trivial⟩ rfl) ?_
    refine q_loadN_c rfl rfl rfl rfl Try.isAgg39 Try.sizeOf39 Tk 0 (us := [_, _, _, _]) (by first | rfl | exact (Nat.add_zero _).symm) rfl rfl ?_
    refine l_mapUpd (ek := ek2) (ev1 := evT) (F := x.kept) (m := mk) (k := (o, t)) (v := (x.v.ck.n, ((x.kept (o, t)).getD (-1, -1, 0, 0)).2.1, l.getD t.toNat 0, ((x.kept (o, t)).getD (-1, -1, 0, 0)).2.2.2)) (by first | exact .inl rfl | exact .inr rfl) rfl rfl rfl rfl Try.underlying68 (keyOK_pair Try.underlying111 rfl rfl rfl rfl Try.underlying3 Try.underlying3 Try.isAgg3 Try.isAgg3 (by kernel_rfl)) Tk ?_
    refine ag_nil ?_
    have hfx : ntF x k t o = ⟨x.v, (((((x.vars.set o.toNat (w.1, (o, z, x.v.ck.n), w.2.2.1, w.2.2.2.1, w.2.2.2.2)).set o.toNat ((o, z, x.v.ck.n), (o, z, x.v.ck.n), w.2.2.1, w.2.2.2.1, w.2.2.2.2)).set o.toNat ((o, z, x.v.ck.n), (o, z, x.v.ck.n), true, w.2.2.2.1, w.2.2.2.2)).set o.toNat ((o, z, x.v.ck.n), (o, z, x.v.ck.n), true, (k, t, o), w.2.2.2.2)).set o.toNat ((o, z, x.v.ck.n), (o, z, x.v.ck.n), true, (k, t, o), x.v.ck.n)), (if (x.kept (o, t)).isSome then x.keys else x.keys ++ [(o, t)]), upd x.kept (o, t) (some (x.v.ck.n, ((x.kept (o, t)).getD (-1, -1, 0, 0)).2.1, l.getD t.toNat 0, ((x.kept (o, t)).getD (-1, -1, 0, 0)).2.2.2))⟩ := by
      have h5 : (x.v.ck.n, ((x.kept (o, t)).getD (-1, -1, 0, 0)).2.1, l.getD t.toNat 0, ((x.kept (o, t)).getD (-1, -1, 0, 0)).2.2.2) = ntK x.v.ck.n k ((thF x.v t).getD t.toNat 0) (tchF x o t) := by
        rw [thF_eq hth]; unfold ntK tchF
        first | rw [if_pos hk1] | rw [if_neg hk1]
      have h6 : (((((x.vars.set o.toNat (w.1, (o, z, x.v.ck.n), w.2.2.1, w.2.2.2.1, w.2.2.2.2)).set o.toNat ((o, z, x.v.ck.n), (o, z, x.v.ck.n), w.2.2.1, w.2.2.2.1, w.2.2.2.2)).set o.toNat ((o, z, x.v.ck.n), (o, z, x.v.ck.n), true, w.2.2.2.1, w.2.2.2.2)).set o.toNat ((o, z, x.v.ck.n), (o, z, x.v.ck.n), true, (k, t, o), w.2.2.2.2)).set o.toNat ((o, z, x.v.ck.n), (o, z, x.v.ck.n), true, (k, t, o), x.v.ck.n)) = x.vars.set o.toNat (ntV x.v.ck.n k t o (agF x k t o) (x.vars.getD o.toNat t0)) := by
        rw [getD_some hw]
        simp only [set_two]
        congr 1
        symm
        rw [ntV_at hz, if_neg (by simpa using hra)]
      rw [h5, h6]; rfl
    refine s_vecF tb ta tc l Ts ?_
    refine s_rest_put (F := F1) (T := x.v.th) (S := []) t F1 x.v.th Ts (by simp) htF (fun _ _ _ => rfl) hth (fun _ _ _ => rfl) ?_
    refine vs_fold (b := vb) x.v (pa := pa) (pc := pc) (po := po) (poc := poc) (cb := cb) (m1 := m1) (m2 := m2) (m3 := m3) (m4 := m4) Ts (by rfl) (by rfl) ?_
    refine hs_fold (b := b) (ntF x k t o) (pa := pa) (pc := pc) (po := po) (poc := poc) (vb := vb) (va := va) (vc := vc) (mk := mk) (K := (if (x.kept (o, t)).isSome then x.keys else x.keys ++ [(o, t)])) Ts (by exact hfx) (by simp) (by rfl) ?_
    refine r_done ?_
    refine s_keep [] (e' := []) rfl ?_
    refine ret_end ?_
    refine ret0 rfl (()) (by first | rfl | (first | rfl | (congr 1; done) | (congr 1 <;> first | rfl | omega | (simp; done) | (simp; omega)))) (by trivial) ?_
    exact Tf
   ·
    refine c_draw rfl (.q 0 (.q 1 (.q 2 (.q 3 (.q 4 (.q 5 (.q 6 (.q 8 ((.l 7 [] ((.l 9 [] (.q 10 ((.l 11 [] (.done)))))))))))))))) (by kernel_rfl) ?_
    refine q_move rfl rfl rfl rfl ?_
    refine q_move rfl rfl rfl rfl ?_
    refine q_nil_p rfl rfl rfl rfl ?_
    refine q_field (k := 0) rfl rfl rfl rfl Try.underlying70 rfl Try.sizeOf64 rfl ?_
    refine q_load_c (j := 0) rfl rfl rfl rfl Try.isAgg64 Tk (by first | rfl | exact (Nat.add_zero _).symm) (by rfl) ?_
    refine q_field (k := 1) rfl rfl rfl rfl Try.underlying36 rfl Try.sizeOf3 rfl ?_
    refine q_load_c (j := 1) rfl rfl rfl rfl Try.isAgg3 Tk (by first | rfl | exact (Nat.add_zero _).symm) (by rfl) ?_
    refine q_field (k := 1) rfl rfl rfl rfl Try.underlying39 rfl Try.sizeOf3 rfl ?_
    have sp_5 := clock_spec vb m1 (.pointer (some ⟨cb, 0, none⟩)) (.slice po x.v.ck.pa.length poc) (.map (some m2)) (.map (some m3)) (.map (some m4)) F1 tb (ta) (tc) l t (by omega) htF
    refine l_call rfl rfl rfl rfl rfl rfl Try.call50 (sp_5) Ts ?_
    rintro ⟨⟩ -
    try simp only [List.cons_append, List.nil_append]
    refine ag_nil ?_
    refine l_store (j := 1) rfl rfl rfl rfl Try.sizeOf3 (us := [_]) rfl rfl rfl Tk (by first | rfl | exact (Nat.add_zero _).symm) (by first | decide | (simp; done) | omega) ?_
    simp only [setL, List.set]
    refine ag_nil ?_
    refine q_field (k := 3) rfl rfl rfl rfl Try.underlying39 rfl Try.sizeOf37 rfl ?_
    refine l_store (j := 3) rfl rfl rfl rfl Try.sizeOf37 (us := [_]) rfl rfl rfl Tk (by first | rfl | exact (Nat.add_zero _).symm) (by first | decide | (simp; done) | omega) ?_
    simp only [setL, List.set]
    refine ag_nil ?_
    refine r_done ?_
    refine s_keep [0, 3, 7] (e' := [(0, _), (3, _), (7, _)]) rfl ?_
    refine k_then_n ?_
    refine c_draw rfl (.q 0 (.q 1 (.q 2 (.q 3 (.q 4 (.q 5 (.q 6 (.q 7 (.q 8 (.q 9 ((.l 10 [] (.done))))))))))))) (by kernel_rfl) ?_
    refine q_move rfl rfl rfl rfl ?_
    refine q_nil_p rfl rfl rfl rfl ?_
    refine q_field (k := 3) rfl rfl rfl rfl Try.underlying70 rfl Try.sizeOf68 rfl ?_
    refine q_load_c (j := 3) rfl rfl rfl rfl Try.isAgg68 Tk (by first | rfl | exact (Nat.add_zero _).symm) (by rfl) ?_
    refine q_field (k := 2) rfl rfl rfl rfl Try.underlying36 rfl Try.sizeOf3 rfl ?_
    refine q_load_c (j := 2) rfl rfl rfl rfl Try.isAgg3 Tk (by first | rfl | exact (Nat.add_zero _).symm) (by rfl) ?_
    refine q_field (k := 1) rfl rfl rfl rfl Try.underlying36 rfl Try.sizeOf3 rfl ?_
    refine q_load_c (j := 1) rfl rfl rfl rfl Try.isAgg3 Tk (by first | rfl | exact (Nat.add_zero _).symm) (by rfl) ?_
    refine q_build rfl rfl rfl rfl (vs := [_, _]) (run_buildS Try.underlying111 Try.zeroValue111 (ps := [(0, 1), (1, 1)]) ⟨rfl, Try.sizeOf3, rfl, Try.sizeOf3, trivial⟩ rfl) ?_
    refine q_loadN_c rfl rfl rfl rfl Try.isAgg39 Try.sizeOf39 Tk 0 (us := [_, _, _, _]) (by first | rfl | exact (Nat.add_zero _).symm) rfl rfl ?_
    refine l_mapUpd (ek := ek2) (ev1 := evT) (F := x.kept) (m := mk) (k := (o, t)) (v := (((x.kept (o, t)).getD (-1, -1, 0, 0)).1, x.v.ck.n, ((x.kept (o, t)).getD (-1, -1, 0, 0)).2.2.1, l.getD t.toNat 0)) (by first | exact .inl rfl | exact .inr rfl) rfl rfl rfl rfl Try.underlying68 (keyOK_pair Try.underlying111 rfl rfl rfl rfl Try.underlying3 Try.underlying3 Try.isAgg3 Try.isAgg3 (by kernel_rfl)) Tk ?_
    refine ag_nil ?_
    have hfx : ntF x k t o = ⟨x.v, (((((x.vars.set o.toNat (w.1, (o, z, x.v.ck.n), w.2.2.1, w.2.2.2.1, w.2.2.2.2)).set o.toNat ((o, z, x.v.ck.n), (o, z, x.v.ck.n), w.2.2.1, w.2.2.2.1, w.2.2.2.2)).set o.toNat ((o, z, x.v.ck.n), (o, z, x.v.ck.n), true, w.2.2.2.1, w.2.2.2.2)).set o.toNat ((o, z, x.v.ck.n), (o, z, x.v.ck.n), true, (k, t, o), w.2.2.2.2)).set o.toNat ((o, z, x.v.ck.n), (o, z, x.v.ck.n), true, (k, t, o), x.v.ck.n)), (if (x.kept (o, t)).isSome then x.keys else x.keys ++ [(o, t)]), upd x.kept (o, t) (some (((x.kept (o, t)).getD (-1, -1, 0, 0)).1, x.v.ck.n, ((x.kept (o, t)).getD (-1, -1, 0, 0)).2.2.1, l.getD t.toNat 0))⟩ := by
      have h5 : (((x.kept (o, t)).getD (-1, -1, 0, 0)).1, x.v.ck.n, ((x.kept (o, t)).getD (-1, -1, 0, 0)).2.2.1, l.getD t.toNat 0) = ntK x.v.ck.n k ((thF x.v t).getD t.toNat 0) (tchF x o t) := by
        rw [thF_eq hth]; unfold ntK tchF
        first | rw [if_pos hk1] | rw [if_neg hk1]
      have h6 : (((((x.vars.set o.toNat (w.1, (o, z, x.v.ck.n), w.2.2.1, w.2.2.2.1, w.2.2.2.2)).set o.toNat ((o, z, x.v.ck.n), (o, z, x.v.ck.n), w.2.2.1, w.2.2.2.1, w.2.2.2.2)).set o.toNat ((o, z, x.v.ck.n), (o, z, x.v.ck.n), true, w.2.2.2.1, w.2.2.2.2)).set o.toNat ((o, z, x.v.ck.n), (o, z, x.v.ck.n), true, (k, t, o), w.2.2.2.2)).set o.toNat ((o, z, x.v.ck.n), (o, z, x.v.ck.n), true, (k, t, o), x.v.ck.n)) = x.vars.set o.toNat (ntV x.v.ck.n k t o (agF x k t o) (x.vars.getD o.toNat t0)) := by
        rw [getD_some hw]
        simp only [set_two]
        congr 1
        symm
        rw [ntV_at hz, if_neg (by simpa using hra)]
      rw [h5, h6]; rfl
    refine s_vecF tb ta tc l Ts ?_
    refine s_rest_put (F := F1) (T := x.v.th) (S := []) t F1 x.v.th Ts (by simp) htF (fun _ _ _ => rfl) hth (fun _ _ _ => rfl) ?_
    refine vs_fold (b := vb) x.v (pa := pa) (pc := pc) (po := po) (poc := poc) (cb := cb) (m1 := m1) (m2 := m2) (m3 := m3) (m4 := m4) Ts (by rfl) (by rfl) ?_
    refine hs_fold (b := b) (ntF x k t o) (pa := pa) (pc := pc) (po := po) (poc := poc) (vb := vb) (va := va) (vc := vc) (mk := mk) (K := (if (x.kept (o, t)).isSome then x.keys else x.keys ++ [(o, t)])) Ts (by exact hfx) (by simp) (by rfl) ?_
    refine r_done ?_
    refine s_keep [] (e' := []) rfl ?_
    refine ret_end ?_
    refine ret0 rfl (()) (by first | rfl | (first | rfl | (congr 1; done) | (congr 1 <;> first | rfl | omega | (simp; done) | (simp; omega)))) (by trivial) ?_
    exact Tf
  ·
   try simp only [Bool.and_eq_true, Bool.or_eq_true, Bool.not_eq_true', Bool.not_eq_false', Bool.and_eq_false_iff, Bool.or_eq_false_iff, decide_eq_true_eq, decide_eq_false_iff_not] at hra
   refine c_skip ?_
   refine k_then_n ?_
   refine c_seq ?_
   refine c_plain (.q 0 (.q 1 (.q 2 (.q 3 (.q 4 (.q 5 ((.l 6 [] (.q 7 (.q 8 ((.l 9 [] (.done))))))))))))) (by kernel_rfl) ?_
   refine q_move rfl rfl rfl rfl ?_
   refine q_move rfl rfl rfl rfl ?_
   refine q_loadN_c rfl rfl rfl rfl Try.isAgg36 Try.sizeOf36 Tk 0 (us := [_, _, _]) (by first | rfl | exact (Nat.add_zero _).symm) rfl rfl ?_
   refine q_move rfl rfl rfl rfl ?_
   refine q_nil_p rfl rfl rfl rfl ?_
   refine q_field (k := 7) rfl rfl rfl rfl Try.underlying102 rfl Try.sizeOf36 rfl ?_
   refine l_store_O (j := 7) (k := o.toNat) (q := (w.1, (o, z, x.v.ck.n), w.2.2.1, (k, t, o), w.2.2.2.2)) (enc := encD) (off := io22) rfl rfl rfl rfl Try.sizeOf36 (us := [_, _, _]) rfl rfl rfl ha22 encD_len hs1 Tk (by first | rfl | exact (Nat.add_zero _).symm | omega) (by first | decide | exact Nat.le_of_ble_eq_true rfl) (by rfl) ?_
   refine ag_nil ?_
   have hs6 : ((x.vars.set o.toNat (w.1, (o, z, x.v.ck.n), w.2.2.1, w.2.2.2.1, w.2.2.2.2)).set o.toNat (w.1, (o, z, x.v.ck.n), w.2.2.1, (k, t, o), w.2.2.2.2))[o.toNat]? = some ((w.1, (o, z, x.v.ck.n), w.2.2.1, (k, t, o), w.2.2.2.2) : Tld) := List.getElem?_set_self (by first | omega | (simp only [List.length_set]; omega))
   refine q_nil_p rfl rfl rfl rfl ?_
   refine q_field (k := 10) rfl rfl rfl rfl Try.underlying102 rfl Try.sizeOf3 rfl ?_
   refine l_store_O (j := 10) (k := o.toNat) (q := (w.1, (o, z, x.v.ck.n), w.2.2.1, (k, t, o), x.v.ck.n)) (enc := encD) (off := io22) rfl rfl rfl rfl Try.sizeOf3 (us := [_]) rfl rfl rfl ha22 encD_len hs6 Tk (by first | rfl | exact (Nat.add_zero _).symm | omega) (by first | decide | exact Nat.le_of_ble_eq_true rfl) (by rfl) ?_
   refine ag_nil ?_
   have hs7 : (((x.vars.set o.toNat (w.1, (o, z, x.v.ck.n), w.2.2.1, w.2.2.2.1, w.2.2.2.2)).set o.toNat (w.1, (o, z, x.v.ck.n), w.2.2.1, (k, t, o), w.2.2.2.2)).set o.toNat (w.1, (o, z, x.v.ck.n), w.2.2.1, (k, t, o), x.v.ck.n))[o.toNat]? = some ((w.1, (o, z, x.v.ck.n), w.2.2.1, (k, t, o), x.v.ck.n) : Tld) := List.getElem?_set_self (by first | omega | (simp only [List.length_set]; omega))
   refine r_done ?_
   refine s_keep [0, 3, 4] (e' := [(0, _), (3, _), (4, _)]) rfl ?_
   refine k_then_n ?_
   refine c_seq ?_
   refine c_plain (.q 0 (.q 1 (.q 2 (.q 3 (.q 4 ((.l 5 [] ((.l 6 [] ((.l 7 [] (.done)))))))))))) (by kernel_rfl) ?_
   refine q_move rfl rfl rfl rfl ?_
   refine q_field (k := 2) rfl rfl rfl rfl Try.underlying36 rfl Try.sizeOf3 rfl ?_
   refine q_load_c (j := 2) rfl rfl rfl rfl Try.isAgg3 Tk (by first | rfl | exact (Nat.add_zero _).symm) (by rfl) ?_
   refine q_field (k := 1) rfl rfl rfl rfl Try.underlying36 rfl Try.sizeOf3 rfl ?_
   refine q_load_c (j := 1) rfl rfl rfl rfl Try.isAgg3 Tk (by first | rfl | exact (Nat.add_zero _).symm) (by rfl) ?_
   have sp_6 := Hi.touched_spec b mk (.pointer (some ⟨vb, 0, none⟩)) (.int .i64 x.v.ck.th) (.slice va x.vars.length vc) x.kept o t
   refine l_call rfl rfl rfl rfl rfl rfl Try.call33 (sp_6) Ts ?_
   rintro ⟨⟩ -
   try simp only [List.cons_append, List.nil_append]
   refine ag_nil ?_
   refine l_alloc rfl rfl rfl Try.zeroValue39 (zs := [.int .i64 0, .int .i64 0, .int .u64 0, .int .u64 0]) rfl ?_
   intro b7
   refine ag_nil ?_
   refine l_store (j := 0) rfl rfl rfl rfl Try.sizeOf39 (us := [_, _, _, _]) rfl rfl rfl Tk (by first | rfl | exact (Nat.add_zero _).symm) (by first | decide | (simp; done) | omega) ?_
   simp only [setL, List.set]
   refine ag_nil ?_
   refine r_done ?_
   refine s_keep [0, 3, 4, 7] (e' := [(0, _), (3, _), (4, _), (7, _)]) rfl ?_
   refine k_then_n ?_
   refine c_seq ?_
   refine c_seq ?_
   refine c_plain (.q 0 (.q 1 (.q 2 (.done)))) (by kernel_rfl) ?_
   refine q_field (k := 0) rfl rfl rfl rfl Try.underlying36 rfl Try.sizeOf34 rfl ?_
   refine q_load_c (j := 0) rfl rfl rfl rfl Try.isAgg34 Tk (by first | rfl | exact (Nat.add_zero _).symm) (by rfl) ?_
   refine q_int rfl rfl rfl rfl rfl (b_eql _ _ _ _) ?_
   refine r_done ?_
   refine k_then_n ?_
   refine c_cond_p rfl (fun hk1 => ?_) (fun hk1 => ?_)
   ·
    refine c_draw rfl (.q 0 (.q 1 (.q 2 (.q 3 (.q 4 (.q 5 (.q 6 (.q 8 ((.l 7 [] ((.l 9 [] (.q 10 ((.l 11 [] (.done)))))))))))))))) (by kernel_rfl) ?_
    refine q_move rfl rfl rfl rfl ?_
    refine q_move rfl rfl rfl rfl ?_
    refine q_nil_p rfl rfl rfl rfl ?_
    refine q_field (k := 0) rfl rfl rfl rfl Try.underlying70 rfl Try.sizeOf64 rfl ?_
    refine q_load_c (j := 0) rfl rfl rfl rfl Try.isAgg64 Tk (by first | rfl | exact (Nat.add_zero _).symm) (by rfl) ?_
    refine q_field (k := 1) rfl rfl rfl rfl Try.underlying36 rfl Try.sizeOf3 rfl ?_
    refine q_load_c (j := 1) rfl rfl rfl rfl Try.isAgg3 Tk (by first | rfl | exact (Nat.add_zero _).symm) (by rfl) ?_
    refine q_field (k := 0) rfl rfl rfl rfl Try.underlying39 rfl Try.sizeOf3 rfl ?_
    have sp_7 := clock_spec vb m1 (.pointer (some ⟨cb, 0, none⟩)) (.slice po x.v.ck.pa.length poc) (.map (some m2)) (.map (some m3)) (.map (some m4)) F1 tb (ta) (tc) l t (by omega) htF
    refine l_call rfl rfl rfl rfl rfl rfl Try.call50 (sp_7) Ts ?_
    rintro ⟨⟩ -
    try simp only [List.cons_append, List.nil_append]
    refine ag_nil ?_
    refine l_store (j := 0) rfl rfl rfl rfl Try.sizeOf3 (us := [_]) rfl rfl rfl Tk (by first | rfl | exact (Nat.add_zero _).symm) (by first | decide | (simp; done) | omega) ?_
    simp only [setL, List.set]
    refine ag_nil ?_
    refine q_field (k := 2) rfl rfl rfl rfl Try.underlying39 rfl Try.sizeOf37 rfl ?_
    refine l_store (j := 2) rfl rfl rfl rfl Try.sizeOf37 (us := [_]) rfl rfl rfl Tk (by first | rfl | exact (Nat.add_zero _).symm) (by first | decide | (simp; done) | omega) ?_
    simp only [setL, List.set]
    refine ag_nil ?_
    refine r_done ?_
    refine s_keep [0, 3, 7] (e' := [(0, _), (3, _), (7, _)]) rfl ?_
    refine k_then_n ?_
    refine c_draw rfl (.q 0 (.q 1 (.q 2 (.q 3 (.q 4 (.q 5 (.q 6 (.q 7 (.q 8 (.q 9 ((.l 10 [] (.done))))))))))))) (by kernel_rfl) ?_
    refine q_move rfl rfl rfl rfl ?_
    refine q_nil_p rfl rfl rfl rfl ?_
    refine q_field (k := 3) rfl rfl rfl rfl Try.underlying70 rfl Try.sizeOf68 rfl ?_
    refine q_load_c (j := 3) rfl rfl rfl rfl Try.isAgg68 Tk (by first | rfl | exact (Nat.add_zero _).symm) (by rfl) ?_
    refine q_field (k := 2) rfl rfl rfl rfl Try.underlying36 rfl Try.sizeOf3 rfl ?_
    refine q_load_c (j := 2) rfl rfl rfl rfl Try.isAgg3 Tk (by first | rfl | exact (Nat.add_zero _).symm) (by rfl) ?_
    refine q_field (k := 1) rfl rfl rfl rfl Try.underlying36 rfl Try.sizeOf3 rfl ?_
    refine q_load_c (j := 1) rfl rfl rfl rfl Try.isAgg3 Tk (by first | rfl | exact (Nat.add_zero _).symm) (by rfl) ?_
    refine q_build rfl rfl rfl rfl (vs := [_, _]) (run_buildS Try.underlying111 Try.zeroValue111 (ps := [(0, 1), (1, 1)]) ⟨rfl, Try.sizeOf3, rfl, Try.sizeOf3, trivial⟩ rfl) ?_
    refine q_loadN_c rfl rfl rfl rfl Try.isAgg39 Try.sizeOf39 Tk 0 (us := [_, _, _, _]) (by first | rfl | exact (Nat.add_zero _).symm) rfl rfl ?_
    refine l_mapUpd (ek := ek2) (ev1 := evT) (F := x.kept) (m := mk) (k := (o, t)) (v := (x.v.ck.n, ((x.kept (o, t)).getD (-1, -1, 0, 0)).2.1, l.getD t.toNat 0, ((x.kept (o, t)).getD (-1, -1, 0, 0)).2.2.2)) (by first | exact .inl rfl | exact .inr rfl) rfl rfl rfl rfl Try.underlying68 (keyOK_pair Try.underlying111 rfl rfl rfl rfl Try.underlying3 Try.underlying3 Try.isAgg3 Try.isAgg3 (by kernel_rfl)) Tk ?_
    refine ag_nil ?_
    have hfx : ntF x k t o = ⟨x.v, (((x.vars.set o.toNat (w.1, (o, z, x.v.ck.n), w.2.2.1, w.2.2.2.1, w.2.2.2.2)).set o.toNat (w.1, (o, z, x.v.ck.n), w.2.2.1, (k, t, o), w.2.2.2.2)).set o.toNat (w.1, (o, z, x.v.ck.n), w.2.2.1, (k, t, o), x.v.ck.n)), (if (x.kept (o, t)).isSome then x.keys else x.keys ++ [(o, t)]), upd x.kept (o, t) (some (x.v.ck.n, ((x.kept (o, t)).getD (-1, -1, 0, 0)).2.1, l.getD t.toNat 0, ((x.kept (o, t)).getD (-1, -1, 0, 0)).2.2.2))⟩ := by
      have h5 : (x.v.ck.n, ((x.kept (o, t)).getD (-1, -1, 0, 0)).2.1, l.getD t.toNat 0, ((x.kept (o, t)).getD (-1, -1, 0, 0)).2.2.2) = ntK x.v.ck.n k ((thF x.v t).getD t.toNat 0) (tchF x o t) := by
        rw [thF_eq hth]; unfold ntK tchF
        first | rw [if_pos hk1] | rw [if_neg hk1]
      have h6 : (((x.vars.set o.toNat (w.1, (o, z, x.v.ck.n), w.2.2.1, w.2.2.2.1, w.2.2.2.2)).set o.toNat (w.1, (o, z, x.v.ck.n), w.2.2.1, (k, t, o), w.2.2.2.2)).set o.toNat (w.1, (o, z, x.v.ck.n), w.2.2.1, (k, t, o), x.v.ck.n)) = x.vars.set o.toNat (ntV x.v.ck.n k t o (agF x k t o) (x.vars.getD o.toNat t0)) := by
        rw [getD_some hw]
        simp only [set_two]
        congr 1
        symm
        rw [ntV_at hz, if_pos (by simpa using hra)]; rw [show w.2.2.1 = true from by simpa using hra]
      rw [h5, h6]; rfl
    refine s_vecF tb ta tc l Ts ?_
    refine s_rest_put (F := F1) (T := x.v.th) (S := []) t F1 x.v.th Ts (by simp) htF (fun _ _ _ => rfl) hth (fun _ _ _ => rfl) ?_
    refine vs_fold (b := vb) x.v (pa := pa) (pc := pc) (po := po) (poc := poc) (cb := cb) (m1 := m1) (m2 := m2) (m3 := m3) (m4 := m4) Ts (by rfl) (by rfl) ?_
    refine hs_fold (b := b) (ntF x k t o) (pa := pa) (pc := pc) (po := po) (poc := poc) (vb := vb) (va := va) (vc := vc) (mk := mk) (K := (if (x.kept (o, t)).isSome then x.keys else x.keys ++ [(o, t)])) Ts (by exact hfx) (by simp) (by rfl) ?_
    refine r_done ?_
    refine s_keep [] (e' := []) rfl ?_
    refine ret_end ?_
    refine ret0 rfl (()) (by first | rfl | (first | rfl | (congr 1; done) | (congr 1 <;> first | rfl | omega | (simp; done) | (simp; omega)))) (by trivial) ?_
    exact Tf
   ·
    refine c_draw rfl (.q 0 (.q 1 (.q 2 (.q 3 (.q 4 (.q 5 (.q 6 (.q 8 ((.l 7 [] ((.l 9 [] (.q 10 ((.l 11 [] (.done)))))))))))))))) (by kernel_rfl) ?_
    refine q_move rfl rfl rfl rfl ?_
    refine q_move rfl rfl rfl rfl ?_
    refine q_nil_p rfl rfl rfl rfl ?_
    refine q_field (k := 0) rfl rfl rfl rfl Try.underlying70 rfl Try.sizeOf64 rfl ?_
    refine q_load_c (j := 0) rfl rfl rfl rfl Try.isAgg64 Tk (by first | rfl | exact (Nat.add_zero _).symm) (by rfl) ?_
    refine q_field (k := 1) rfl rfl rfl rfl Try.underlying36 rfl Try.sizeOf3 rfl ?_
    refine q_load_c (j := 1) rfl rfl rfl rfl Try.isAgg3 Tk (by first | rfl | exact (Nat.add_zero _).symm) (by rfl) ?_
    refine q_field (k := 1) rfl rfl rfl rfl Try.underlying39 rfl Try.sizeOf3 rfl ?_
    have sp_8 := clock_spec vb m1 (.pointer (some ⟨cb, 0, none⟩)) (.slice po x.v.ck.pa.length poc) (.map (some m2)) (.map (some m3)) (.map (some m4)) F1 tb (ta) (tc) l t (by omega) htF
    refine l_call rfl rfl rfl rfl rfl rfl Try.call50 (sp_8) Ts ?_
    rintro ⟨⟩ -
    try simp only [List.cons_append, List.nil_append]
    refine ag_nil ?_
    refine l_store (j := 1) rfl rfl rfl rfl Try.sizeOf3 (us := [_]) rfl rfl rfl Tk (by first | rfl | exact (Nat.add_zero _).symm) (by first | decide | (simp; done) | omega) ?_
    simp only [setL, List.set]
    refine ag_nil ?_
    refine q_field (k := 3) rfl rfl rfl rfl Try.underlying39 rfl Try.sizeOf37 rfl ?_
    refine l_store (j := 3) rfl rfl rfl rfl Try.sizeOf37 (us := [_]) rfl rfl rfl Tk (by first | rfl | exact (Nat.add_zero _).symm) (by first | decide | (simp; done) | omega) ?_
    simp only [setL, List.set]
    refine ag_nil ?_
    refine r_done ?_
    refine s_keep [0, 3, 7] (e' := [(0, _), (3, _), (7, _)]) rfl ?_
    refine k_then_n ?_
    refine c_draw rfl (.q 0 (.q 1 (.q 2 (.q 3 (.q 4 (.q 5 (.q 6 (.q 7 (.q 8 (.q 9 ((.l 10 [] (.done))))))))))))) (by kernel_rfl) ?_
    refine q_move rfl rfl rfl rfl ?_
    refine q_nil_p rfl rfl rfl rfl ?_
    refine q_field (k := 3) rfl rfl rfl rfl Try.underlying70 rfl Try.sizeOf68 rfl ?_
    refine q_load_c (j := 3) rfl rfl rfl rfl Try.isAgg68 Tk (by first | rfl | exact (Nat.add_zero _).symm) (by rfl) ?_
    refine q_field (k := 2) rfl rfl rfl rfl Try.underlying36 rfl Try.sizeOf3 rfl ?_
    refine q_load_c (j := 2) rfl rfl rfl rfl Try.isAgg3 Tk (by first | rfl | exact (Nat.add_zero _).symm) (by rfl) ?_
    refine q_field (k := 1) rfl rfl rfl rfl Try.underlying36 rfl Try.sizeOf3 rfl ?_
    refine q_load_c (j := 1) rfl rfl rfl rfl Try.isAgg3 Tk (by first | rfl | exact (Nat.add_zero _).symm) (by rfl) ?_
    refine q_build rfl rfl rfl rfl (vs := [_, _]) (run_buildS Try.underlying111 Try.zeroValue111 (ps := [(0, 1), (1, 1)]) ⟨rfl, Try.sizeOf3, rfl, Try.sizeOf3, trivial⟩ rfl) ?_
    refine q_loadN_c rfl rfl rfl rfl Try.isAgg39 Try.sizeOf39 Tk 0 (us := [_, _, _, _]) (by first | rfl | exact (Nat.add_zero _).symm) rfl rfl ?_
    refine l_mapUpd (ek := ek2) (ev1 := evT) (F := x.kept) (m := mk) (k := (o, t)) (v := (((x.kept (o, t)).getD (-1, -1, 0, 0)).1, x.v.ck.n, ((x.kept (o, t)).getD (-1, -1, 0, 0)).2.2.1, l.getD t.toNat 0)) (by first | exact .inl rfl | exact .inr rfl) rfl rfl rfl rfl Try.underlying68 (keyOK_pair Try.underlying111 rfl rfl rfl rfl Try.underlying3 Try.underlying3 Try.isAgg3 Try.isAgg3 (by kernel_rfl)) Tk ?_
    refine ag_nil ?_
    have hfx : ntF x k t o = ⟨x.v, (((x.vars.set o.toNat (w.1, (o, z, x.v.ck.n), w.2.2.1, w.2.2.2.1, w.2.2.2.2)).set o.toNat (w.1, (o, z, x.v.ck.n), w.2.2.1, (k, t, o), w.2.2.2.2)).set o.toNat (w.1, (o, z, x.v.ck.n), w.2.2.1, (k, t, o), x.v.ck.n)), (if (x.kept (o, t)).isSome then x.keys else x.keys ++ [(o, t)]), upd x.kept (o, t) (some (((x.kept (o, t)).getD (-1, -1, 0, 0)).1, x.v.ck.n, ((x.kept (o, t)).getD (-1, -1, 0, 0)).2.2.1, l.getD t.toNat 0))⟩ := by
      have h5 : (((x.kept (o, t)).getD (-1, -1, 0, 0)).1, x.v.ck.n, ((x.kept (o, t)).getD (-1, -1, 0, 0)).2.2.1, l.getD t.toNat 0) = ntK x.v.ck.n k ((thF x.v t).getD t.toNat 0) (tchF x o t) := by
        rw [thF_eq hth]; unfold ntK tchF
        first | rw [if_pos hk1] | rw [if_neg hk1]
      have h6 : (((x.vars.set o.toNat (w.1, (o, z, x.v.ck.n), w.2.2.1, w.2.2.2.1, w.2.2.2.2)).set o.toNat (w.1, (o, z, x.v.ck.n), w.2.2.1, (k, t, o), w.2.2.2.2)).set o.toNat (w.1, (o, z, x.v.ck.n), w.2.2.1, (k, t, o), x.v.ck.n)) = x.vars.set o.toNat (ntV x.v.ck.n k t o (agF x k t o) (x.vars.getD o.toNat t0)) := by
        rw [getD_some hw]
        simp only [set_two]
        congr 1
        symm
        rw [ntV_at hz, if_pos (by simpa using hra)]; rw [show w.2.2.1 = true from by simpa using hra]
      rw [h5, h6]; rfl
    refine s_vecF tb ta tc l Ts ?_
    refine s_rest_put (F := F1) (T := x.v.th) (S := []) t F1 x.v.th Ts (by simp) htF (fun _ _ _ => rfl) hth (fun _ _ _ => rfl) ?_
    refine vs_fold (b := vb) x.v (pa := pa) (pc := pc) (po := po) (poc := poc) (cb := cb) (m1 := m1) (m2 := m2) (m3 := m3) (m4 := m4) Ts (by rfl) (by rfl) ?_
    refine hs_fold (b := b) (ntF x k t o) (pa := pa) (pc := pc) (po := po) (poc := poc) (vb := vb) (va := va) (vc := vc) (mk := mk) (K := (if (x.kept (o, t)).isSome then x.keys else x.keys ++ [(o, t)])) Ts (by exact hfx) (by simp) (by rfl) ?_
    refine r_done ?_
    refine s_keep [] (e' := []) rfl ?_
    refine ret_end ?_
    refine ret0 rfl (()) (by first | rfl | (first | rfl | (congr 1; done) | (congr 1 <;> first | rfl | omega | (simp; done) | (simp; omega)))) (by trivial) ?_
    exact Tf
 ·
  refine c_skip ?_
  refine k_then_n ?_
  refine c_seq ?_
  refine c_plain (.q 0 (.q 1 (.q 2 (.q 3 (.q 4 (.q 5 ((.l 6 [] (.q 7 (.q 8 ((.l 9 [] (.done))))))))))))) (by kernel_rfl) ?_
  refine q_move rfl rfl rfl rfl ?_
  refine q_move rfl rfl rfl rfl ?_
  refine q_loadN_c rfl rfl rfl rfl Try.isAgg36 Try.sizeOf36 Tk 0 (us := [_, _, _]) (by first | rfl | exact (Nat.add_zero _).symm) rfl rfl ?_
  refine q_move rfl rfl rfl rfl ?_
  refine q_nil_p rfl rfl rfl rfl ?_
  refine q_field (k := 7) rfl rfl rfl rfl Try.underlying102 rfl Try.sizeOf36 rfl ?_
  refine l_store_O (j := 7) (k := o.toNat) (q := (w.1, w.2.1, w.2.2.1, (k, t, o), w.2.2.2.2)) (enc := encD) (off := io22) rfl rfl rfl rfl Try.sizeOf36 (us := [_, _, _]) rfl rfl rfl ha22 encD_len hw Tk (by first | rfl | exact (Nat.add_zero _).symm | omega) (by first | decide | exact Nat.le_of_ble_eq_true rfl) (by rfl) ?_
  refine ag_nil ?_
  have hs8 : (x.vars.set o.toNat (w.1, w.2.1, w.2.2.1, (k, t, o), w.2.2.2.2))[o.toNat]? = some ((w.1, w.2.1, w.2.2.1, (k, t, o), w.2.2.2.2) : Tld) := List.getElem?_set_self (by first | omega | (simp only [List.length_set]; omega))
  refine q_nil_p rfl rfl rfl rfl ?_
  refine q_field (k := 10) rfl rfl rfl rfl Try.underlying102 rfl Try.sizeOf3 rfl ?_
  refine l_store_O (j := 10) (k := o.toNat) (q := (w.1, w.2.1, w.2.2.1, (k, t, o), x.v.ck.n)) (enc := encD) (off := io22) rfl rfl rfl rfl Try.sizeOf3 (us := [_]) rfl rfl rfl ha22 encD_len hs8 Tk (by first | rfl | exact (Nat.add_zero _).symm | omega) (by first | decide | exact Nat.le_of_ble_eq_true rfl) (by rfl) ?_
  refine ag_nil ?_
  have hs9 : ((x.vars.set o.toNat (w.1, w.2.1, w.2.2.1, (k, t, o), w.2.2.2.2)).set o.toNat (w.1, w.2.1, w.2.2.1, (k, t, o), x.v.ck.n))[o.toNat]? = some ((w.1, w.2.1, w.2.2.1, (k, t, o), x.v.ck.n) : Tld) := List.getElem?_set_self (by first | omega | (simp only [List.length_set]; omega))
  refine r_done ?_
  refine s_keep [0, 3, 4] (e' := [(0, _), (3, _), (4, _)]) rfl ?_
  refine k_then_n ?_
  refine c_seq ?_
  refine c_plain (.q 0 (.q 1 (.q 2 (.q 3 (.q 4 ((.l 5 [] ((.l 6 [] ((.l 7 [] (.done)))))))))))) (by kernel_rfl) ?_
  refine q_move rfl rfl rfl rfl ?_
  refine q_field (k := 2) rfl rfl rfl rfl Try.underlying36 rfl Try.sizeOf3 rfl ?_
  refine q_load_c (j := 2) rfl rfl rfl rfl Try.isAgg3 Tk (by first | rfl | exact (Nat.add_zero _).symm) (by rfl) ?_
  refine q_field (k := 1) rfl rfl rfl rfl Try.underlying36 rfl Try.sizeOf3 rfl ?_
  refine q_load_c (j := 1) rfl rfl rfl rfl Try.isAgg3 Tk (by first | rfl | exact (Nat.add_zero _).symm) (by rfl) ?_
  have sp_9 := Hi.touched_spec b mk (.pointer (some ⟨vb, 0, none⟩)) (.int .i64 x.v.ck.th) (.slice va x.vars.length vc) x.kept o t
  refine l_call rfl rfl rfl rfl rfl rfl Try.call33 (sp_9) Ts ?_
  rintro ⟨⟩ -
  try simp only [List.cons_append, List.nil_append]
  refine ag_nil ?_
  refine l_alloc rfl rfl rfl Try.zeroValue39 (zs := [.int .i64 0, .int .i64 0, .int .u64 0, .int .u64 0]) rfl ?_
  intro b7
  refine ag_nil ?_
  refine l_store (j := 0) rfl rfl rfl rfl Try.sizeOf39 (us := [_, _, _, _]) rfl rfl rfl Tk (by first | rfl | exact (Nat.add_zero _).symm) (by first | decide | (simp; done) | omega) ?_
  simp only [setL, List.set]
  refine ag_nil ?_
  refine r_done ?_
  refine s_keep [0, 3, 4, 7] (e' := [(0, _), (3, _), (4, _), (7, _)]) rfl ?_
  refine k_then_n ?_
  refine c_seq ?_
  refine c_seq ?_
  refine c_plain (.q 0 (.q 1 (.q 2 (.done)))) (by kernel_rfl) ?_
  refine q_field (k := 0) rfl rfl rfl rfl Try.underlying36 rfl Try.sizeOf34 rfl ?_
  refine q_load_c (j := 0) rfl rfl rfl rfl Try.isAgg34 Tk (by first | rfl | exact (Nat.add_zero _).symm) (by rfl) ?_
  refine q_int rfl rfl rfl rfl rfl (b_eql _ _ _ _) ?_
  refine r_done ?_
  refine k_then_n ?_
  refine c_cond_p rfl (fun hk1 => ?_) (fun hk1 => ?_)
  ·
   refine c_draw rfl (.q 0 (.q 1 (.q 2 (.q 3 (.q 4 (.q 5 (.q 6 (.q 8 ((.l 7 [] ((.l 9 [] (.q 10 ((.l 11 [] (.done)))))))))))))))) (by kernel_rfl) ?_
   refine q_move rfl rfl rfl rfl ?_
   refine q_move rfl rfl rfl rfl ?_
   refine q_nil_p rfl rfl rfl rfl ?_
   refine q_field (k := 0) rfl rfl rfl rfl Try.underlying70 rfl Try.sizeOf64 rfl ?_
   refine q_load_c (j := 0) rfl rfl rfl rfl Try.isAgg64 Tk (by first | rfl | exact (Nat.add_zero _).symm) (by rfl) ?_
   refine q_field (k := 1) rfl rfl rfl rfl Try.underlying36 rfl Try.sizeOf3 rfl ?_
   refine q_load_c (j := 1) rfl rfl rfl rfl Try.isAgg3 Tk (by first | rfl | exact (Nat.add_zero _).symm) (by rfl) ?_
   refine q_field (k := 0) rfl rfl rfl rfl Try.underlying39 rfl Try.sizeOf3 rfl ?_
   have sp_10 := clock_spec vb m1 (.pointer (some ⟨cb, 0, none⟩)) (.slice po x.v.ck.pa.length poc) (.map (some m2)) (.map (some m3)) (.map (some m4)) F1 tb (ta) (tc) l t (by omega) htF
   refine l_call rfl rfl rfl rfl rfl rfl Try.call50 (sp_10) Ts ?_
   rintro ⟨⟩ -
   try simp only [List.cons_append, List.nil_append]
   refine ag_nil ?_
   refine l_store (j := 0) rfl rfl rfl rfl Try.sizeOf3 (us := [_]) rfl rfl rfl Tk (by first | rfl | exact (Nat.add_zero _).symm) (by first | decide | (simp; done) | omega) ?_
   simp only [setL, List.set]
   refine ag_nil ?_
   refine q_field (k := 2) rfl rfl rfl rfl Try.underlying39 rfl Try.sizeOf37 rfl ?_
   refine l_store (j := 2) rfl rfl rfl rfl Try.sizeOf37 (us := [_]) rfl rfl rfl Tk (by first | rfl | exact (Nat.add_zero _).symm) (by first | decide | (simp; done) | omega) ?_
   simp only [setL, List.set]
   refine ag_nil ?_
   refine r_done ?_
   refine s_keep [0, 3, 7] (e' := [(0, _), (3, _), (7, _)]) rfl ?_
   refine k_then_n ?_
   refine c_draw rfl (.q 0 (.q 1 (.q 2 (.q 3 (.q 4 (.q 5 (.q 6 (.q 7 (.q 8 (.q 9 ((.l 10 [] (.done))))))))))))) (by kernel_rfl) ?_
   refine q_move rfl rfl rfl rfl ?_
   refine q_nil_p rfl rfl rfl rfl ?_
   refine q_field (k := 3) rfl rfl rfl rfl Try.underlying70 rfl Try.sizeOf68 rfl ?_
   refine q_load_c (j := 3) rfl rfl rfl rfl Try.isAgg68 Tk (by first | rfl | exact (Nat.add_zero _).symm) (by rfl) ?_
   refine q_field (k := 2) rfl rfl rfl rfl Try.underlying36 rfl Try.sizeOf3 rfl ?_
   refine q_load_c (j := 2) rfl rfl rfl rfl Try.isAgg3 Tk (by first | rfl | exact (Nat.add_zero _).symm) (by rfl) ?_
   refine q_field (k := 1) rfl rfl rfl rfl Try.underlying36 rfl Try.sizeOf3 rfl ?_
   refine q_load_c (j := 1) rfl rfl rfl rfl Try.isAgg3 Tk (by first | rfl | exact (Nat.add_zero _).symm) (by rfl) ?_
   refine q_build rfl rfl rfl rfl (vs := [_, _]) (run_buildS Try.underlying111 Try.zeroValue111 (ps := [(0, 1), (1, 1)]) ⟨rfl, Try.sizeOf3, rfl, Try.sizeOf3, trivial⟩ rfl) ?_
   refine q_loadN_c rfl rfl rfl rfl Try.isAgg39 Try.sizeOf39 Tk 0 (us := [_, _, _, _]) (by first | rfl | exact (Nat.add_zero _).symm) rfl rfl ?_
   refine l_mapUpd (ek := ek2) (ev1 := evT) (F := x.kept) (m := mk) (k := (o, t)) (v := (x.v.ck.n, ((x.kept (o, t)).getD (-1, -1, 0, 0)).2.1, l.getD t.toNat 0, ((x.kept (o, t)).getD (-1, -1, 0, 0)).2.2.2)) (by first | exact .inl rfl | exact .inr rfl) rfl rfl rfl rfl Try.underlying68 (keyOK_pair Try.underlying111 rfl rfl rfl rfl Try.underlying3 Try.underlying3 Try.isAgg3 Try.isAgg3 (by kernel_rfl)) Tk ?_
   refine ag_nil ?_
   have hfx : ntF x k t o = ⟨x.v, ((x.vars.set o.toNat (w.1, w.2.1, w.2.2.1, (k, t, o), w.2.2.2.2)).set o.toNat (w.1, w.2.1, w.2.2.1, (k, t, o), x.v.ck.n)), (if (x.kept (o, t)).isSome then x.keys else x.keys ++ [(o, t)]), upd x.kept (o, t) (some (x.v.ck.n, ((x.kept (o, t)).getD (-1, -1, 0, 0)).2.1, l.getD t.toNat 0, ((x.kept (o, t)).getD (-1, -1, 0, 0)).2.2.2))⟩ := by
     have h5 : (x.v.ck.n, ((x.kept (o, t)).getD (-1, -1, 0, 0)).2.1, l.getD t.toNat 0, ((x.kept (o, t)).getD (-1, -1, 0, 0)).2.2.2) = ntK x.v.ck.n k ((thF x.v t).getD t.toNat 0) (tchF x o t) := by
       rw [thF_eq hth]; unfold ntK tchF
       first | rw [if_pos hk1] | rw [if_neg hk1]
     have h6 : ((x.vars.set o.toNat (w.1, w.2.1, w.2.2.1, (k, t, o), w.2.2.2.2)).set o.toNat (w.1, w.2.1, w.2.2.1, (k, t, o), x.v.ck.n)) = x.vars.set o.toNat (ntV x.v.ck.n k t o (agF x k t o) (x.vars.getD o.toNat t0)) := by
       rw [getD_some hw]
       simp only [set_two]
       congr 1
       symm
       rw [ntV_no (by omega)]
     rw [h5, h6]; rfl
   refine s_vecF tb ta tc l Ts ?_
   refine s_rest_put (F := F1) (T := x.v.th) (S := []) t F1 x.v.th Ts (by simp) htF (fun _ _ _ => rfl) hth (fun _ _ _ => rfl) ?_
   refine vs_fold (b := vb) x.v (pa := pa) (pc := pc) (po := po) (poc := poc) (cb := cb) (m1 := m1) (m2 := m2) (m3 := m3) (m4 := m4) Ts (by rfl) (by rfl) ?_
   refine hs_fold (b := b) (ntF x k t o) (pa := pa) (pc := pc) (po := po) (poc := poc) (vb := vb) (va := va) (vc := vc) (mk := mk) (K := (if (x.kept (o, t)).isSome then x.keys else x.keys ++ [(o, t)])) Ts (by exact hfx) (by simp) (by rfl) ?_
   refine r_done ?_
   refine s_keep [] (e' := []) rfl ?_
   refine ret_end ?_
   refine ret0 rfl (()) (by first | rfl | (first | rfl | (congr 1; done) | (congr 1 <;> first | rfl | omega | (simp; done) | (simp; omega)))) (by trivial) ?_
   exact Tf
  ·
   refine c_draw rfl (.q 0 (.q 1 (.q 2 (.q 3 (.q 4 (.q 5 (.q 6 (.q 8 ((.l 7 [] ((.l 9 [] (.q 10 ((.l 11 [] (.done)))))))))))))))) (by kernel_rfl) ?_
   refine q_move rfl rfl rfl rfl ?_
   refine q_move rfl rfl rfl rfl ?_
   refine q_nil_p rfl rfl rfl rfl ?_
   refine q_field (k := 0) rfl rfl rfl rfl Try.underlying70 rfl Try.sizeOf64 rfl ?_
   refine q_load_c (j := 0) rfl rfl rfl rfl Try.isAgg64 Tk (by first | rfl | exact (Nat.add_zero _).symm) (by rfl) ?_
   refine q_field (k := 1) rfl rfl rfl rfl Try.underlying36 rfl Try.sizeOf3 rfl ?_
   refine q_load_c (j := 1) rfl rfl rfl rfl Try.isAgg3 Tk (by first | rfl | exact (Nat.add_zero _).symm) (by rfl) ?_
   refine q_field (k := 1) rfl rfl rfl rfl Try.underlying39 rfl Try.sizeOf3 rfl ?_
   have sp_11 := clock_spec vb m1 (.pointer (some ⟨cb, 0, none⟩)) (.slice po x.v.ck.pa.length poc) (.map (some m2)) (.map (some m3)) (.map (some m4)) F1 tb (ta) (tc) l t (by omega) htF
   refine l_call rfl rfl rfl rfl rfl rfl Try.call50 (sp_11) Ts ?_
   rintro ⟨⟩ -
   try simp only [List.cons_append, List.nil_append]
   refine ag_nil ?_
   refine l_store (j := 1) rfl rfl rfl rfl Try.sizeOf3 (us := [_]) rfl rfl rfl Tk (by first | rfl | exact (Nat.add_zero _).symm) (by first | decide | (simp; done) | omega) ?_
   simp only [setL, List.set]
   refine ag_nil ?_
   refine q_field (k := 3) rfl rfl rfl rfl Try.underlying39 rfl Try.sizeOf37 rfl ?_
   refine l_store (j := 3) rfl rfl rfl rfl Try.sizeOf37 (us := [_]) rfl rfl rfl Tk (by first | rfl | exact (Nat.add_zero _).symm) (by first | decide | (simp; done) | omega) ?_
   simp only [setL, List.set]
   refine ag_nil ?_
   refine r_done ?_
   refine s_keep [0, 3, 7] (e' := [(0, _), (3, _), (7, _)]) rfl ?_
   refine k_then_n ?_
   refine c_draw rfl (.q 0 (.q 1 (.q 2 (.q 3 (.q 4 (.q 5 (.q 6 (.q 7 (.q 8 (.q 9 ((.l 10 [] (.done))))))))))))) (by kernel_rfl) ?_
   refine q_move rfl rfl rfl rfl ?_
   refine q_nil_p rfl rfl rfl rfl ?_
   refine q_field (k := 3) rfl rfl rfl rfl Try.underlying70 rfl Try.sizeOf68 rfl ?_
   refine q_load_c (j := 3) rfl rfl rfl rfl Try.isAgg68 Tk (by first | rfl | exact (Nat.add_zero _).symm) (by rfl) ?_
   refine q_field (k := 2) rfl rfl rfl rfl Try.underlying36 rfl Try.sizeOf3 rfl ?_
   refine q_load_c (j := 2) rfl rfl rfl rfl Try.isAgg3 Tk (by first | rfl | exact (Nat.add_zero _).symm) (by rfl) ?_
   refine q_field (k := 1) rfl rfl rfl rfl Try.underlying36 rfl Try.sizeOf3 rfl ?_
   refine q_load_c (j := 1) rfl rfl rfl rfl Try.isAgg3 Tk (by first | rfl | exact (Nat.add_zero _).symm) (by rfl) ?_
   refine q_build rfl rfl rfl rfl (vs := [_, _]) (run_buildS Try.underlying111 Try.zeroValue111 (ps := [(0, 1), (1, 1)]) ⟨rfl, Try.sizeOf3, rfl, Try.sizeOf3, trivial⟩ rfl) ?_
   refine q_loadN_c rfl rfl rfl rfl Try.isAgg39 Try.sizeOf39 Tk 0 (us := [_, _, _, _]) (by first | rfl | exact (Nat.add_zero _).symm) rfl rfl ?_
   refine l_mapUpd (ek := ek2) (ev1 := evT) (F := x.kept) (m := mk) (k := (o, t)) (v := (((x.kept (o, t)).getD (-1, -1, 0, 0)).1, x.v.ck.n, ((x.kept (o, t)).getD (-1, -1, 0, 0)).2.2.1, l.getD t.toNat 0)) (by first | exact .inl rfl | exact .inr rfl) rfl rfl rfl rfl Try.underlying68 (keyOK_pair Try.underlying111 rfl rfl rfl rfl Try.underlying3 Try.underlying3 Try.isAgg3 Try.isAgg3 (by kernel_rfl)) Tk ?_
   refine ag_nil ?_
   have hfx : ntF x k t o = ⟨x.v, ((x.vars.set o.toNat (w.1, w.2.1, w.2.2.1, (k, t, o), w.2.2.2.2)).set o.toNat (w.1, w.2.1, w.2.2.1, (k, t, o), x.v.ck.n)), (if (x.kept (o, t)).isSome then x.keys else x.keys ++ [(o, t)]), upd x.kept (o, t) (some (((x.kept (o, t)).getD (-1, -1, 0, 0)).1, x.v.ck.n, ((x.kept (o, t)).getD (-1, -1, 0, 0)).2.2.1, l.getD t.toNat 0))⟩ := by
     have h5 : (((x.kept (o, t)).getD (-1, -1, 0, 0)).1, x.v.ck.n, ((x.kept (o, t)).getD (-1, -1, 0, 0)).2.2.1, l.getD t.toNat 0) = ntK x.v.ck.n k ((thF x.v t).getD t.toNat 0) (tchF x o t) := by
       rw [thF_eq hth]; unfold ntK tchF
       first | rw [if_pos hk1] | rw [if_neg hk1]
     have h6 : ((x.vars.set o.toNat (w.1, w.2.1, w.2.2.1, (k, t, o), w.2.2.2.2)).set o.toNat (w.1, w.2.1, w.2.2.1, (k, t, o), x.v.ck.n)) = x.vars.set o.toNat (ntV x.v.ck.n k t o (agF x k t o) (x.vars.getD o.toNat t0)) := by
       rw [getD_some hw]
       simp only [set_two]
       congr 1
       symm
       rw [ntV_no (by omega)]
     rw [h5, h6]; rfl
   refine s_vecF tb ta tc l Ts ?_
   refine s_rest_put (F := F1) (T := x.v.th) (S := []) t F1 x.v.th Ts (by simp) htF (fun _ _ _ => rfl) hth (fun _ _ _ => rfl) ?_
   refine vs_fold (b := vb) x.v (pa := pa) (pc := pc) (po := po) (poc := poc) (cb := cb) (m1 := m1) (m2 := m2) (m3 := m3) (m4 := m4) Ts (by rfl) (by rfl) ?_
   refine hs_fold (b := b) (ntF x k t o) (pa := pa) (pc := pc) (po := po) (poc := poc) (vb := vb) (va := va) (vc := vc) (mk := mk) (K := (if (x.kept (o, t)).isSome then x.keys else x.keys ++ [(o, t)])) Ts (by exact hfx) (by simp) (by rfl) ?_
   refine r_done ?_
   refine s_keep [] (e' := []) rfl ?_
   refine ret_end ?_
   refine ret0 rfl (()) (by first | rfl | (first | rfl | (congr 1; done) | (congr 1 <;> first | rfl | omega | (simp; done) | (simp; omega)))) (by trivial) ?_
   exact Tf
end Go.Ab.Hi
set_option linter.unusedVariables false
set_option linter.unusedSimpArgs false
set_option maxRecDepth 100000
namespace Go.Ab.Hi
open Go Go.Proofs Go.Ab Go.Ab.Fe Go.Ab.Vc Go.Ab.Dj Go.Ab.So
theorem he_acc {x : HS} {k t o : Int} (hv : vcanF x.v k t o) (hk : k = 1 ∨ k = 2) : heF x k t o = ⟨vnF x.v k t o, (ntF x k t o).vars, (ntF x k t o).keys, (ntF x k t o).kept⟩ := by rw [heF, if_pos hv, accF, if_pos hk]
theorem he_no {x : HS} {k t o : Int} (hv : vcanF x.v k t o) (hk : ¬ (k = 1 ∨ k = 2)) : heF x k t o = ⟨vnF x.v k t o, x.vars, x.keys, x.kept⟩ := by rw [heF, if_pos hv, accF, if_neg hk]
/-- The pairs that are told. -/
def prF (vs : List Tld) : List T3 := (vs.filter (fun w => w.2.2.1)).map (·.1)
theorem prF_next {vs : List Tld} {i : Nat} {w : Tld} (h : vs[i]? = some w) : prF (vs.take (i + 1)) = prF (vs.take i) ++ (if w.2.2.1 = true then [w.1] else []) := by
  unfold prF
  rw [List.take_add_one, h]
  simp only [Option.toList_some, List.filter_append, List.map_append]
  congr 1
  by_cases hw : w.2.2.1 = true <;> simp [hw]
theorem prF_len (vs : List Tld) : (prF vs).length ≤ vs.length := by
  unfold prF
  rw [List.length_map]; exact List.length_filter_le _ _
/-- What is told of a variable, if there is one. -/
def wH (x : HS) (z : Int) : Tld := if 0 ≤ z then (x.vars[z.toNat]?).getD t0 else t0
theorem event_spec (pa : Option Addr) (pc : Nat) (po : Option Addr) (poc b : Nat) (x : HS) (hx : SInv x) (hn : x.v.ck.n ≤ 100000000000) (pl : List Int) (hpl : x.v.ck.pa = pl) (k t o : Int) : Spec Try.prog 11 [.pointer (some ⟨b, 0, none⟩), .agg #[.int .i64 k, .int .i64 t, .int .i64 o]] [hsR pa pc po poc b x, own 1 encZ pa pc pl, own 1 encZ po poc pl] (fun (_ : Unit) => .int .i64 (heE x k t o)) (fun _ => True) (fun _ => [hsR pa pc po poc b (heF x k t o), own 1 encZ pa pc pl, own 1 encZ po poc pl]) := by
 refine spec_mk (n := 30) Try.func11 rfl rfl rfl ?_
 intro Γ w0
 simp only [argE, List.cons_append, List.nil_append, Nat.zero_add, Nat.reduceAdd]
 refine c_seq ?_
 refine c_plain ((.l 0 [] (.q 1 (.done)))) (by kernel_rfl) ?_
 refine l_box rfl rfl rfl rfl (us := [_, _, _]) rfl ?_
 intro b3
 refine ag_nil ?_
 refine q_assign rfl rfl rfl rfl ?_
 refine r_done ?_
 refine k_then_n ?_
 refine c_seq ?_
 refine c_seq ?_
 refine s_take (A := hsR pa pc po poc b x) Tk ?_
 refine hs_open fun vb mk va vc => ?_
 refine c_plain (.q 0 ((.l 1 [] (.q 2 (.done))))) (by kernel_rfl) ?_
 refine q_move rfl rfl rfl rfl ?_
 have sp_1 := Hi.there_spec b vb (.int .i64 x.v.ck.th) (.slice va x.vars.length vc) (.map (some mk))
 refine l_call rfl rfl rfl rfl rfl rfl Try.call28 (sp_1) Ts ?_
 rintro ⟨⟩ -
 try simp only [List.cons_append, List.nil_append]
 refine ag_nil ?_
 refine q_not rfl rfl rfl rfl ?_
 refine s_eq 7 rfl (v' := .bool false) rfl ?_
 refine r_done ?_
 refine s_keep [0, 3, 7] (e' := [(0, _), (3, _), (7, _)]) rfl ?_
 refine k_then_n ?_
 refine c_cond_f rfl ?_
 refine c_skip ?_
 refine k_then_n ?_
 refine c_seq ?_
 refine c_seq ?_
 refine c_draw rfl (.q 0 (.q 1 (.q 2 (.q 3 (.q 4 ((.l 5 [] (.q 6 (.done))))))))) (by kernel_rfl) ?_
 refine q_move rfl rfl rfl rfl ?_
 refine q_nil_p rfl rfl rfl rfl ?_
 refine q_field (k := 0) rfl rfl rfl rfl Try.underlying70 rfl Try.sizeOf64 rfl ?_
 refine q_load_c (j := 0) rfl rfl rfl rfl Try.isAgg64 Tk (by first | rfl | exact (Nat.add_zero _).symm) (by rfl) ?_
 refine q_loadN_c rfl rfl rfl rfl Try.isAgg36 Try.sizeOf36 Tk 0 (us := [_, _, _]) (by first | rfl | exact (Nat.add_zero _).symm) rfl rfl ?_
 have sp_2 := Dj.can_spec pa pc po poc vb x.v hx.v k t o
 refine l_call rfl rfl rfl rfl rfl rfl Try.call29 (sp_2) Ts ?_
 rintro ⟨⟩ -
 try simp only [List.cons_append, List.nil_append]
 refine ag_nil ?_
 refine q_not rfl rfl rfl rfl ?_
 refine r_done ?_
 refine s_keep [0, 3, 14] (e' := [(0, _), (3, _), (14, _)]) rfl ?_
 refine k_then_n ?_
 refine c_cond_np rfl (fun hv => ?_) (fun hv => ?_)
 ·
  refine c_seq ?_
  refine c_plain (.q 0 (.done)) (by kernel_rfl) ?_
  refine q_assign rfl rfl rfl rfl ?_
  refine r_done ?_
  refine k_then_n ?_
  refine c_ret ?_
  refine k_then_ret ?_
  refine hs_fold (b := b) x (pa := pa) (pc := pc) (po := po) (poc := poc) (vb := vb) (va := va) (vc := vc) (mk := mk) (K := x.keys) Ts (by rfl) (by rfl) (by rfl) ?_
  rw [show heF x k t o = x from if_neg hv]
  refine ret1 rfl rfl (()) (by rw [heE, if_neg hv]) (by trivial) ?_
  exact Tf
 ·
  refine c_skip ?_
  refine k_then_n ?_
  refine c_seq ?_
  refine c_seq ?_
  refine c_plain (.q 0 (.q 1 (.done))) (by kernel_rfl) ?_
  refine q_field (k := 0) rfl rfl rfl rfl Try.underlying36 rfl Try.sizeOf34 rfl ?_
  refine q_load_c (j := 0) rfl rfl rfl rfl Try.isAgg34 Tk (by first | rfl | exact (Nat.add_zero _).symm) (by rfl) ?_
  refine r_done ?_
  refine k_then_n ?_
  refine c_block ?_
  refine c_seq ?_
  refine c_block ?_
  refine c_block ?_
  refine c_seq ?_
  refine c_seq ?_
  refine c_seq ?_
  refine c_plain (.q 0 (.q 1 (.done))) (by kernel_rfl) ?_
  refine q_int rfl rfl rfl rfl rfl (b_eql _ _ _ _) ?_
  refine q_assign rfl rfl rfl rfl ?_
  refine r_done ?_
  refine k_then_n ?_
  refine c_cond_p rfl (fun k1 => ?_) (fun k1 => ?_)
  ·
   refine s_eq 17 rfl (v' := .bool true) (by rw [decide_eq_true k1]) ?_
   refine c_exit ?_
   refine k_then_exit ?_
   refine k_then_exit ?_
   refine k_blk_here ?_
   refine k_blk_n ?_
   refine k_then_n ?_
   refine c_seq ?_
   refine c_plain (.q 0 (.q 1 ((.l 2 [] (.done))))) (by kernel_rfl) ?_
   refine q_move rfl rfl rfl rfl ?_
   refine q_loadN_c rfl rfl rfl rfl Try.isAgg36 Try.sizeOf36 Tk 0 (us := [_, _, _]) (by first | rfl | exact (Nat.add_zero _).symm) rfl rfl ?_
   refine hs_fold (b := b) x (pa := pa) (pc := pc) (po := po) (poc := poc) (vb := vb) (va := va) (vc := vc) (mk := mk) (K := x.keys) Ts (by rfl) (by rfl) (by rfl) ?_
   have sp_3 := Hi.note_spec pa pc po poc b x hx hn k t o hv.1 (by omega)
   refine l_call rfl rfl rfl rfl rfl rfl Try.call30 (sp_3) Ts ?_
   rintro ⟨⟩ -
   try simp only [List.cons_append, List.nil_append]
   refine ag_nil ?_
   refine s_take (A := hsR pa pc po poc b (ntF x k t o)) Tk ?_
   refine hs_open fun vbn mkn van vcn => ?_
   simp only [show (ntF x k t o).v = x.v from rfl]
   refine r_done ?_
   refine s_keep [0, 3] (e' := [(0, _), (3, _)]) rfl ?_
   refine k_then_n ?_
   refine c_exit ?_
   refine k_blk_here ?_
   refine k_then_n ?_
   refine c_seq ?_
   refine c_draw rfl (.q 0 (.q 1 (.q 2 (.q 3 (.q 4 ((.l 5 [] (.done)))))))) (by kernel_rfl) ?_
   refine q_move rfl rfl rfl rfl ?_
   refine q_nil_p rfl rfl rfl rfl ?_
   refine q_field (k := 0) rfl rfl rfl rfl Try.underlying70 rfl Try.sizeOf64 rfl ?_
   refine q_load_c (j := 0) rfl rfl rfl rfl Try.isAgg64 Tk (by first | rfl | exact (Nat.add_zero _).symm) (by rfl) ?_
   refine q_loadN_c rfl rfl rfl rfl Try.isAgg36 Try.sizeOf36 Tk 0 (us := [_, _, _]) (by first | rfl | exact (Nat.add_zero _).symm) rfl rfl ?_
   have sp_4 := Dj.next_spec pa pc po poc vbn x.v hx.v (by omega) pl hpl k t o hv
   refine l_call rfl rfl rfl rfl rfl rfl Try.call31 (sp_4) Ts ?_
   rintro ⟨⟩ -
   try simp only [List.cons_append, List.nil_append]
   refine ag_nil ?_
   refine hs_fold (b := b) (heF x k t o) (pa := pa) (pc := pc) (po := po) (poc := poc) (vb := vbn) (va := van) (vc := vcn) (mk := mkn) (K := (ntF x k t o).keys) Ts (by exact he_acc hv (by omega)) (by rfl) (by exact (vnn hv.1).2.2.2.symm) ?_
   refine r_done ?_
   refine s_keep [] (e' := []) rfl ?_
   refine k_then_n ?_
   refine c_seq ?_
   refine c_plain (.q 0 (.done)) (by kernel_rfl) ?_
   refine q_assign rfl rfl rfl rfl ?_
   refine r_done ?_
   refine k_then_n ?_
   refine c_ret ?_
   refine ret1 rfl rfl (()) (by rw [heE, if_pos hv]) (by trivial) ?_
   exact Tf
  ·
   refine s_eq 17 rfl (v' := .bool false) (by rw [decide_eq_false k1]) ?_
   refine c_skip ?_
   refine k_then_n ?_
   refine c_seq ?_
   refine c_plain (.q 0 (.q 1 (.done))) (by kernel_rfl) ?_
   refine q_int rfl rfl rfl rfl rfl (b_eql _ _ _ _) ?_
   refine q_assign rfl rfl rfl rfl ?_
   refine r_done ?_
   refine s_keep [0, 3, 19] (e' := [(0, _), (3, _), (19, _)]) rfl ?_
   refine k_then_n ?_
   refine c_cond_p rfl (fun k2 => ?_) (fun k2 => ?_)
   ·
    refine s_eq 19 rfl (v' := .bool true) (by rw [decide_eq_true k2]) ?_
    refine c_exit ?_
    refine k_then_exit ?_
    refine k_blk_out rfl ?_
    refine k_blk_here ?_
    refine k_then_n ?_
    refine c_seq ?_
    refine c_plain (.q 0 (.q 1 ((.l 2 [] (.done))))) (by kernel_rfl) ?_
    refine q_move rfl rfl rfl rfl ?_
    refine q_loadN_c rfl rfl rfl rfl Try.isAgg36 Try.sizeOf36 Tk 0 (us := [_, _, _]) (by first | rfl | exact (Nat.add_zero _).symm) rfl rfl ?_
    refine hs_fold (b := b) x (pa := pa) (pc := pc) (po := po) (poc := poc) (vb := vb) (va := va) (vc := vc) (mk := mk) (K := x.keys) Ts (by rfl) (by rfl) (by rfl) ?_
    have sp_5 := Hi.note_spec pa pc po poc b x hx hn k t o hv.1 (by omega)
    refine l_call rfl rfl rfl rfl rfl rfl Try.call30 (sp_5) Ts ?_
    rintro ⟨⟩ -
    try simp only [List.cons_append, List.nil_append]
    refine ag_nil ?_
    refine s_take (A := hsR pa pc po poc b (ntF x k t o)) Tk ?_
    refine hs_open fun vbn mkn van vcn => ?_
    simp only [show (ntF x k t o).v = x.v from rfl]
    refine r_done ?_
    refine s_keep [0, 3] (e' := [(0, _), (3, _)]) rfl ?_
    refine k_then_n ?_
    refine c_exit ?_
    refine k_blk_here ?_
    refine k_then_n ?_
    refine c_seq ?_
    refine c_draw rfl (.q 0 (.q 1 (.q 2 (.q 3 (.q 4 ((.l 5 [] (.done)))))))) (by kernel_rfl) ?_
    refine q_move rfl rfl rfl rfl ?_
    refine q_nil_p rfl rfl rfl rfl ?_
    refine q_field (k := 0) rfl rfl rfl rfl Try.underlying70 rfl Try.sizeOf64 rfl ?_
    refine q_load_c (j := 0) rfl rfl rfl rfl Try.isAgg64 Tk (by first | rfl | exact (Nat.add_zero _).symm) (by rfl) ?_
    refine q_loadN_c rfl rfl rfl rfl Try.isAgg36 Try.sizeOf36 Tk 0 (us := [_, _, _]) (by first | rfl | exact (Nat.add_zero _).symm) rfl rfl ?_
    have sp_6 := Dj.next_spec pa pc po poc vbn x.v hx.v (by omega) pl hpl k t o hv
    refine l_call rfl rfl rfl rfl rfl rfl Try.call31 (sp_6) Ts ?_
    rintro ⟨⟩ -
    try simp only [List.cons_append, List.nil_append]
    refine ag_nil ?_
    refine hs_fold (b := b) (heF x k t o) (pa := pa) (pc := pc) (po := po) (poc := poc) (vb := vbn) (va := van) (vc := vcn) (mk := mkn) (K := (ntF x k t o).keys) Ts (by exact he_acc hv (by omega)) (by rfl) (by exact (vnn hv.1).2.2.2.symm) ?_
    refine r_done ?_
    refine s_keep [] (e' := []) rfl ?_
    refine k_then_n ?_
    refine c_seq ?_
    refine c_plain (.q 0 (.done)) (by kernel_rfl) ?_
    refine q_assign rfl rfl rfl rfl ?_
    refine r_done ?_
    refine k_then_n ?_
    refine c_ret ?_
    refine ret1 rfl rfl (()) (by rw [heE, if_pos hv]) (by trivial) ?_
    exact Tf
   ·
    refine s_eq 19 rfl (v' := .bool false) (by rw [decide_eq_false k2]) ?_
    refine c_skip ?_
    refine k_then_n ?_
    refine c_exit ?_
    refine k_blk_out rfl ?_
    refine k_blk_out rfl ?_
    refine k_then_exit ?_
    refine k_blk_here ?_
    refine k_then_n ?_
    refine c_seq ?_
    refine c_draw rfl (.q 0 (.q 1 (.q 2 (.q 3 (.q 4 ((.l 5 [] (.done)))))))) (by kernel_rfl) ?_
    refine q_move rfl rfl rfl rfl ?_
    refine q_nil_p rfl rfl rfl rfl ?_
    refine q_field (k := 0) rfl rfl rfl rfl Try.underlying70 rfl Try.sizeOf64 rfl ?_
    refine q_load_c (j := 0) rfl rfl rfl rfl Try.isAgg64 Tk (by first | rfl | exact (Nat.add_zero _).symm) (by rfl) ?_
    refine q_loadN_c rfl rfl rfl rfl Try.isAgg36 Try.sizeOf36 Tk 0 (us := [_, _, _]) (by first | rfl | exact (Nat.add_zero _).symm) rfl rfl ?_
    have sp_7 := Dj.next_spec pa pc po poc vb x.v hx.v (by omega) pl hpl k t o hv
    refine l_call rfl rfl rfl rfl rfl rfl Try.call31 (sp_7) Ts ?_
    rintro ⟨⟩ -
    try simp only [List.cons_append, List.nil_append]
    refine ag_nil ?_
    refine hs_fold (b := b) (heF x k t o) (pa := pa) (pc := pc) (po := po) (poc := poc) (vb := vb) (va := va) (vc := vc) (mk := mk) (K := x.keys) Ts (by exact he_no hv (by omega)) (by rfl) (by exact (vnn hv.1).2.2.2.symm) ?_
    refine r_done ?_
    refine s_keep [] (e' := []) rfl ?_
    refine k_then_n ?_
    refine c_seq ?_
    refine c_plain (.q 0 (.done)) (by kernel_rfl) ?_
    refine q_assign rfl rfl rfl rfl ?_
    refine r_done ?_
    refine k_then_n ?_
    refine c_ret ?_
    refine ret1 rfl rfl (()) (by rw [heE, if_pos hv]) (by trivial) ?_
    exact Tf
theorem events_spec (pa : Option Addr) (pc : Nat) (po : Option Addr) (poc b : Nat) (x : HS) (hx : SInv x) (hn : x.v.ck.n ≤ 10000000000) (pl : List Int) (hpl : x.v.ck.pa = pl) (xs : List T3) (ao : Option Addr) (n c : Nat) (A : HProp) (hr : RdS A ao (xs.flatMap enc3)) (hxn : xs.length = n) (hb : n ≤ 4000000) : Spec Try.prog 15 [.pointer (some ⟨b, 0, none⟩), .slice ao n c] [A, hsR pa pc po poc b x, own 1 encZ pa pc pl, own 1 encZ po poc pl] (fun (i : Nat) => .tuple #[.int .i64 ((i : Nat) : Int), .int .i64 (if i = n then 0 else 6)]) (fun i => i ≤ n ∧ okH x (xs.take i) ∧ (i < n → ∀ e, xs[i]? = some e → ¬ canH (hAll x (xs.take i)) e)) (fun i => [A, hsR pa pc po poc b (hAll x (xs.take i)), own 1 encZ pa pc pl, own 1 encZ po poc pl]) := by
 refine spec_mk (n := 29) Try.func15 rfl rfl rfl ?_
 intro Γ w0
 simp only [argE, List.cons_append, List.nil_append, Nat.zero_add, Nat.reduceAdd]
 refine c_seq ?_
 refine c_plain (.q 0 (.q 1 (.done))) (by kernel_rfl) ?_
 refine q_assign rfl rfl rfl rfl ?_
 refine q_assign rfl rfl rfl rfl ?_
 refine r_done ?_
 refine k_then_n ?_
 refine c_seq ?_
 refine c_seq ?_
 refine c_plain (.q 0 ((.l 1 [] (.q 2 (.done))))) (by kernel_rfl) ?_
 refine q_move rfl rfl rfl rfl ?_
 refine s_take (A := hsR pa pc po poc b x) Tk ?_
 refine hs_open fun vb mk va vc => ?_
 have sp_1 := Hi.there_spec b vb (.int .i64 x.v.ck.th) (.slice va x.vars.length vc) (.map (some mk))
 refine l_call rfl rfl rfl rfl rfl rfl Try.call28 (sp_1) Ts ?_
 rintro ⟨⟩ -
 try simp only [List.cons_append, List.nil_append]
 refine ag_nil ?_
 refine hs_fold (b := b) x (pa := pa) (pc := pc) (po := po) (poc := poc) (vb := vb) (va := va) (vc := vc) (mk := mk) (K := x.keys) Ts (by rfl) (by rfl) (by rfl) ?_
 refine q_not rfl rfl rfl rfl ?_
 refine s_eq 11 rfl (v' := .bool false) rfl ?_
 refine r_done ?_
 refine s_keep [0, 1, 11] (e' := [(0, _), (1, _), (11, _)]) rfl ?_
 refine k_then_n ?_
 refine c_cond_f rfl ?_
 refine c_skip ?_
 refine k_then_n ?_
 refine c_seq ?_
 refine c_seq ?_
 refine c_plain (.q 0 (.q 1 (.q 2 (.done)))) (by kernel_rfl) ?_
 refine q_move rfl rfl rfl rfl ?_
 refine q_len rfl rfl rfl rfl Try.underlying26 ?_
 refine q_move rfl rfl rfl rfl ?_
 refine r_done ?_
 refine k_then_n ?_
 refine c_block ?_
 refine c_loop2 (α := Nat) (fun (i : Nat) => i ≤ n ∧ (okH x (xs.take i))) (fun (i : Nat) => [(14, .int .i64 ((i : Nat) : Int))]) (fun (i : Nat) => [hsR pa pc po poc b (hAll x (xs.take i)), own 1 encZ pa pc pl, own 1 encZ po poc pl]) (fun (i : Nat) => n - i) [0, 1, 12, 13] (er := [(0, _), (1, _), (12, _), (13, _)]) rfl (0) ?_ (by exact ⟨rfl, trivial⟩) (by (try dsimp only); (try simp only [Nat.add_zero, Nat.zero_add]); (repeat ((with_reducible apply Z2); focus (first | (with_reducible (repeat (first | exact Z0 | apply Z1)); done) | (repeat (first | exact Z0 | apply Z1))))); exact Z3) ?_
 · exact ⟨Nat.zero_le _, fun j e h => by simp at h⟩
 rintro i ⟨hle_i, ho⟩
 try simp only [List.cons_append, List.nil_append]
 obtain ⟨hdn, hdp, hdt, hdv⟩ := hAll_n (xs.take i) x
 rw [List.length_take] at hdn
 refine c_seq ?_
 refine c_plain (.q 0 (.done)) (by kernel_rfl) ?_
 refine q_int rfl rfl rfl rfl rfl (b_lss _ _ _ _) ?_
 refine r_done ?_
 refine k_then_n ?_
 refine c_seq ?_
 refine c_cond_p rfl (fun hlt => ?_) (fun hlt => ?_)
 ·
  refine c_skip ?_
  refine k_then_n ?_
  refine c_seq ?_
  refine c_block ?_
  refine c_seq ?_
  refine c_plain (.q 0 (.q 1 (.q 2 ((.l 3 [] (.q 4 ((.l 5 [] (.done))))))))) (by kernel_rfl) ?_
  refine q_move rfl rfl rfl rfl ?_
  obtain ⟨e, he⟩ := get_lt (l := xs) (i := i) (by first | omega | (simp; done) | (simp; omega))
  refine q_idxR (sz := 2) (k := i) rfl rfl rfl rfl rfl Try.underlying26 Try.sizeOf36 (hr) he enc3_len (by first | rfl | omega) (by omega) ?_
  intro ib17 io17 _ hd17
  refine q_loadN (vs := [_, _, _]) rfl rfl rfl rfl Try.isAgg36 Try.sizeOf36 Tk (hd17) rfl ?_
  refine l_alloc rfl rfl rfl Try.zeroValue36 (zs := [.int .i64 0, .int .i64 0, .int .i64 0]) rfl ?_
  intro b7
  refine ag_nil ?_
  refine q_assign rfl rfl rfl rfl ?_
  refine l_store (j := 0) rfl rfl rfl rfl Try.sizeOf36 (us := [_, _, _]) rfl rfl rfl Tk (by first | rfl | exact (Nat.add_zero _).symm) (by first | decide | (simp; done) | omega) ?_
  simp only [setL, List.set]
  refine ag_nil ?_
  refine r_done ?_
  refine s_keep [0, 1, 6, 7, 12, 13, 14] (e' := [(0, _), (1, _), (6, _), (7, _), (12, _), (13, _), (14, _)]) rfl ?_
  refine k_then_n ?_
  refine c_seq ?_
  refine c_plain (.q 0 (.q 1 ((.l 2 [] (.q 3 (.done)))))) (by kernel_rfl) ?_
  refine q_move rfl rfl rfl rfl ?_
  refine q_loadN_c rfl rfl rfl rfl Try.isAgg36 Try.sizeOf36 Tk 0 (us := [_, _, _]) (by first | rfl | exact (Nat.add_zero _).symm) rfl rfl ?_
  have sp_2 := Hi.event_spec pa pc po poc b (hAll x (xs.take i)) (hAll_inv hx _) (by omega) pl (hdp.trans hpl) e.1 e.2.1 e.2.2
  refine l_call rfl rfl rfl rfl rfl rfl Try.call11 (sp_2) Ts ?_
  rintro ⟨⟩ -
  try simp only [List.cons_append, List.nil_append]
  refine ag_nil ?_
  refine q_assign rfl rfl rfl rfl ?_
  refine r_done ?_
  refine s_keep [0, 1, 6, 8, 12, 13, 14] (e' := [(0, _), (1, _), (6, _), (8, _), (12, _), (13, _), (14, _)]) rfl ?_
  refine k_then_n ?_
  refine c_seq ?_
  refine c_plain (.q 0 (.q 1 (.done))) (by kernel_rfl) ?_
  refine q_move rfl rfl rfl rfl ?_
  refine q_int rfl rfl rfl rfl rfl (b_neq _ _ _ _) ?_
  refine r_done ?_
  refine k_then_n ?_
  refine c_cond_p rfl (fun hne => ?_) (fun hne => ?_)
  ·
   have hncan : ¬ canH (hAll x (xs.take i)) e := fun h => hne (if_pos h)
   rw [show (heF (hAll x (xs.take i)) e.1 e.2.1 e.2.2) = (hAll x (xs.take i)) from if_neg hncan]
   refine c_seq ?_
   refine c_plain (.q 0 (.q 1 (.q 2 (.q 3 (.done))))) (by kernel_rfl) ?_
   refine q_move rfl rfl rfl rfl ?_
   refine q_move rfl rfl rfl rfl ?_
   refine q_assign rfl rfl rfl rfl ?_
   refine q_assign rfl rfl rfl rfl ?_
   refine r_done ?_
   refine s_keep [4, 5] (e' := [(4, _), (5, _)]) rfl ?_
   refine k_then_n ?_
   refine c_ret ?_
   refine k_blk_ret ?_
   refine k_then_ret ?_
   refine k_then_ret ?_
   refine k_blk_ret ?_
   refine k_then_ret ?_
   refine ret2 rfl rfl rfl (i) (by rw [if_neg (by omega), show heE (hAll x (xs.take i)) e.1 e.2.1 e.2.2 = 6 from if_neg hncan]) (by exact ⟨by omega, ho, fun _ e2 h2 => by rw [he] at h2; cases h2; exact hncan⟩) ?_
   exact Tf
  ·
   have hcan : canH (hAll x (xs.take i)) e := Classical.byContradiction fun h => hne (by rw [show heE (hAll x (xs.take i)) e.1 e.2.1 e.2.2 = 6 from if_neg h]; decide)
   refine c_skip ?_
   refine k_blk_n ?_
   refine k_then_n ?_
   refine c_plain (.q 0 (.q 1 (.done))) (by kernel_rfl) ?_
   refine q_int rfl rfl rfl rfl rfl (b_add' _ (by exact fits_i64 (by omega) (by omega))) ?_
   refine q_move rfl rfl rfl rfl ?_
   refine r_done ?_
   refine s_keep [0, 1, 12, 13, 14] (e' := [(0, _), (1, _), (12, _), (13, _), (14, _)]) rfl ?_
   refine k_then_n ?_
   rw [show (heF (hAll x (xs.take i)) e.1 e.2.1 e.2.2) = hAll x (xs.take (i + 1)) from (hAll_next he).symm]
   refine loop_next (x := i) (i + 1) ?_ ?_ ?_ ?_
   · exact ⟨by omega, okH_next he ho hcan⟩
   · show n - (i + 1) < n - i; omega
   · exact ⟨rfl, rfl, rfl, rfl, rfl, trivial⟩
   · (try simp only [List.cons_append, List.nil_append]); exact Tf
 ·
  refine c_exit ?_
  refine k_then_exit ?_
  refine k_then_exit ?_
  refine k_blk_here ?_
  refine k_then_n ?_
  refine c_seq ?_
  refine c_plain (.q 0 (.q 1 (.q 2 (.q 3 (.done))))) (by kernel_rfl) ?_
  refine q_move rfl rfl rfl rfl ?_
  refine q_len rfl rfl rfl rfl Try.underlying26 ?_
  refine q_assign rfl rfl rfl rfl ?_
  refine q_assign rfl rfl rfl rfl ?_
  refine r_done ?_
  refine s_keep [4, 5] (e' := [(4, _), (5, _)]) rfl ?_
  refine k_then_n ?_
  refine c_ret ?_
  obtain rfl : i = n := by omega
  refine ret2 rfl rfl rfl (i) (by rw [if_pos rfl]) (by exact ⟨Nat.le_refl _, ho, fun h => absurd h (Nat.lt_irrefl _)⟩) ?_
  exact Tf
theorem len_spec (pa : Option Addr) (pc : Nat) (po : Option Addr) (poc b : Nat) (x : HS) (hx : SInv x) : Spec Try.prog 17 [.pointer (some ⟨b, 0, none⟩)] [hsR pa pc po poc b x] (fun (_ : Unit) => .int .i64 x.v.ck.n) (fun _ => True) (fun _ => [hsR pa pc po poc b x]) := by
 refine spec_mk (n := 14) Try.func17 rfl rfl rfl ?_
 intro Γ w0
 simp only [argE, List.cons_append, List.nil_append, Nat.zero_add, Nat.reduceAdd]
 refine c_seq ?_
 refine c_plain (.q 0 (.done)) (by kernel_rfl) ?_
 refine q_assign rfl rfl rfl rfl ?_
 refine r_done ?_
 refine k_then_n ?_
 refine c_seq ?_
 refine c_seq ?_
 refine s_take (A := hsR pa pc po poc b x) Tk ?_
 refine hs_open fun vb mk va vc => ?_
 refine c_plain (.q 0 ((.l 1 [] (.q 2 (.done))))) (by kernel_rfl) ?_
 refine q_move rfl rfl rfl rfl ?_
 have sp_1 := Hi.there_spec b vb (.int .i64 x.v.ck.th) (.slice va x.vars.length vc) (.map (some mk))
 refine l_call rfl rfl rfl rfl rfl rfl Try.call28 (sp_1) Ts ?_
 rintro ⟨⟩ -
 try simp only [List.cons_append, List.nil_append]
 refine ag_nil ?_
 refine q_not rfl rfl rfl rfl ?_
 refine s_eq 5 rfl (v' := .bool false) rfl ?_
 refine r_done ?_
 refine k_then_n ?_
 refine c_cond_f rfl ?_
 refine c_skip ?_
 refine k_then_n ?_
 refine c_seq ?_
 refine s_take (A := vsR pa pc po poc vb x.v) Tk ?_
 refine vs_open fun cb m1 m2 m3 m4 F1 F2 F3 F4 => ?_
 refine c_plain (.q 0 (.q 1 (.q 2 (.q 3 (.q 4 (.q 5 (.q 6 ((.l 7 [] (.q 8 (.done))))))))))) (by kernel_rfl) ?_
 refine q_move rfl rfl rfl rfl ?_
 refine q_nil_p rfl rfl rfl rfl ?_
 refine q_field (k := 0) rfl rfl rfl rfl Try.underlying70 rfl Try.sizeOf64 rfl ?_
 refine q_load_c (j := 0) rfl rfl rfl rfl Try.isAgg64 Tk (by first | rfl | exact (Nat.add_zero _).symm) (by rfl) ?_
 refine q_nil_p rfl rfl rfl rfl ?_
 refine q_field (k := 0) rfl rfl rfl rfl Try.underlying80 rfl Try.sizeOf76 rfl ?_
 refine q_load_c (j := 0) rfl rfl rfl rfl Try.isAgg76 Tk (by first | rfl | exact (Nat.add_zero _).symm) (by rfl) ?_
 have sp_2 := Fe.len_spec pa pc cb x.v.ck
 refine l_call rfl rfl rfl rfl rfl rfl Try.call43 (sp_2) Ts ?_
 rintro ⟨⟩ -
 try simp only [List.cons_append, List.nil_append]
 refine ag_nil ?_
 refine q_assign rfl rfl rfl rfl ?_
 refine r_done ?_
 refine s_keep [2] (e' := [(2, _)]) rfl ?_
 refine k_then_n ?_
 refine c_ret ?_
 refine vs_fold (b := vb) x.v (pa := pa) (pc := pc) (po := po) (poc := poc) (cb := cb) (m1 := m1) (m2 := m2) (m3 := m3) (m4 := m4) Ts (by rfl) (by rfl) ?_
 refine hs_fold (b := b) x (pa := pa) (pc := pc) (po := po) (poc := poc) (vb := vb) (va := va) (vc := vc) (mk := mk) (K := x.keys) Ts (by rfl) (by rfl) (by rfl) ?_
 refine ret1 rfl rfl (()) (by first | rfl | (first | rfl | (congr 1; done) | (congr 1 <;> first | rfl | omega | (simp; done) | (simp; omega)))) (by trivial) ?_
 exact Tf
theorem againstq_spec (pa : Option Addr) (pc : Nat) (po : Option Addr) (poc b : Nat) (x : HS) (hx : SInv x) (hn : x.v.ck.n ≤ 100000000000) (k t o : Int) : Spec Try.prog 13 [.pointer (some ⟨b, 0, none⟩), .agg #[.int .i64 k, .int .i64 t, .int .i64 o]] [hsR pa pc po poc b x] (fun (r : Option Addr × Nat) => .tuple #[.slice r.1 (if canF x.v.ck k t o then agF x k t o else []).length r.2, .int .i64 (if canF x.v.ck k t o then 0 else 6)]) (fun r => True) (fun r => [hsR pa pc po poc b x, own 1 encZ r.1 r.2 (if canF x.v.ck k t o then agF x k t o else [])]) := by
 refine spec_mk (n := 22) Try.func13 rfl rfl rfl ?_
 intro Γ w0
 simp only [argE, List.cons_append, List.nil_append, Nat.zero_add, Nat.reduceAdd]
 refine c_seq ?_
 refine c_plain ((.l 0 [] (.q 1 (.q 2 (.done))))) (by kernel_rfl) ?_
 refine l_box rfl rfl rfl rfl (us := [_, _, _]) rfl ?_
 intro b3
 refine ag_nil ?_
 refine q_assign rfl rfl rfl rfl ?_
 refine q_assign rfl rfl rfl rfl ?_
 refine r_done ?_
 refine k_then_n ?_
 refine c_seq ?_
 refine c_seq ?_
 refine s_take (A := hsR pa pc po poc b x) Tk ?_
 refine hs_open fun vb mk va vc => ?_
 refine s_take (A := vsR pa pc po poc vb x.v) Tk ?_
 refine vs_open fun cb m1 m2 m3 m4 F1 F2 F3 F4 => ?_
 refine c_plain (.q 0 ((.l 1 [] (.q 2 (.done))))) (by kernel_rfl) ?_
 refine q_move rfl rfl rfl rfl ?_
 have sp_1 := Hi.there_spec b vb (.int .i64 x.v.ck.th) (.slice va x.vars.length vc) (.map (some mk))
 refine l_call rfl rfl rfl rfl rfl rfl Try.call28 (sp_1) Ts ?_
 rintro ⟨⟩ -
 try simp only [List.cons_append, List.nil_append]
 refine ag_nil ?_
 refine q_not rfl rfl rfl rfl ?_
 refine s_eq 8 rfl (v' := .bool false) rfl ?_
 refine r_done ?_
 refine s_keep [0, 3, 8] (e' := [(0, _), (3, _), (8, _)]) rfl ?_
 refine k_then_n ?_
 refine c_cond_f rfl ?_
 refine c_skip ?_
 refine k_then_n ?_
 refine c_seq ?_
 refine c_seq ?_
 refine c_draw rfl (.q 0 (.q 1 (.q 2 (.q 3 (.q 4 (.q 5 (.q 6 (.q 7 ((.l 8 [] (.q 9 (.done)))))))))))) (by kernel_rfl) ?_
 refine q_move rfl rfl rfl rfl ?_
 refine q_nil_p rfl rfl rfl rfl ?_
 refine q_field (k := 0) rfl rfl rfl rfl Try.underlying70 rfl Try.sizeOf64 rfl ?_
 refine q_load_c (j := 0) rfl rfl rfl rfl Try.isAgg64 Tk (by first | rfl | exact (Nat.add_zero _).symm) (by rfl) ?_
 refine q_nil_p rfl rfl rfl rfl ?_
 refine q_field (k := 0) rfl rfl rfl rfl Try.underlying80 rfl Try.sizeOf76 rfl ?_
 refine q_load_c (j := 0) rfl rfl rfl rfl Try.isAgg76 Tk (by first | rfl | exact (Nat.add_zero _).symm) (by rfl) ?_
 refine q_loadN_c rfl rfl rfl rfl Try.isAgg36 Try.sizeOf36 Tk 0 (us := [_, _, _]) (by first | rfl | exact (Nat.add_zero _).symm) rfl rfl ?_
 have sp_2 := Fe.can_spec pa pc cb x.v.ck hx.v.ck k t o
 refine l_call rfl rfl rfl rfl rfl rfl Try.call34 (sp_2) Ts ?_
 rintro ⟨⟩ -
 try simp only [List.cons_append, List.nil_append]
 refine ag_nil ?_
 refine q_not rfl rfl rfl rfl ?_
 refine r_done ?_
 refine s_keep [0, 3, 18] (e' := [(0, _), (3, _), (18, _)]) rfl ?_
 refine k_then_n ?_
 refine c_cond_np rfl (fun hc => ?_) (fun hc => ?_)
 ·
  refine c_seq ?_
  refine c_plain (.q 0 (.q 1 (.done))) (by kernel_rfl) ?_
  refine q_assign rfl rfl rfl rfl ?_
  refine q_assign rfl rfl rfl rfl ?_
  refine r_done ?_
  refine k_then_n ?_
  refine c_ret ?_
  refine k_then_ret ?_
  refine s_heap (fun _ h => own_nil (sz := 1) (enc := encZ) h) ?_
  refine vs_fold (b := vb) x.v (pa := pa) (pc := pc) (po := po) (poc := poc) (cb := cb) (m1 := m1) (m2 := m2) (m3 := m3) (m4 := m4) Ts (by rfl) (by rfl) ?_
  refine hs_fold (b := b) x (pa := pa) (pc := pc) (po := po) (poc := poc) (vb := vb) (va := va) (vc := vc) (mk := mk) (K := x.keys) Ts (by rfl) (by rfl) (by rfl) ?_
  rw [if_neg hc, if_neg hc]
  refine ret2 rfl rfl rfl ((none, 0)) (by rfl) (by trivial) ?_
  exact Tf
 ·
  obtain ⟨l, hth⟩ := th_some hx.v (can_th hc)
  obtain ⟨h0, h1⟩ := th_rng hx.v (can_th hc)
  have hlc := hx.v.thc _ _ hth
  have hkn := hx.kn
  have hlen := hx.len
  have hn0 := hx.v.ck.n0
  have hlg := g_rng hlc.rng (by decide) t.toNat
  have hmx : maxC = 281474976710655 := rfl
  have hagl := agF_len x k t o
  refine c_skip ?_
  refine k_then_n ?_
  refine c_seq ?_
  refine s_rest_take (F := F1) (T := x.v.th) (S := []) t Tk (by simp) hth fun tv htF => ?_
  refine s_vec Tk fun tb ta tc hta => ?_
  subst hta
  refine c_plain (.q 0 (.q 1 ((.l 2 [] (.q 3 (.q 4 (.done))))))) (by kernel_rfl) ?_
  refine q_move rfl rfl rfl rfl ?_
  refine q_loadN_c rfl rfl rfl rfl Try.isAgg36 Try.sizeOf36 Tk 0 (us := [_, _, _]) (by first | rfl | exact (Nat.add_zero _).symm) rfl rfl ?_
  have sp_3 := Hi.against_spec b vb mk m1 tb (.int .i64 x.v.ck.th) (.slice va x.vars.length vc) (.pointer (some ⟨cb, 0, none⟩)) (.slice po x.v.ck.pa.length poc) (.map (some m2)) (.map (some m3)) (.map (some m4)) x.kept F1  ta tc l x.keys k t o htF hx.nd hx.ks hx.kt (by omega)
  refine l_call rfl rfl rfl rfl rfl rfl Try.call35 (sp_3) Ts ?_
  rintro ⟨ga, gc⟩ -
  rw [show (if k = 1 ∨ k = 2 then isort (x.keys.flatMap (agK x.kept k t o l)) else []) = agF x k t o from by unfold agF; rw [thF_eq hth]]
  try simp only [List.cons_append, List.nil_append]
  refine ag_nil ?_
  refine q_assign rfl rfl rfl rfl ?_
  refine q_assign rfl rfl rfl rfl ?_
  refine r_done ?_
  refine s_keep [4, 5] (e' := [(4, _), (5, _)]) rfl ?_
  refine k_then_n ?_
  refine c_ret ?_
  refine s_vecF tb ta tc l Ts ?_
  refine s_rest_put (F := F1) (T := x.v.th) (S := []) t F1 x.v.th Ts (by simp) htF (fun _ _ _ => rfl) hth (fun _ _ _ => rfl) ?_
  refine vs_fold (b := vb) x.v (pa := pa) (pc := pc) (po := po) (poc := poc) (cb := cb) (m1 := m1) (m2 := m2) (m3 := m3) (m4 := m4) Ts (by rfl) (by rfl) ?_
  refine hs_fold (b := b) x (pa := pa) (pc := pc) (po := po) (poc := poc) (vb := vb) (va := va) (vc := vc) (mk := mk) (K := x.keys) Ts (by rfl) (by rfl) (by rfl) ?_
  rw [if_pos hc, if_pos hc]
  refine ret2 rfl rfl rfl ((ga, gc)) (by rfl) (by trivial) ?_
  exact Tf
theorem pairs_spec (pa : Option Addr) (pc : Nat) (po : Option Addr) (poc b : Nat) (x : HS) (hx : SInv x) : Spec Try.prog 26 [.pointer (some ⟨b, 0, none⟩)] [hsR pa pc po poc b x] (fun (r : Option Addr × Nat) => .slice r.1 (prF x.vars).length r.2) (fun r => True) (fun r => [hsR pa pc po poc b x, own 3 enc3 r.1 r.2 (prF x.vars)]) := by
 refine spec_mk (n := 26) Try.func26 rfl rfl rfl ?_
 intro Γ w0
 simp only [argE, List.cons_append, List.nil_append, Nat.zero_add, Nat.reduceAdd]
 have hva := hx.v.ck.sh.va
 have hvl := hx.len
 refine c_seq ?_
 refine c_plain (.q 0 (.done)) (by kernel_rfl) ?_
 refine q_assign rfl rfl rfl rfl ?_
 refine r_done ?_
 refine k_then_n ?_
 refine c_seq ?_
 refine c_plain (.q 0 (.done)) (by kernel_rfl) ?_
 refine q_assign rfl rfl rfl rfl ?_
 refine r_done ?_
 refine k_then_n ?_
 refine c_seq ?_
 refine c_seq ?_
 refine s_take (A := hsR pa pc po poc b x) Tk ?_
 refine hs_open fun vb mk va vc => ?_
 refine c_plain (.q 0 ((.l 1 [] (.done)))) (by kernel_rfl) ?_
 refine q_move rfl rfl rfl rfl ?_
 have sp_1 := Hi.there_spec b vb (.int .i64 x.v.ck.th) (.slice va x.vars.length vc) (.map (some mk))
 refine l_call rfl rfl rfl rfl rfl rfl Try.call28 (sp_1) Ts ?_
 rintro ⟨⟩ -
 try simp only [List.cons_append, List.nil_append]
 refine ag_nil ?_
 refine r_done ?_
 refine k_then_n ?_
 refine c_cond_t rfl ?_
 refine c_seq ?_
 refine c_plain (.q 0 (.q 1 (.q 2 (.q 3 (.q 4 (.q 5 (.done))))))) (by kernel_rfl) ?_
 refine q_move rfl rfl rfl rfl ?_
 refine q_nil_p rfl rfl rfl rfl ?_
 refine q_field (k := 2) rfl rfl rfl rfl Try.underlying70 rfl Try.sizeOf67 rfl ?_
 refine q_load_c (j := 2) rfl rfl rfl rfl Try.isAgg67 Tk (by first | rfl | exact (Nat.add_zero _).symm) (by rfl) ?_
 refine q_len rfl rfl rfl rfl Try.underlying67 ?_
 refine q_move rfl rfl rfl rfl ?_
 refine r_done ?_
 refine s_keep [3, 11, 12, 13] (e' := [(3, _), (11, _), (12, _), (13, _)]) rfl ?_
 refine k_then_n ?_
 refine c_block ?_
 refine s_heap (fun _ h => own_nil (sz := 3) (enc := enc3) h) ?_
 refine c_loop2 (α := Nat × Option Addr × Nat) (fun (x_ : Nat × Option Addr × Nat) => match x_ with | (i, ga, gc) => i ≤ x.vars.length) (fun (x_ : Nat × Option Addr × Nat) => match x_ with | (i, ga, gc) => [(3, .slice ga ((prF (x.vars.take i)).length) gc), (13, .int .i64 ((i : Nat) : Int))]) (fun (x_ : Nat × Option Addr × Nat) => match x_ with | (i, ga, gc) => [own 3 enc3 ga gc (prF (x.vars.take i))]) (fun (x_ : Nat × Option Addr × Nat) => match x_ with | (i, ga, gc) => x.vars.length - i) [11, 12] (er := [(11, _), (12, _)]) rfl (0, none, 0) ?_ (by exact ⟨rfl, rfl, trivial⟩) (by (try dsimp only); (try simp only [Nat.add_zero, Nat.zero_add]); rw [List.take_zero, show prF ([] : List Tld) = [] from rfl]; (repeat ((with_reducible apply Z2); focus (first | (with_reducible (repeat (first | exact Z0 | apply Z1)); done) | (repeat (first | exact Z0 | apply Z1))))); exact Z3) ?_
 · exact Nat.zero_le _
 rintro ⟨i, ga, gc⟩ hle_i
 try simp only [List.cons_append, List.nil_append]
 have hfl := prF_len (x.vars.take i)
 rw [List.length_take] at hfl
 refine c_seq ?_
 refine c_plain (.q 0 (.done)) (by kernel_rfl) ?_
 refine q_int rfl rfl rfl rfl rfl (b_lss _ _ _ _) ?_
 refine r_done ?_
 refine k_then_n ?_
 refine c_seq ?_
 refine c_cond_p rfl (fun hlt => ?_) (fun hlt => ?_)
 ·
  obtain ⟨w, hw⟩ := get_lt (l := x.vars) (i := i) (by omega)
  refine c_skip ?_
  refine k_then_n ?_
  refine c_seq ?_
  refine c_block ?_
  refine c_seq ?_
  refine c_plain (.q 0 (.q 1 ((.l 2 [] ((.l 3 [] (.done))))))) (by kernel_rfl) ?_
  refine q_idxO (sz := 10) (k := i) (enc := encD) (xs := x.vars) rfl rfl rfl rfl rfl Try.underlying67 Try.sizeOf102 hw (by first | rfl | omega) (by omega) Tk ?_
  intro ib15 io15 ha15 hl15 hc15
  refine q_loadN_O (j := 0) (k' := i) (us := [_, _, _, _, _, _, _, _, _, _, _]) (enc := encD) (off := io15) rfl rfl rfl rfl Try.isAgg102 Try.sizeOf102 ha15 encD_len hw Tk (by first | rfl | exact (Nat.add_zero _).symm | omega) (by rfl) rfl ?_
  refine l_alloc rfl rfl rfl Try.zeroValue102 (zs := [.int .i64 0, .int .i64 0, .int .i64 0, .int .i64 0, .int .i64 0, .int .i64 0, .bool false, .int .i64 0, .int .i64 0, .int .i64 0, .int .i64 0]) rfl ?_
  intro b5
  refine ag_nil ?_
  refine l_store (j := 0) rfl rfl rfl rfl Try.sizeOf102 (us := [_, _, _, _, _, _, _, _, _, _, _]) rfl rfl rfl Tk (by first | rfl | exact (Nat.add_zero _).symm) (by first | decide | (simp; done) | omega) ?_
  simp only [setL, List.set]
  refine ag_nil ?_
  refine r_done ?_
  refine k_then_n ?_
  refine c_seq ?_
  refine c_plain (.q 0 (.q 1 (.done))) (by kernel_rfl) ?_
  refine q_field (k := 6) rfl rfl rfl rfl Try.underlying102 rfl Try.sizeOf4 rfl ?_
  refine q_load_c (j := 6) rfl rfl rfl rfl Try.isAgg4 Tk (by first | rfl | exact (Nat.add_zero _).symm) (by rfl) ?_
  refine r_done ?_
  refine s_keep [3, 5, 11, 12, 13, 18] (e' := [(3, _), (5, _), (11, _), (12, _), (13, _), (18, _)]) rfl ?_
  refine k_then_n ?_
  refine c_cond rfl (fun hfg => ?_) (fun hfg => ?_)
  ·
   try simp only [Bool.and_eq_true, Bool.or_eq_true, Bool.not_eq_true', Bool.not_eq_false', Bool.and_eq_false_iff, Bool.or_eq_false_iff, decide_eq_true_eq, decide_eq_false_iff_not] at hfg
   refine c_plain (.q 0 (.q 1 (.q 2 ((.l 3 [] ((.l 4 [] (.q 5 (.done))))))))) (by kernel_rfl) ?_
   refine q_move rfl rfl rfl rfl ?_
   refine q_field (k := 0) rfl rfl rfl rfl Try.underlying102 rfl Try.sizeOf56 rfl ?_
   refine q_loadN_c rfl rfl rfl rfl Try.isAgg56 Try.sizeOf56 Tk 0 (us := [_, _, _]) (by first | rfl | exact (Nat.add_zero _).symm) rfl rfl ?_
   refine l_buildSlice rfl rfl rfl rfl (run_build1 (us := [_, _, _]) Try.underlying60 Try.sizeOf56 rfl Try.zeroValue56 rfl rfl rfl) ?_
   intro b22
   refine ag_nil ?_
   refine l_append (sz := 3) (enc := enc3) (xs := (prF (x.vars.take i))) rfl rfl rfl rfl rfl Try.underlying60 Try.typeInfo56 rfl rfl rfl (by decide) Tk Tk (by first | rfl | omega | (simp; done) | (simp; omega)) (ys := [(w.1.1, w.1.2.1, w.1.2.2)]) (rds_some rdn_cells) (by rfl) (by first | rfl | omega) (enc3_len) (enc3_one) (by omega) (by show _ * 24 ≤ _; omega) ?_
   intro ao23 cp23
   refine ag_nil ?_
   refine q_assign rfl rfl rfl rfl ?_
   refine r_done ?_
   refine s_keep [3, 11, 12, 13] (e' := [(3, _), (11, _), (12, _), (13, _)]) rfl ?_
   refine k_blk_n ?_
   refine k_then_n ?_
   refine c_plain (.q 0 (.q 1 (.done))) (by kernel_rfl) ?_
   refine q_int rfl rfl rfl rfl rfl (b_add' _ (by exact fits_i64 (by omega) (by omega))) ?_
   refine q_move rfl rfl rfl rfl ?_
   refine r_done ?_
   refine k_then_n ?_
   have hnx := prF_next hw
   rw [if_pos (by simpa using hfg)] at hnx
   rw [show prF (x.vars.take i) ++ [(w.1.1, w.1.2.1, w.1.2.2)] = prF (x.vars.take (i + 1)) from hnx.symm]
   refine s_eq 3 rfl (v' := .slice ao23 (prF (x.vars.take (i + 1))).length cp23) (by rw [hnx, List.length_append]; rfl) ?_
   refine s_eq 3 rfl (v' := .slice ao23 ((prF (x.vars.take (i + 1))).length) cp23) (by first | rfl | (congr 1; done) | (congr 1 <;> first | rfl | omega | (simp; done) | (simp; omega))) ?_
   refine loop_next (x := (i, ga, gc)) ((i + 1, ao23, cp23)) ?_ ?_ ?_ ?_
   · try dsimp only
     omega
   · show x.vars.length - (i + 1) < x.vars.length - i; omega
   · exact ⟨rfl, rfl, rfl, rfl, trivial⟩
   · (try simp only [List.cons_append, List.nil_append]); exact Tf
  ·
   try simp only [Bool.and_eq_true, Bool.or_eq_true, Bool.not_eq_true', Bool.not_eq_false', Bool.and_eq_false_iff, Bool.or_eq_false_iff, decide_eq_true_eq, decide_eq_false_iff_not] at hfg
   refine c_skip ?_
   refine k_blk_n ?_
   refine k_then_n ?_
   refine c_plain (.q 0 (.q 1 (.done))) (by kernel_rfl) ?_
   refine q_int rfl rfl rfl rfl rfl (b_add' _ (by exact fits_i64 (by omega) (by omega))) ?_
   refine q_move rfl rfl rfl rfl ?_
   refine r_done ?_
   refine k_then_n ?_
   have hnx := prF_next hw
   rw [if_neg (by simpa using hfg), List.append_nil] at hnx
   rw [← hnx]
   refine s_eq 3 rfl (v' := .slice ga ((prF (x.vars.take (i + 1))).length) gc) (by first | rfl | (congr 1; done) | (congr 1 <;> first | rfl | omega | (simp; done) | (simp; omega))) ?_
   refine loop_next (x := (i, ga, gc)) ((i + 1, ga, gc)) ?_ ?_ ?_ ?_
   · try dsimp only
     omega
   · show x.vars.length - (i + 1) < x.vars.length - i; omega
   · exact ⟨rfl, rfl, rfl, rfl, trivial⟩
   · (try simp only [List.cons_append, List.nil_append]); exact Tf
 ·
  refine c_exit ?_
  refine k_then_exit ?_
  refine k_then_exit ?_
  refine k_blk_here ?_
  refine k_then_n ?_
  refine c_seq ?_
  refine c_plain (.q 0 (.q 1 (.done))) (by kernel_rfl) ?_
  refine q_move rfl rfl rfl rfl ?_
  refine q_assign rfl rfl rfl rfl ?_
  refine r_done ?_
  refine s_keep [2] (e' := [(2, _)]) rfl ?_
  refine k_then_n ?_
  refine c_ret ?_
  obtain rfl : i = x.vars.length := by omega
  rw [List.take_length]
  refine hs_fold (b := b) x (pa := pa) (pc := pc) (po := po) (poc := poc) (vb := vb) (va := va) (vc := vc) (mk := mk) (K := x.keys) Ts (by rfl) (by rfl) (by rfl) ?_
  refine ret1 rfl rfl ((ga, gc)) (by first | rfl | (first | rfl | (congr 1; done) | (congr 1 <;> first | rfl | omega | (simp; done) | (simp; omega)))) (by trivial) ?_
  exact Tf
end Go.Ab.Hi
set_option linter.unusedVariables false
set_option linter.unusedSimpArgs false
set_option maxRecDepth 100000
namespace Go.Ab.Hi
open Go Go.Proofs Go.Ab Go.Ab.Fe Go.Ab.Vc Go.Ab.Dj Go.Ab.So
def wk0 : HS := hNew 2 1 0 0 []
def wek : List T3 := [(7, 0, 1), (2, 0, 0), (2, 0, 0), (1, 1, 0)]
def wk4 : HS := hAll wk0 wek
theorem okw : OkS 2 1 0 0 [] := okS_iff.2 (by decide)
theorem wk0_inv : SInv wk0 := new_sinv okw
theorem wk4_inv : SInv wk4 := hAll_inv wk0_inv _
theorem wek_can : canH (hAll wk0 (wek.take 0)) (7, 0, 1) ∧ canH (hAll wk0 (wek.take 1)) (2, 0, 0) ∧ canH (hAll wk0 (wek.take 2)) (2, 0, 0) ∧ canH (hAll wk0 (wek.take 3)) (1, 1, 0) := by decide +kernel
theorem wek_four : ∀ i : Nat, i ≤ 4 → (i < 4 → ∀ e, wek[i]? = some e → ¬ canH (hAll wk0 (wek.take i)) e) → i = 4 := by
  intro i h1 h2
  obtain ⟨c0, c1, c2, c3⟩ := wek_can
  rcases (show i = 0 ∨ i = 1 ∨ i = 2 ∨ i = 3 ∨ i = 4 by omega) with rfl | rfl | rfl | rfl | rfl
  · exact absurd c0 (h2 (by decide) _ rfl)
  · exact absurd c1 (h2 (by decide) _ rfl)
  · exact absurd c2 (h2 (by decide) _ rfl)
  · exact absurd c3 (h2 (by decide) _ rfl)
  · rfl
theorem wk4_ag : (if canF wk4.v.ck 2 1 0 then agF wk4 2 1 0 else []) = [2] := by decide +kernel
theorem wk4_ac : (if canF wk4.v.ck 2 1 0 then (0 : Int) else 6) = 0 := by decide +kernel
theorem wk4_pr : prF wk4.vars = [(0, 2, 3)] := by decide +kernel
theorem wk4_no : heE wk4 1 0 1 = 6 := by decide +kernel
theorem num_spec (e : Int) : Spec Try.prog 10 [.int .i64 e] [] (fun (_ : Unit) => .int .i64 e) (fun _ => True) (fun _ => []) := by
 refine spec_mk (n := 4) Try.func10 rfl rfl rfl ?_
 intro Γ w0
 simp only [argE, List.cons_append, List.nil_append, Nat.zero_add, Nat.reduceAdd]
 refine c_seq ?_
 refine c_plain (.q 0 (.done)) (by kernel_rfl) ?_
 refine q_assign rfl rfl rfl rfl ?_
 refine r_done ?_
 refine k_then_n ?_
 refine c_seq ?_
 refine c_plain (.q 0 (.q 1 (.done))) (by kernel_rfl) ?_
 refine q_move rfl rfl rfl rfl ?_
 refine q_assign rfl rfl rfl rfl ?_
 refine r_done ?_
 refine k_then_n ?_
 refine c_ret ?_
 refine ret1 rfl rfl (()) (by first | rfl | (first | rfl | (congr 1; done) | (congr 1 <;> first | rfl | omega | (simp; done) | (simp; omega)))) (by trivial) ?_
 exact Tf
theorem ints_same (xs ys : List Int) (ao bo : Option Addr) (n m c d : Nat) (A : HProp) (hn : xs.length = n) (hr : RdS A ao (xs.flatMap encZ)) (hm : ys.length = m) (hr2 : RdS A bo (ys.flatMap encZ)) (hb : n ≤ 4000000000000) : Spec Try.prog 16 [.slice ao n c, .slice bo m d] [A] (fun (_ : Unit) => .bool (decide (xs = ys))) (fun _ => True) (fun _ => [A]) := by
 refine spec_mk (n := 26) Try.func16 rfl rfl rfl ?_
 intro Γ w0
 simp only [argE, List.cons_append, List.nil_append, Nat.zero_add, Nat.reduceAdd]
 refine c_seq ?_
 refine c_plain (.q 0 (.done)) (by kernel_rfl) ?_
 refine q_assign rfl rfl rfl rfl ?_
 refine r_done ?_
 refine k_then_n ?_
 refine c_seq ?_
 refine c_seq ?_
 refine c_plain (.q 0 (.q 1 (.q 2 (.q 3 (.q 4 (.done)))))) (by kernel_rfl) ?_
 refine q_move rfl rfl rfl rfl ?_
 refine q_len rfl rfl rfl rfl Try.underlying23 ?_
 refine q_move rfl rfl rfl rfl ?_
 refine q_len rfl rfl rfl rfl Try.underlying23 ?_
 refine q_int rfl rfl rfl rfl rfl (b_neq _ _ _ _) ?_
 refine r_done ?_
 refine s_keep [0, 1, 10] (e' := [(0, _), (1, _), (10, _)]) rfl ?_
 refine k_then_n ?_
 refine c_cond_p rfl (fun hne => ?_) (fun hne => ?_)
 ·
  refine c_seq ?_
  refine c_plain (.q 0 (.done)) (by kernel_rfl) ?_
  refine q_assign rfl rfl rfl rfl ?_
  refine r_done ?_
  refine k_then_n ?_
  refine c_ret ?_
  refine k_then_ret ?_
  refine ret1 rfl rfl (()) (by congr 1; symm; simp only [decide_eq_false_iff_not]; intro e; rw [e] at hn; omega) (by trivial) ?_
  exact Tf
 ·
  refine c_skip ?_
  refine k_then_n ?_
  refine c_seq ?_
  refine c_seq ?_
  refine c_plain (.q 0 (.done)) (by kernel_rfl) ?_
  refine q_assign rfl rfl rfl rfl ?_
  refine r_done ?_
  refine k_then_n ?_
  refine c_block ?_
  have hnm : n = m := by omega
  subst hnm
  refine c_loop2 (α := Nat) (fun (i : Nat) => i ≤ n ∧ (xs.take i = ys.take i)) (fun (i : Nat) => [(5, .int .i64 ((i : Nat) : Int))]) (fun (i : Nat) => []) (fun (i : Nat) => n - i) [0, 1] (er := [(0, _), (1, _)]) rfl (0) ?_ (by exact ⟨rfl, trivial⟩) (by (try dsimp only); (try simp only [Nat.add_zero, Nat.zero_add]); (repeat ((with_reducible apply Z2); focus (first | (with_reducible (repeat (first | exact Z0 | apply Z1)); done) | (repeat (first | exact Z0 | apply Z1))))); exact Z3) ?_
  · exact ⟨Nat.zero_le _, rfl⟩
  rintro i ⟨hle_i, ht⟩
  try simp only [List.cons_append, List.nil_append]
  refine c_seq ?_
  refine c_seq ?_
  refine c_plain (.q 0 (.q 1 (.q 2 (.q 3 (.done))))) (by kernel_rfl) ?_
  refine q_move rfl rfl rfl rfl ?_
  refine q_move rfl rfl rfl rfl ?_
  refine q_len rfl rfl rfl rfl Try.underlying23 ?_
  refine q_int rfl rfl rfl rfl rfl (b_lss _ _ _ _) ?_
  refine r_done ?_
  refine k_then_n ?_
  refine c_cond_p rfl (fun hlt => ?_) (fun hlt => ?_)
  ·
   refine c_skip ?_
   refine k_then_n ?_
   refine c_seq ?_
   refine c_block ?_
   refine c_seq ?_
   refine c_draw rfl (.q 0 (.q 1 (.q 2 (.q 3 (.q 4 (.q 5 (.q 6 (.q 7 (.q 8 (.done)))))))))) (by kernel_rfl) ?_
   refine q_move rfl rfl rfl rfl ?_
   refine q_move rfl rfl rfl rfl ?_
   obtain ⟨x, hx⟩ := get_lt (l := xs) (i := i) (by first | omega | (simp; done) | (simp; omega))
   refine q_idxR (sz := 0) (k := i) rfl rfl rfl rfl rfl Try.underlying23 Try.sizeOf3 (hr) hx encZ_len (by first | rfl | omega) (by omega) ?_
   intro ib19 io19 _ hd19
   refine q_load rfl rfl rfl rfl Try.isAgg3 Tk (hd19 0 (.int .i64 x) rfl) ?_
   refine q_move rfl rfl rfl rfl ?_
   refine q_move rfl rfl rfl rfl ?_
   obtain ⟨y, hy⟩ := get_lt (l := ys) (i := i) (by first | omega | (simp; done) | (simp; omega))
   refine q_idxR (sz := 0) (k := i) rfl rfl rfl rfl rfl Try.underlying23 Try.sizeOf3 (hr2) hy encZ_len (by first | rfl | omega) (by omega) ?_
   intro ib23 io23 _ hd23
   refine q_load rfl rfl rfl rfl Try.isAgg3 Tk (hd23 0 (.int .i64 y) rfl) ?_
   refine q_int rfl rfl rfl rfl rfl (b_neq _ _ _ _) ?_
   refine r_done ?_
   refine s_keep [0, 1, 5, 25] (e' := [(0, _), (1, _), (5, _), (25, _)]) rfl ?_
   refine k_then_n ?_
   refine c_cond_p rfl (fun hxy => ?_) (fun hxy => ?_)
   ·
    refine c_seq ?_
    refine c_plain (.q 0 (.done)) (by kernel_rfl) ?_
    refine q_assign rfl rfl rfl rfl ?_
    refine r_done ?_
    refine s_keep [4] (e' := [(4, _)]) rfl ?_
    refine k_then_n ?_
    refine c_ret ?_
    refine k_blk_ret ?_
    refine k_then_ret ?_
    refine k_then_ret ?_
    refine k_blk_ret ?_
    refine k_then_ret ?_
    refine ret1 rfl rfl (()) (by congr 1; symm; simp only [decide_eq_false_iff_not]; intro e; rw [e, hy] at hx; cases hx; exact hxy rfl) (by trivial) ?_
    exact Tf
   ·
    have hxy : x = y := Classical.byContradiction hxy
    refine c_skip ?_
    refine k_blk_n ?_
    refine k_then_n ?_
    refine c_plain (.q 0 (.q 1 (.q 2 (.done)))) (by kernel_rfl) ?_
    refine q_move rfl rfl rfl rfl ?_
    refine q_int rfl rfl rfl rfl rfl (b_add' _ (by exact fits_i64 (by omega) (by omega))) ?_
    refine q_assign rfl rfl rfl rfl ?_
    refine r_done ?_
    refine k_then_n ?_
    refine loop_next (x := i) (i + 1) ?_ ?_ ?_ ?_
    · exact ⟨by omega, by rw [List.take_add_one, List.take_add_one, hx, hy, ht, hxy]⟩
    · show n - (i + 1) < n - i; omega
    · exact ⟨rfl, rfl, rfl, trivial⟩
    · (try simp only [List.cons_append, List.nil_append]); exact Tf
  ·
   refine c_exit ?_
   refine k_then_exit ?_
   refine k_then_exit ?_
   refine k_blk_here ?_
   refine k_then_n ?_
   refine c_seq ?_
   refine c_plain (.q 0 (.done)) (by kernel_rfl) ?_
   refine q_assign rfl rfl rfl rfl ?_
   refine r_done ?_
   refine s_keep [4] (e' := [(4, _)]) rfl ?_
   refine k_then_n ?_
   refine c_ret ?_
   refine ret1 rfl rfl (()) (by congr 1; symm; simp only [decide_eq_true_eq]; obtain rfl : i = n := (by omega); rw [List.take_of_length_le (by omega), List.take_of_length_le (by omega)] at ht; exact ht) (by trivial) ?_
   exact Tf
theorem pairs_same (xs ys : List T3) (ao bo : Option Addr) (n m c d : Nat) (A : HProp) (hn : xs.length = n) (hr : RdS A ao (xs.flatMap enc3)) (hm : ys.length = m) (hr2 : RdS A bo (ys.flatMap enc3)) (hb : n ≤ 4000000000000) : Spec Try.prog 25 [.slice ao n c, .slice bo m d] [A] (fun (_ : Unit) => .bool (decide (xs = ys))) (fun _ => True) (fun _ => [A]) := by
 refine spec_mk (n := 26) Try.func25 rfl rfl rfl ?_
 intro Γ w0
 simp only [argE, List.cons_append, List.nil_append, Nat.zero_add, Nat.reduceAdd]
 refine c_seq ?_
 refine c_plain (.q 0 (.done)) (by kernel_rfl) ?_
 refine q_assign rfl rfl rfl rfl ?_
 refine r_done ?_
 refine k_then_n ?_
 refine c_seq ?_
 refine c_seq ?_
 refine c_plain (.q 0 (.q 1 (.q 2 (.q 3 (.q 4 (.done)))))) (by kernel_rfl) ?_
 refine q_move rfl rfl rfl rfl ?_
 refine q_len rfl rfl rfl rfl Try.underlying60 ?_
 refine q_move rfl rfl rfl rfl ?_
 refine q_len rfl rfl rfl rfl Try.underlying60 ?_
 refine q_int rfl rfl rfl rfl rfl (b_neq _ _ _ _) ?_
 refine r_done ?_
 refine s_keep [0, 1, 10] (e' := [(0, _), (1, _), (10, _)]) rfl ?_
 refine k_then_n ?_
 refine c_cond_p rfl (fun hne => ?_) (fun hne => ?_)
 ·
  refine c_seq ?_
  refine c_plain (.q 0 (.done)) (by kernel_rfl) ?_
  refine q_assign rfl rfl rfl rfl ?_
  refine r_done ?_
  refine k_then_n ?_
  refine c_ret ?_
  refine k_then_ret ?_
  refine ret1 rfl rfl (()) (by congr 1; symm; simp only [decide_eq_false_iff_not]; intro e; rw [e] at hn; omega) (by trivial) ?_
  exact Tf
 ·
  refine c_skip ?_
  refine k_then_n ?_
  refine c_seq ?_
  refine c_seq ?_
  refine c_plain (.q 0 (.done)) (by kernel_rfl) ?_
  refine q_assign rfl rfl rfl rfl ?_
  refine r_done ?_
  refine k_then_n ?_
  refine c_block ?_
  have hnm : n = m := by omega
  subst hnm
  refine c_loop2 (α := Nat) (fun (i : Nat) => i ≤ n ∧ (xs.take i = ys.take i)) (fun (i : Nat) => [(5, .int .i64 ((i : Nat) : Int))]) (fun (i : Nat) => []) (fun (i : Nat) => n - i) [0, 1] (er := [(0, _), (1, _)]) rfl (0) ?_ (by exact ⟨rfl, trivial⟩) (by (try dsimp only); (try simp only [Nat.add_zero, Nat.zero_add]); (repeat ((with_reducible apply Z2); focus (first | (with_reducible (repeat (first | exact Z0 | apply Z1)); done) | (repeat (first | exact Z0 | apply Z1))))); exact Z3) ?_
  · exact ⟨Nat.zero_le _, rfl⟩
  rintro i ⟨hle_i, ht⟩
  try simp only [List.cons_append, List.nil_append]
  refine c_seq ?_
  refine c_seq ?_
  refine c_plain (.q 0 (.q 1 (.q 2 (.q 3 (.done))))) (by kernel_rfl) ?_
  refine q_move rfl rfl rfl rfl ?_
  refine q_move rfl rfl rfl rfl ?_
  refine q_len rfl rfl rfl rfl Try.underlying60 ?_
  refine q_int rfl rfl rfl rfl rfl (b_lss _ _ _ _) ?_
  refine r_done ?_
  refine k_then_n ?_
  refine c_cond_p rfl (fun hlt => ?_) (fun hlt => ?_)
  ·
   refine c_skip ?_
   refine k_then_n ?_
   refine c_seq ?_
   refine c_block ?_
   refine c_seq ?_
   refine c_draw rfl (.q 0 (.q 1 (.q 2 (.q 3 (.q 4 (.q 5 (.q 6 (.q 7 (.q 8 (.done)))))))))) (by kernel_rfl) ?_
   refine q_move rfl rfl rfl rfl ?_
   refine q_move rfl rfl rfl rfl ?_
   obtain ⟨x, hx⟩ := get_lt (l := xs) (i := i) (by first | omega | (simp; done) | (simp; omega))
   refine q_idxR (sz := 2) (k := i) rfl rfl rfl rfl rfl Try.underlying60 Try.sizeOf56 (hr) hx enc3_len (by first | rfl | omega) (by omega) ?_
   intro ib19 io19 _ hd19
   refine q_loadN (vs := [_, _, _]) rfl rfl rfl rfl Try.isAgg56 Try.sizeOf56 Tk (hd19) rfl ?_
   refine q_move rfl rfl rfl rfl ?_
   refine q_move rfl rfl rfl rfl ?_
   obtain ⟨y, hy⟩ := get_lt (l := ys) (i := i) (by first | omega | (simp; done) | (simp; omega))
   refine q_idxR (sz := 2) (k := i) rfl rfl rfl rfl rfl Try.underlying60 Try.sizeOf56 (hr2) hy enc3_len (by first | rfl | omega) (by omega) ?_
   intro ib23 io23 _ hd23
   refine q_loadN (vs := [_, _, _]) rfl rfl rfl rfl Try.isAgg56 Try.sizeOf56 Tk (hd23) rfl ?_
   refine q_neS rfl rfl rfl rfl rfl (by kernel_rfl) (eqc_struct Try.underlying56 (by kernel_rfl) (eqf_cons rfl Try.isAgg3 rfl rfl (eqc_int Try.underlying3) (eqf_cons rfl Try.isAgg3 rfl rfl (eqc_int Try.underlying3) (eqf_last rfl Try.isAgg3 rfl rfl (eqc_int Try.underlying3))))) ?_
   refine s_eq 25 rfl (v' := .bool (decide (x ≠ y))) (by first | (congr 1; done) | (congr 1; rw [Bool.eq_iff_iff]; simp [Prod.ext_iff, and_assoc])) ?_
   refine r_done ?_
   refine s_keep [0, 1, 5, 25] (e' := [(0, _), (1, _), (5, _), (25, _)]) rfl ?_
   refine k_then_n ?_
   refine c_cond_p rfl (fun hxy => ?_) (fun hxy => ?_)
   ·
    refine c_seq ?_
    refine c_plain (.q 0 (.done)) (by kernel_rfl) ?_
    refine q_assign rfl rfl rfl rfl ?_
    refine r_done ?_
    refine s_keep [4] (e' := [(4, _)]) rfl ?_
    refine k_then_n ?_
    refine c_ret ?_
    refine k_blk_ret ?_
    refine k_then_ret ?_
    refine k_then_ret ?_
    refine k_blk_ret ?_
    refine k_then_ret ?_
    refine ret1 rfl rfl (()) (by congr 1; symm; simp only [decide_eq_false_iff_not]; intro e; rw [e, hy] at hx; cases hx; exact hxy rfl) (by trivial) ?_
    exact Tf
   ·
    have hxy : x = y := Classical.byContradiction hxy
    refine c_skip ?_
    refine k_blk_n ?_
    refine k_then_n ?_
    refine c_plain (.q 0 (.q 1 (.q 2 (.done)))) (by kernel_rfl) ?_
    refine q_move rfl rfl rfl rfl ?_
    refine q_int rfl rfl rfl rfl rfl (b_add' _ (by exact fits_i64 (by omega) (by omega))) ?_
    refine q_assign rfl rfl rfl rfl ?_
    refine r_done ?_
    refine k_then_n ?_
    refine loop_next (x := i) (i + 1) ?_ ?_ ?_ ?_
    · exact ⟨by omega, by rw [List.take_add_one, List.take_add_one, hx, hy, ht, hxy]⟩
    · show n - (i + 1) < n - i; omega
    · exact ⟨rfl, rfl, rfl, trivial⟩
    · (try simp only [List.cons_append, List.nil_append]); exact Tf
  ·
   refine c_exit ?_
   refine k_then_exit ?_
   refine k_then_exit ?_
   refine k_blk_here ?_
   refine k_then_n ?_
   refine c_seq ?_
   refine c_plain (.q 0 (.done)) (by kernel_rfl) ?_
   refine q_assign rfl rfl rfl rfl ?_
   refine r_done ?_
   refine s_keep [4] (e' := [(4, _)]) rfl ?_
   refine k_then_n ?_
   refine c_ret ?_
   refine ret1 rfl rfl (()) (by congr 1; symm; simp only [decide_eq_true_eq]; obtain rfl : i = n := (by omega); rw [List.take_of_length_le (by omega), List.take_of_length_le (by omega)] at ht; exact ht) (by trivial) ?_
   exact Tf
theorem works_spec : Spec Try.prog 7 [] [] (fun (_ : Unit) => .bool true) (fun _ => True) (fun _ => []) := by
 refine spec_mk (n := 64) Try.func7 rfl rfl rfl ?_
 intro Γ w0
 simp only [argE, List.cons_append, List.nil_append, Nat.zero_add, Nat.reduceAdd]
 refine c_seq ?_
 refine c_plain (.q 0 (.done)) (by kernel_rfl) ?_
 refine q_assign rfl rfl rfl rfl ?_
 refine r_done ?_
 refine k_then_n ?_
 refine c_seq ?_
 refine c_plain (.q 0 ((.l 1 [] (.q 2 (.q 3 (.q 4 (.q 5 (.q 6 (.done))))))))) (by kernel_rfl) ?_
 refine q_build rfl rfl rfl rfl (vs := [_, _, _, _, _]) (run_buildS Try.underlying25 Try.zeroValue25 (ps := [(0, 1), (1, 1), (2, 1), (3, 1), (4, 1)]) ⟨rfl, Try.sizeOf3, rfl, Try.sizeOf3, rfl, Try.sizeOf3, rfl, Try.sizeOf3, rfl, Try.sizeOf23, trivial⟩ rfl) ?_
 refine s_heap (fun _ h => Bun.fold (Γ := []) h) ?_
 have sp_1 := Hi.new_spec 2 1 0 0 ([]) none 0 0 (Bun []) (.inl rfl) (by rfl) (by omega) okw
 refine l_call rfl rfl rfl rfl rfl rfl Try.call9 (sp_1) Ts ?_
 rintro ⟨d, ⟨dpa, dpc⟩, dpo, dpoc⟩ -
 try simp only [List.cons_append, List.nil_append]
 refine ag_nil ?_
 rw [show hNew 2 1 0 0 [] = wk0 from rfl]
 refine q_move rfl rfl rfl rfl ?_
 refine q_extract rfl rfl rfl rfl rfl ?_
 refine q_extract rfl rfl rfl rfl rfl ?_
 refine q_assign rfl rfl rfl rfl ?_
 refine q_assign rfl rfl rfl rfl ?_
 refine r_done ?_
 refine s_keep [1, 2] (e' := [(1, _), (2, _)]) rfl ?_
 refine k_then_n ?_
 refine c_seq ?_
 refine c_plain (.q 0 (.q 1 (.q 2 (.q 3 (.q 4 ((.l 5 [] ((.l 6 [] (.q 7 (.q 8 (.q 9 (.q 10 (.q 11 (.done))))))))))))))) (by kernel_rfl) ?_
 refine q_move rfl rfl rfl rfl ?_
 refine q_build rfl rfl rfl rfl (vs := [_, _, _]) (run_buildS Try.underlying36 Try.zeroValue36 (ps := [(0, 1), (1, 1), (2, 1)]) ⟨rfl, Try.sizeOf34, rfl, Try.sizeOf3, rfl, Try.sizeOf3, trivial⟩ rfl) ?_
 refine q_build rfl rfl rfl rfl (vs := [_, _, _]) (run_buildS Try.underlying36 Try.zeroValue36 (ps := [(0, 1), (1, 1), (2, 1)]) ⟨rfl, Try.sizeOf34, rfl, Try.sizeOf3, rfl, Try.sizeOf3, trivial⟩ rfl) ?_
 refine q_build rfl rfl rfl rfl (vs := [_, _, _]) (run_buildS Try.underlying36 Try.zeroValue36 (ps := [(0, 1), (1, 1), (2, 1)]) ⟨rfl, Try.sizeOf34, rfl, Try.sizeOf3, rfl, Try.sizeOf3, trivial⟩ rfl) ?_
 refine q_build rfl rfl rfl rfl (vs := [_, _, _]) (run_buildS Try.underlying36 Try.zeroValue36 (ps := [(0, 1), (1, 1), (2, 1)]) ⟨rfl, Try.sizeOf34, rfl, Try.sizeOf3, rfl, Try.sizeOf3, trivial⟩ rfl) ?_
 refine l_buildSlice rfl rfl rfl rfl (vs := [_, _, _, _, _, _, _, _, _, _, _, _]) (run_buildSl Try.underlying26 Try.sizeOf36 Try.zeroValue36 rfl rfl rfl rfl) ?_
 intro b18
 refine ag_nil ?_
 have sp_2 := Hi.events_spec dpa dpc dpo dpoc d wk0 wk0_inv (by decide) ([]) rfl wek (some ⟨b18, 0, none⟩) 4 4 (cells b18 0 [.int .i64 7, .int .i64 0, .int .i64 1, .int .i64 2, .int .i64 0, .int .i64 0, .int .i64 2, .int .i64 0, .int .i64 0, .int .i64 1, .int .i64 1, .int .i64 0]) (rds_some rdn_cells) (by first | rfl | assumption | omega | (simp; done) | (simp; omega)) (by omega)
 refine l_call rfl rfl rfl rfl rfl rfl Try.call15 (sp_2) Ts ?_
 rintro i ⟨hi1, hi2, hi3⟩
 try simp only [List.cons_append, List.nil_append]
 refine ag_nil ?_
 obtain rfl := wek_four i hi1 hi3
 rw [show hAll wk0 (wek.take 4) = wk4 from rfl]
 refine q_move rfl rfl rfl rfl ?_
 refine q_extract rfl rfl rfl rfl rfl ?_
 refine q_extract rfl rfl rfl rfl rfl ?_
 refine q_assign rfl rfl rfl rfl ?_
 refine q_assign rfl rfl rfl rfl ?_
 refine r_done ?_
 refine s_keep [1, 2, 3, 4] (e' := [(1, _), (2, _), (3, _), (4, _)]) rfl ?_
 refine k_then_n ?_
 refine c_seq ?_
 refine c_plain (.q 0 (.q 1 ((.l 2 [] (.q 3 (.q 4 (.q 5 (.q 6 (.q 7 (.done)))))))))) (by kernel_rfl) ?_
 refine q_move rfl rfl rfl rfl ?_
 refine q_build rfl rfl rfl rfl (vs := [_, _, _]) (run_buildS Try.underlying36 Try.zeroValue36 (ps := [(0, 1), (1, 1), (2, 1)]) ⟨rfl, Try.sizeOf34, rfl, Try.sizeOf3, rfl, Try.sizeOf3, trivial⟩ rfl) ?_
 have sp_3 := Hi.againstq_spec dpa dpc dpo dpoc d wk4 wk4_inv (by decide +kernel) 2 1 0
 refine l_call rfl rfl rfl rfl rfl rfl Try.call13 (sp_3) Ts ?_
 rintro ⟨ga, gc⟩ -
 try simp only [List.cons_append, List.nil_append]
 refine ag_nil ?_
 rw [wk4_ag, wk4_ac]
 refine q_move rfl rfl rfl rfl ?_
 refine q_extract rfl rfl rfl rfl rfl ?_
 refine q_extract rfl rfl rfl rfl rfl ?_
 refine q_assign rfl rfl rfl rfl ?_
 refine q_assign rfl rfl rfl rfl ?_
 refine r_done ?_
 refine s_keep [1, 2, 3, 4, 5, 6] (e' := [(1, _), (2, _), (3, _), (4, _), (5, _), (6, _)]) rfl ?_
 refine k_then_n ?_
 refine c_seq ?_
 refine c_plain (.q 0 ((.l 1 [] (.q 2 (.q 3 (.q 4 ((.l 5 [] (.q 6 (.q 7 (.q 8 (.q 9 ((.l 10 [] (.q 11 (.q 12 (.q 13 (.q 14 (.q 15 (.q 16 (.q 17 (.q 18 ((.l 19 [] (.q 20 ((.l 21 [] ((.l 22 [] (.q 23 (.q 24 (.q 25 ((.l 26 [] ((.l 27 [] (.q 28 (.q 29 (.q 30 (.q 31 ((.l 32 [] ((.l 33 [] (.q 34 (.q 35 (.q 36 (.done)))))))))))))))))))))))))))))))))))))))))))))))) (by kernel_rfl) ?_
 refine q_move rfl rfl rfl rfl ?_
 have sp_4 := num_spec 0
 refine l_call rfl rfl rfl rfl rfl rfl Try.call10 (sp_4) Ts ?_
 rintro ⟨⟩ -
 try simp only [List.cons_append, List.nil_append]
 refine ag_nil ?_
 refine q_int rfl rfl rfl rfl rfl (b_eql _ _ _ _) ?_
 refine s_eq 30 rfl (v' := .bool true) (by first | rfl | simp) ?_
 refine q_move rfl rfl rfl rfl ?_
 refine q_move rfl rfl rfl rfl ?_
 have sp_5 := num_spec 0
 refine l_call rfl rfl rfl rfl rfl rfl Try.call10 (sp_5) Ts ?_
 rintro ⟨⟩ -
 try simp only [List.cons_append, List.nil_append]
 refine ag_nil ?_
 refine q_int rfl rfl rfl rfl rfl (b_eql _ _ _ _) ?_
 refine s_eq 34 rfl (v' := .bool true) (by first | rfl | simp) ?_
 refine q_pick_t rfl rfl rfl rfl rfl ?_
 refine q_move rfl rfl rfl rfl ?_
 refine q_move rfl rfl rfl rfl ?_
 have sp_6 := num_spec 0
 refine l_call rfl rfl rfl rfl rfl rfl Try.call10 (sp_6) Ts ?_
 rintro ⟨⟩ -
 try simp only [List.cons_append, List.nil_append]
 refine ag_nil ?_
 refine q_int rfl rfl rfl rfl rfl (b_eql _ _ _ _) ?_
 refine s_eq 39 rfl (v' := .bool true) (by first | rfl | simp) ?_
 refine q_pick_t rfl rfl rfl rfl rfl ?_
 refine q_move rfl rfl rfl rfl ?_
 refine q_move rfl rfl rfl rfl ?_
 refine q_int rfl rfl rfl rfl rfl (b_eql _ _ _ _) ?_
 refine s_eq 43 rfl (v' := .bool true) (by first | rfl | simp) ?_
 refine q_pick_t rfl rfl rfl rfl rfl ?_
 refine q_move rfl rfl rfl rfl ?_
 refine q_move rfl rfl rfl rfl ?_
 have sp_7 := Hi.pairs_spec dpa dpc dpo dpoc d wk4 wk4_inv
 refine l_call rfl rfl rfl rfl rfl rfl Try.call26 (sp_7) Ts ?_
 rintro ⟨pa, pc⟩ -
 try simp only [List.cons_append, List.nil_append]
 refine ag_nil ?_
 refine q_build rfl rfl rfl rfl (vs := [_, _, _]) (run_buildS Try.underlying56 Try.zeroValue56 (ps := [(0, 1), (1, 1), (2, 1)]) ⟨rfl, Try.sizeOf3, rfl, Try.sizeOf3, rfl, Try.sizeOf3, trivial⟩ rfl) ?_
 refine l_buildSlice rfl rfl rfl rfl (run_build1 (us := [_, _, _]) Try.underlying60 Try.sizeOf56 rfl Try.zeroValue56 rfl rfl rfl) ?_
 intro b49
 refine ag_nil ?_
 have hprl : (prF wk4.vars).length = 1 := by rw [wk4_pr]; rfl
 refine s_take (A := own 3 enc3 pa pc (prF wk4.vars)) Tk ?_
 refine own_fc fun f_8a f_8b f_8c => ?_
 refine s_heap (fun _ h => Bun.fold ((by (repeat ((with_reducible apply Z2); focus (first | (with_reducible (repeat (first | exact Z0 | apply Z1)); done) | (repeat (first | exact Z0 | apply Z1))))); exact Z3 : Takes _ [own 3 enc3 pa pc (prF wk4.vars), cells b49 0 [.int .i64 0, .int .i64 2, .int .i64 3]] _) _ h)) ?_
 have sp_9 := pairs_same (prF wk4.vars) ([(0, 2, 3)]) pa (some ⟨b49, 0, none⟩) ((prF wk4.vars).length) 1 pc 1 (Bun [own 3 enc3 pa pc (prF wk4.vars), cells b49 0 [.int .i64 0, .int .i64 2, .int .i64 3]]) (by rfl) (rds_bun (List.mem_cons_self) (rds_own enc3_len (fun h => (f_8b h).1) f_8c)) (by rfl) (rds_bun (List.mem_cons_of_mem _ (List.mem_cons_self)) (rds_some rdn_cells)) (by omega)
 refine l_call rfl rfl rfl rfl rfl rfl Try.call25 (sp_9) Ts ?_
 rintro ⟨⟩ -
 try simp only [List.cons_append, List.nil_append]
 refine s_take (A := Bun [own 3 enc3 pa pc (prF wk4.vars), cells b49 0 [.int .i64 0, .int .i64 2, .int .i64 3]]) Tk ?_
 refine s_bun ?_
 try simp only [List.cons_append, List.nil_append]
 try simp only [List.cons_append, List.nil_append]
 refine ag_nil ?_
 refine s_eq 50 rfl (v' := .bool true) (by rw [decide_eq_true wk4_pr]) ?_
 refine q_pick_t rfl rfl rfl rfl rfl ?_
 refine q_move rfl rfl rfl rfl ?_
 refine q_move rfl rfl rfl rfl ?_
 refine l_buildSlice rfl rfl rfl rfl (run_build1 (us := [_]) Try.underlying23 Try.sizeOf3 rfl Try.zeroValue3 rfl rfl rfl) ?_
 intro b54
 refine ag_nil ?_
 have h2l : ([2] : List Int).length = 1 := rfl
 refine s_take (A := own 1 encZ ga gc ([2])) Tk ?_
 refine own_fc fun f_10a f_10b f_10c => ?_
 refine s_heap (fun _ h => Bun.fold ((by (repeat ((with_reducible apply Z2); focus (first | (with_reducible (repeat (first | exact Z0 | apply Z1)); done) | (repeat (first | exact Z0 | apply Z1))))); exact Z3 : Takes _ [own 1 encZ ga gc ([2]), cells b54 0 [.int .i64 2]] _) _ h)) ?_
 have sp_11 := ints_same ([2]) ([2]) ga (some ⟨b54, 0, none⟩) (([2] : List Int).length) 1 gc 1 (Bun [own 1 encZ ga gc ([2]), cells b54 0 [.int .i64 2]]) (by rfl) (rds_bun (List.mem_cons_self) (rds_own encZ_len (fun h => (f_10b h).1) f_10c)) (by rfl) (rds_bun (List.mem_cons_of_mem _ (List.mem_cons_self)) (rds_some rdn_cells)) (by omega)
 refine l_call rfl rfl rfl rfl rfl rfl Try.call16 (sp_11) Ts ?_
 rintro ⟨⟩ -
 try simp only [List.cons_append, List.nil_append]
 refine s_take (A := Bun [own 1 encZ ga gc ([2]), cells b54 0 [.int .i64 2]]) Tk ?_
 refine s_bun ?_
 try simp only [List.cons_append, List.nil_append]
 try simp only [List.cons_append, List.nil_append]
 refine ag_nil ?_
 refine s_eq 55 rfl (v' := .bool true) (by first | rfl | simp) ?_
 refine q_pick_t rfl rfl rfl rfl rfl ?_
 refine q_move rfl rfl rfl rfl ?_
 refine q_move rfl rfl rfl rfl ?_
 refine q_build rfl rfl rfl rfl (vs := [_, _, _]) (run_buildS Try.underlying36 Try.zeroValue36 (ps := [(0, 1), (1, 1), (2, 1)]) ⟨rfl, Try.sizeOf34, rfl, Try.sizeOf3, rfl, Try.sizeOf3, trivial⟩ rfl) ?_
 have sp_12 := Hi.event_spec dpa dpc dpo dpoc d wk4 wk4_inv (by decide +kernel) ([]) rfl 1 0 1
 refine l_call rfl rfl rfl rfl rfl rfl Try.call11 (sp_12) Ts ?_
 rintro ⟨⟩ -
 try simp only [List.cons_append, List.nil_append]
 refine ag_nil ?_
 rw [wk4_no]
 have sp_13 := num_spec 6
 refine l_call rfl rfl rfl rfl rfl rfl Try.call10 (sp_13) Ts ?_
 rintro ⟨⟩ -
 try simp only [List.cons_append, List.nil_append]
 refine ag_nil ?_
 refine q_int rfl rfl rfl rfl rfl (b_eql _ _ _ _) ?_
 refine s_eq 62 rfl (v' := .bool true) (by first | rfl | simp) ?_
 refine q_pick_t rfl rfl rfl rfl rfl ?_
 refine q_assign rfl rfl rfl rfl ?_
 refine r_done ?_
 refine s_keep [0] (e' := [(0, _)]) rfl ?_
 refine k_then_n ?_
 refine c_ret ?_
 refine ret1 rfl rfl (()) (by first | rfl | (first | rfl | (congr 1; done) | (congr 1 <;> first | rfl | omega | (simp; done) | (simp; omega)))) (by trivial) ?_
 exact Tf
end Go.Ab.Hi
set_option linter.unusedVariables false
set_option linter.unusedSimpArgs false
set_option maxRecDepth 100000
namespace Go.Ab.Hi
open Go Go.Proofs Go.Ab Go.Ab.Fe Go.Ab.Vc Go.Ab.Dj Go.Ab.So
theorem mg_ge {m : Option (List Int)} {l : List Int} (hl : CV l) (h : ∀ q, m = some q → CV q) (i : Nat) : l.getD i 0 ≤ (mgF m l).getD i 0 := by
  cases m with
  | none => exact Int.le_refl _
  | some q => show _ ≤ (jn l q).getD i 0; rw [jn_g hl (h q rfl)]; omega
theorem upd_ge {x : VS} {t : Int} {l L : List Int} (hth : x.th t = some l) (h : ∀ i : Nat, l.getD i 0 ≤ L.getD i 0) (u : Int) (i : Nat) : (thF x u).getD i 0 ≤ ((upd x.th t (some L) u).getD []).getD i 0 := by
  by_cases hu : u = t
  · subst hu
    rw [show upd x.th u (some L) u = some L from upd_same, thF_eq hth]
    exact h i
  · rw [show upd x.th t (some L) u = x.th u from upd_ne hu]
    exact Int.le_refl _
/-- No vector of a thread's ever gets less. -/
theorem th_grow {x : VS} (hx : VInv x) {k t o : Int} (hv : vcanF x k t o) (u : Int) (i : Nat) : (thF x u).getD i 0 ≤ (thF (vnF x k t o) u).getD i 0 := by
  obtain ⟨l, hth⟩ := th_some hx (can_th hv.1)
  have hl := hx.thc _ _ hth
  have hic : ∀ i : Nat, l.getD i 0 ≤ (icL l t.toNat).getD i 0 := fun i => by
    rw [icL_g]; split
    · rename_i h; rw [h]; omega
    · exact Int.le_refl _
  obtain ⟨o5, o7, o9, o10, o11⟩ := can_obj hx.ck hv.1
  by_cases k5 : k = 5
  · rw [vn5 hth k5]; exact upd_ge hth (mg_ge hl (hx.lkc _)) u i
  by_cases k3 : k = 3
  · rw [vn3 hth k3]; exact upd_ge hth (mg_ge hl (hx.voc _)) u i
  by_cases k8 : k = 8
  · rw [vn8 hth k8]; exact upd_ge hth (mg_ge hl (hx.thc _)) u i
  by_cases k10 : k = 10
  · rw [vn10 hth k10]
    obtain ⟨p, hp, -⟩ := rd_some hx (o10 k10).1 (o10 k10).2.2
    refine upd_ge hth (fun i => ?_) u i
    rw [thF_eq hth, rdF, hp]
    show _ ≤ (jn l p.1).getD i 0
    rw [jn_g hl (hx.rdc _ _ hp)]; omega
  by_cases k6 : k = 6
  · rw [vn6 hth k6]; exact upd_ge hth hic u i
  by_cases k4 : k = 4
  · rw [vn4 hth k4]; exact upd_ge hth hic u i
  by_cases k9 : k = 9
  · rw [vn9 hth k9]; exact upd_ge hth hic u i
  by_cases k7 : k = 7
  · rw [vn7 hth k7]
    show _ ≤ ((upd (upd x.th o (some (stL l o.toNat 1))) t (some (icL l t.toNat)) u).getD []).getD i 0
    by_cases hu : u = t
    · subst hu
      rw [upd_same, thF_eq hth]; exact hic i
    · rw [upd_ne hu]
      by_cases ho : u = o
      · subst ho
        rw [upd_same]
        have hno : x.th u = none := by
          cases h : x.th u with
          | none => rfl
          | some q => exact absurd (o7 k7).2.2 ((hx.th u).1 (by rw [h]; rfl))
        rw [thF, hno]
        show ([] : List Int).getD i 0 ≤ (stL l u.toNat 1).getD i 0
        rw [stL_g, List.getD_nil]
        have := (g_rng hl.rng (by decide) i).1
        split <;> omega
      · rw [upd_ne ho]; exact Int.le_refl _
  rw [vn0 k5 k3 k8 k10 k6 k4 k9 k7]; exact Int.le_refl _
/-- What is kept is of threads that there are, and no later than their clocks. -/
structure KInv (x : HS) : Prop where
  k : ∀ q w, x.kept q = some w → q.2 < x.v.ck.th ∧ w.2.2.1 ≤ (thF x.v q.2).getD q.2.toNat 0 ∧ w.2.2.2 ≤ (thF x.v q.2).getD q.2.toNat 0
theorem thF_nn {x : VS} (hx : VInv x) (u : Int) (i : Nat) : 0 ≤ (thF x u).getD i 0 := by
  unfold thF
  cases h : x.th u with
  | none => simp
  | some l => exact (g_rng (hx.thc _ _ h).rng (by decide) i).1
theorem he_kinv {x : HS} (hx : SInv x) (hk : KInv x) (k t o : Int) : KInv (heF x k t o) := by
  unfold heF
  split
  · rename_i hv
    have hg := th_grow hx.v hv
    obtain ⟨-, -, -, e4⟩ := vnn hv.1
    unfold accF
    split
    · rename_i hk2
      refine ⟨fun q w hq => ?_⟩
      simp only [ntF] at hq
      show q.2 < (vnF x.v k t o).ck.th ∧ w.2.2.1 ≤ (thF (vnF x.v k t o) q.2).getD q.2.toNat 0 ∧ w.2.2.2 ≤ (thF (vnF x.v k t o) q.2).getD q.2.toNat 0
      rw [e4]
      have hq1 := hg q.2 q.2.toNat
      rcases upd_some hq with ⟨rfl, h⟩ | ⟨-, h⟩
      · cases h
        obtain ⟨s0, s1, -⟩ := stF_nz (can_th hv.1)
        have htl := hx.v.ck.tl
        have hold : (tchF x o t).2.2.1 ≤ (thF x.v t).getD t.toNat 0 ∧ (tchF x o t).2.2.2 ≤ (thF x.v t).getD t.toNat 0 := by
          unfold tchF
          cases h : x.kept (o, t) with
          | none => exact ⟨thF_nn hx.v _ _, thF_nn hx.v _ _⟩
          | some w0 => exact (hk.k _ _ h).2
        simp only at hq1 ⊢
        refine ⟨by omega, ?_⟩
        unfold ntK
        split
        · exact ⟨hq1, Int.le_trans hold.2 hq1⟩
        · exact ⟨Int.le_trans hold.1 hq1, hq1⟩
      · obtain ⟨a, b, c⟩ := hk.k _ _ h
        exact ⟨a, Int.le_trans b hq1, Int.le_trans c hq1⟩
    · refine ⟨fun q w hq => ?_⟩
      obtain ⟨a, b, c⟩ := hk.k q w hq
      have hq1 := hg q.2 q.2.toNat
      show q.2 < (vnF x.v k t o).ck.th ∧ w.2.2.1 ≤ (thF (vnF x.v k t o) q.2).getD q.2.toNat 0 ∧ w.2.2.2 ≤ (thF (vnF x.v k t o) q.2).getD q.2.toNat 0
      rw [e4]
      exact ⟨a, Int.le_trans b hq1, Int.le_trans c hq1⟩
  · exact hk
/-- Thread t knows all that thread u did. -/
def JX (x : HS) (t u : Int) : Prop := (thF x.v u).getD u.toNat 0 ≤ (thF x.v t).getD u.toNat 0
theorem join_new {x : HS} (hx : SInv x) {t u : Int} (hv : vcanF x.v 8 t u) : JX (heF x 8 t u) t u := by
  unfold JX
  rw [he_v hv]
  obtain ⟨l, hth⟩ := th_some hx.v (can_th hv.1)
  have hl := hx.v.thc _ _ hth
  have hne : u ≠ t := fun e => by have h := hv.1; rw [e] at h; exact join_ne h rfl
  rw [vn8 hth rfl]
  show ((upd x.v.th t (some (mgF (x.v.th u) l)) u).getD []).getD u.toNat 0 ≤ ((upd x.v.th t (some (mgF (x.v.th u) l)) t).getD []).getD u.toNat 0
  rw [upd_same, upd_ne hne]
  cases h : x.v.th u with
  | none =>
    show ([] : List Int).getD u.toNat 0 ≤ l.getD u.toNat 0
    rw [List.getD_nil]; exact (g_rng hl.rng (by decide) _).1
  | some q =>
    show q.getD u.toNat 0 ≤ (jn l q).getD u.toNat 0
    rw [jn_g hl (hx.v.thc _ _ h)]; omega
theorem join_old {x : HS} (hx : SInv x) {t u v : Int} (h : JX x t v) (hne : v ≠ t) : JX (heF x 8 t u) t v := by
  by_cases hv : vcanF x.v 8 t u
  · unfold JX at h ⊢
    have hg := th_grow hx.v hv t v.toNat
    rw [he_v hv]
    refine Int.le_trans ?_ (Int.le_trans h hg)
    obtain ⟨l, hth⟩ := th_some hx.v (can_th hv.1)
    rw [vn8 hth rfl]
    show ((upd x.v.th t (some (mgF (x.v.th u) l)) v).getD []).getD v.toNat 0 ≤ _
    rw [upd_ne hne]; exact Int.le_refl _
  · rw [heF, if_neg hv]; exact h
theorem join_kept {x : HS} {t u : Int} : (heF x 8 t u).kept = x.kept := by
  unfold heF
  split
  · rw [accF, if_neg (by omega)]
  · rfl
theorem join_tch {x : HS} {t u o v : Int} : tchF (heF x 8 t u) o v = tchF x o v := by unfold tchF; rw [join_kept]
theorem none_against {x : HS} (hx : SInv x) (hk : KInv x) {k t o : Int} (hJ : ∀ u, 0 ≤ u → u < x.v.ck.th → u ≠ t → (0 ≤ (tchF x o u).1 ∨ 0 ≤ (tchF x o u).2.1) → JX x t u) : agF x k t o = [] := by
  unfold agF
  split
  · rw [List.flatMap_eq_nil_iff.2 (fun q hq => ?_)]; · rfl
    by_cases h1 : q.1 ≠ o ∨ q.2 = t
    · exact agK_s h1
    · have h2 : q.1 = o := Classical.byContradiction fun h => h1 (.inl h)
      have h3 : q.2 ≠ t := fun h => h1 (.inr h)
      obtain ⟨w, hw⟩ := Option.isSome_iff_exists.1 ((hx.ks q).1 hq)
      have hq0 := hx.kt q hq
      obtain ⟨a, b, c⟩ := hk.k q w hw
      have hT : tchF x o q.2 = w := by unfold tchF; rw [← h2]; show (x.kept q).getD _ = w; rw [hw]; rfl
      have hJ2 := hJ q.2 hq0 a h3
      rw [hT] at hJ2
      unfold JX at hJ2
      rw [agK_go (fun h => h h2) h3 hw]
      rw [if_neg (by rintro ⟨-, h4, h5⟩; have := hJ2 (.inl h4); omega), if_neg (by rintro ⟨h4, h5⟩; have := hJ2 (.inr h4); omega)]
      rfl
  · rfl
/-- A history of a shape, behind B events at most. -/
structure GInv (th va : Int) (pl : List Int) (B : Int) (x : HS) : Prop where
  s : SInv x
  k : KInv x
  n : x.v.ck.n ≤ B
  pa : x.v.ck.pa = pl
  th : x.v.ck.th = th
  va : x.v.ck.va = va
theorem g_next {th va : Int} {pl : List Int} {B : Int} {x : HS} (h : GInv th va pl B x) (k t o : Int) : GInv th va pl (B + 1) (heF x k t o) := by
  obtain ⟨a, b, c, d⟩ := he_n (x := x) k t o
  exact ⟨he_inv h.s _ _ _, he_kinv h.s h.k _ _ _, by have := h.n; omega, b.trans h.pa, c.trans h.th, d.trans h.va⟩
theorem g_more {th va : Int} {pl : List Int} {B C : Int} {x : HS} (h : GInv th va pl B x) (hB : B ≤ C) : GInv th va pl C x := ⟨h.s, h.k, Int.le_trans h.n hB, h.pa, h.th, h.va⟩
theorem g_new {th va vo lk : Int} {pl : List Int} (hok : OkS th va vo lk pl) : GInv th va pl 0 (hNew th va vo lk pl) := ⟨new_sinv hok, ⟨fun q w h => (by cases h)⟩, Int.le_refl _, rfl, rfl, rfl⟩
end Go.Ab.Hi
set_option linter.unusedVariables false
set_option linter.unusedSimpArgs false
set_option maxRecDepth 100000
namespace Go.Ab.Hi
open Go Go.Proofs Go.Ab Go.Ab.Fe Go.Ab.Vc Go.Ab.Dj Go.Ab.So
theorem at_spec (b vb m vc : Nat) (va : Option Addr) (v1 v3 : Value) (V : List Tld) (hm : V.length = m) (i : Nat) (v : Tld) (hv : V[i]? = some v) : Spec Try.prog 32 [.pointer (some ⟨b, 0, none⟩), .int .i64 ((i : Nat) : Int)] [cells b 0 [.pointer (some ⟨vb, 0, none⟩), v1, .slice va m vc, v3], own 11 encD va vc V] (fun (r : Nat × Nat) => .pointer (some ⟨r.1, r.2 + i * 11, none⟩)) (fun r => va = some ⟨r.1, r.2, none⟩) (fun r => [cells b 0 [.pointer (some ⟨vb, 0, none⟩), v1, .slice va m vc, v3], own 11 encD va vc V]) := by
 refine spec_mk (n := 27) Try.func32 rfl rfl rfl ?_
 intro Γ w0
 simp only [argE, List.cons_append, List.nil_append, Nat.zero_add, Nat.reduceAdd]
 have hil := (List.getElem?_eq_some_iff.1 hv).1
 refine c_seq ?_
 refine c_plain (.q 0 (.done)) (by kernel_rfl) ?_
 refine q_assign rfl rfl rfl rfl ?_
 refine r_done ?_
 refine k_then_n ?_
 refine c_seq ?_
 refine c_seq ?_
 refine c_plain (.q 0 ((.l 1 [] (.q 2 (.q 3 (.q 4 (.q 5 (.q 6 (.q 7 (.q 8 (.q 9 (.q 10 (.q 11 (.q 12 (.q 13 (.q 14 (.q 15 (.done)))))))))))))))))) (by kernel_rfl) ?_
 refine q_move rfl rfl rfl rfl ?_
 have sp_1 := Hi.there_spec b vb v1 (.slice va m vc) v3
 refine l_call rfl rfl rfl rfl rfl rfl Try.call28 (sp_1) Ts ?_
 rintro ⟨⟩ -
 try simp only [List.cons_append, List.nil_append]
 refine ag_nil ?_
 refine q_not rfl rfl rfl rfl ?_
 refine s_eq 7 rfl (v' := .bool false) rfl ?_
 refine q_move rfl rfl rfl rfl ?_
 refine q_move rfl rfl rfl rfl ?_
 refine q_int rfl rfl rfl rfl rfl (b_lss _ _ _ _) ?_
 refine q_pick_f rfl rfl rfl rfl rfl ?_
 refine q_move rfl rfl rfl rfl ?_
 refine s_bool_p 12 rfl (fun hg => by exfalso; omega) (fun hg => ?_)
 refine q_move rfl rfl rfl rfl ?_
 refine q_move rfl rfl rfl rfl ?_
 refine q_nil_p rfl rfl rfl rfl ?_
 refine q_field (k := 2) rfl rfl rfl rfl Try.underlying70 rfl Try.sizeOf67 rfl ?_
 refine q_load_c (j := 2) rfl rfl rfl rfl Try.isAgg67 Tk (by first | rfl | exact (Nat.add_zero _).symm) (by rfl) ?_
 refine q_len rfl rfl rfl rfl Try.underlying67 ?_
 refine q_int rfl rfl rfl rfl rfl (b_geq _ _ _ _) ?_
 refine q_pick_f rfl rfl rfl rfl rfl ?_
 refine r_done ?_
 refine s_keep [0, 1, 20] (e' := [(0, _), (1, _), (20, _)]) rfl ?_
 refine k_then_n ?_
 refine c_cond_p rfl (fun hg => by exfalso; first | omega | (simp at hg; omega)) (fun hg => ?_)
 refine c_skip ?_
 refine k_then_n ?_
 refine c_seq ?_
 refine c_plain (.q 0 (.q 1 (.q 2 (.q 3 (.q 4 (.q 5 (.q 6 (.done)))))))) (by kernel_rfl) ?_
 refine q_move rfl rfl rfl rfl ?_
 refine q_nil_p rfl rfl rfl rfl ?_
 refine q_field (k := 2) rfl rfl rfl rfl Try.underlying70 rfl Try.sizeOf67 rfl ?_
 refine q_load_c (j := 2) rfl rfl rfl rfl Try.isAgg67 Tk (by first | rfl | exact (Nat.add_zero _).symm) (by rfl) ?_
 refine q_move rfl rfl rfl rfl ?_
 refine q_idxO (sz := 10) (k := i) (enc := encD) (xs := V) rfl rfl rfl rfl rfl Try.underlying67 Try.sizeOf102 hv (by first | rfl | omega) (by omega) Tk ?_
 intro ib26 io26 ha26 hl26 hc26
 refine q_assign rfl rfl rfl rfl ?_
 refine r_done ?_
 refine s_keep [4] (e' := [(4, _)]) rfl ?_
 refine k_then_n ?_
 refine c_ret ?_
 refine ret1 rfl rfl ((ib26, io26)) (by first | rfl | (first | rfl | (congr 1; done) | (congr 1 <;> first | rfl | omega | (simp; done) | (simp; omega)))) (by exact ha26) ?_
 exact Tf
theorem last_spec (pa : Option Addr) (pc : Nat) (po : Option Addr) (poc b : Nat) (x : HS) (hx : SInv x) (i : Nat) (u : Int) (hi : i < x.vars.length) (hu : 0 ≤ u ∧ u < x.v.ck.th) : Spec Try.prog 12 [.pointer (some ⟨b, 0, none⟩), .int .i64 ((i : Nat) : Int), .int .i64 u] [hsR pa pc po poc b x] (fun (_ : Unit) => .tuple #[evT (tchF x (i : Int) u), .int .i64 0]) (fun _ => True) (fun _ => [hsR pa pc po poc b x]) := by
 refine spec_mk (n := 35) Try.func12 rfl rfl rfl ?_
 intro Γ w0
 simp only [argE, List.cons_append, List.nil_append, Nat.zero_add, Nat.reduceAdd]
 refine c_seq ?_
 refine c_plain ((.l 0 [] (.q 1 (.done)))) (by kernel_rfl) ?_
 refine l_alloc rfl rfl rfl Try.zeroValue39 (zs := [.int .i64 0, .int .i64 0, .int .u64 0, .int .u64 0]) rfl ?_
 intro b6
 refine ag_nil ?_
 refine q_assign rfl rfl rfl rfl ?_
 refine r_done ?_
 refine k_then_n ?_
 refine c_seq ?_
 refine c_block ?_
 refine c_seq ?_
 refine s_take (A := hsR pa pc po poc b x) Tk ?_
 refine hs_open fun vb mk va vc => ?_
 refine c_plain (.q 0 ((.l 1 [] (.q 2 (.q 3 (.done)))))) (by kernel_rfl) ?_
 refine q_move rfl rfl rfl rfl ?_
 have sp_1 := Hi.there_spec b vb (.int .i64 x.v.ck.th) (.slice va x.vars.length vc) (.map (some mk))
 refine l_call rfl rfl rfl rfl rfl rfl Try.call28 (sp_1) Ts ?_
 rintro ⟨⟩ -
 try simp only [List.cons_append, List.nil_append]
 refine ag_nil ?_
 refine q_not rfl rfl rfl rfl ?_
 refine s_eq 11 rfl (v' := .bool false) rfl ?_
 refine q_assign rfl rfl rfl rfl ?_
 refine r_done ?_
 refine s_keep [0, 1, 2, 6, 8] (e' := [(0, _), (1, _), (2, _), (6, _), (8, _)]) rfl ?_
 refine k_then_n ?_
 refine c_cond_f rfl ?_
 refine c_seq ?_
 obtain ⟨w, hw⟩ := get_lt (l := x.vars) (i := i) hi
 refine c_plain (.q 0 (.q 1 ((.l 2 [] (.q 3 (.q 4 (.q 5 (.q 6 (.q 7 (.q 8 (.q 9 (.q 10 (.q 11 (.q 12 (.q 13 (.q 14 (.q 15 (.q 16 (.done))))))))))))))))))) (by kernel_rfl) ?_
 refine q_move rfl rfl rfl rfl ?_
 refine q_move rfl rfl rfl rfl ?_
 have sp_2 := Hi.at_spec b vb x.vars.length vc va (.int .i64 x.v.ck.th) (.map (some mk)) x.vars (by rfl) i w hw
 refine l_call rfl rfl rfl rfl rfl rfl Try.call32 (sp_2) Ts ?_
 rintro ⟨ab, ao_⟩ haa
 try simp only [List.cons_append, List.nil_append]
 refine ag_nil ?_
 refine q_eq_nil rfl rfl rfl rfl Try.underlying73 ?_
 refine s_eq 17 rfl (v' := .bool false) rfl ?_
 refine q_move rfl rfl rfl rfl ?_
 refine q_move rfl rfl rfl rfl ?_
 refine q_int rfl rfl rfl rfl rfl (b_lss _ _ _ _) ?_
 refine q_pick_f rfl rfl rfl rfl rfl ?_
 refine q_move rfl rfl rfl rfl ?_
 refine s_bool_p 22 rfl (fun hg => by exfalso; omega) (fun hg => ?_)
 refine q_move rfl rfl rfl rfl ?_
 refine q_move rfl rfl rfl rfl ?_
 refine q_nil_p rfl rfl rfl rfl ?_
 refine q_field (k := 1) rfl rfl rfl rfl Try.underlying70 rfl Try.sizeOf3 rfl ?_
 refine q_load_c (j := 1) rfl rfl rfl rfl Try.isAgg3 Tk (by first | rfl | exact (Nat.add_zero _).symm) (by rfl) ?_
 refine q_int rfl rfl rfl rfl rfl (b_geq _ _ _ _) ?_
 refine q_pick_f rfl rfl rfl rfl rfl ?_
 refine q_assign rfl rfl rfl rfl ?_
 refine r_done ?_
 refine s_keep [0, 1, 2, 6, 13] (e' := [(0, _), (1, _), (2, _), (6, _), (13, _)]) rfl ?_
 refine k_then_n ?_
 refine c_cond_p rfl (fun hg => by exfalso; omega) (fun hg => ?_)
 refine c_skip ?_
 refine k_blk_n ?_
 refine k_then_n ?_
 refine c_seq ?_
 refine c_plain (.q 0 (.q 1 (.q 2 ((.l 3 [] ((.l 4 [] (.q 5 (.done))))))))) (by kernel_rfl) ?_
 refine q_move rfl rfl rfl rfl ?_
 refine q_move rfl rfl rfl rfl ?_
 refine q_move rfl rfl rfl rfl ?_
 have sp_3 := Hi.touched_spec b mk (.pointer (some ⟨vb, 0, none⟩)) (.int .i64 x.v.ck.th) (.slice va x.vars.length vc) x.kept ((i : Nat) : Int) u
 refine l_call rfl rfl rfl rfl rfl rfl Try.call33 (sp_3) Ts ?_
 rintro ⟨⟩ -
 try simp only [List.cons_append, List.nil_append]
 refine ag_nil ?_
 refine l_store (j := 0) rfl rfl rfl rfl Try.sizeOf39 (us := [_, _, _, _]) rfl rfl rfl Tk (by first | rfl | exact (Nat.add_zero _).symm) (by first | decide | (simp; done) | omega) ?_
 simp only [setL, List.set]
 refine ag_nil ?_
 refine q_assign rfl rfl rfl rfl ?_
 refine r_done ?_
 refine s_keep [6, 7] (e' := [(6, _), (7, _)]) rfl ?_
 refine k_then_n ?_
 refine c_ret ?_
 refine hs_fold (b := b) x (pa := pa) (pc := pc) (po := po) (poc := poc) (vb := vb) (va := va) (vc := vc) (mk := mk) (K := x.keys) Ts (by rfl) (by rfl) (by rfl) ?_
 refine retL (us := [_, _]) rfl ⟨rv_cellN rfl Try.isAgg39 Try.sizeOf39 Tk 0 rfl (us := [_, _, _, _]) rfl rfl, rv_tmp rfl, trivial⟩ (()) (by first | rfl | (first | rfl | (congr 1; done) | (congr 1 <;> first | rfl | omega | (simp; done) | (simp; omega)))) (by trivial) ?_
 exact Tf
theorem small_spec (th va vo lk : Int) (ao : Option Addr) (n c : Nat) (eo : Option Addr) (m ec : Nat) : Spec Try.prog 8 [.agg #[.int .i64 th, .int .i64 va, .int .i64 vo, .int .i64 lk, .slice ao n c], .slice eo m ec] [] (fun (_ : Unit) => .bool (decide (m ≤ 60 ∧ th ≤ 20 ∧ va ≤ 6))) (fun _ => True) (fun _ => []) := by
 refine spec_mk (n := 18) Try.func8 rfl rfl rfl ?_
 intro Γ w0
 simp only [argE, List.cons_append, List.nil_append, Nat.zero_add, Nat.reduceAdd]
 refine c_seq ?_
 refine c_plain ((.l 0 [] (.q 1 (.done)))) (by kernel_rfl) ?_
 refine l_box rfl rfl rfl rfl (us := [_, _, _, _, _]) rfl ?_
 intro b2
 refine ag_nil ?_
 refine q_assign rfl rfl rfl rfl ?_
 refine r_done ?_
 refine k_then_n ?_
 refine c_seq ?_
 refine c_plain (.q 0 (.q 1 (.q 2 (.q 3 (.q 4 (.q 5 (.q 6 (.q 7 (.q 8 (.q 9 (.q 10 (.q 11 (.q 12 (.q 13 (.done))))))))))))))) (by kernel_rfl) ?_
 refine q_move rfl rfl rfl rfl ?_
 refine q_len rfl rfl rfl rfl Try.underlying26 ?_
 refine q_int rfl rfl rfl rfl rfl (b_leq _ _ _ _) ?_
 refine q_move rfl rfl rfl rfl ?_
 refine s_bool_p 8 rfl (fun s1 => ?_) (fun s1 => ?_)
 ·
  refine q_field (k := 0) rfl rfl rfl rfl Try.underlying25 rfl Try.sizeOf3 rfl ?_
  refine q_load_c (j := 0) rfl rfl rfl rfl Try.isAgg3 Tk (by first | rfl | exact (Nat.add_zero _).symm) (by rfl) ?_
  refine q_int rfl rfl rfl rfl rfl (b_leq _ _ _ _) ?_
  refine q_pick_t rfl rfl rfl rfl rfl ?_
  refine q_move rfl rfl rfl rfl ?_
  refine s_bool_p 13 rfl (fun s2 => ?_) (fun s2 => ?_)
  ·
   refine q_field (k := 1) rfl rfl rfl rfl Try.underlying25 rfl Try.sizeOf3 rfl ?_
   refine q_load_c (j := 1) rfl rfl rfl rfl Try.isAgg3 Tk (by first | rfl | exact (Nat.add_zero _).symm) (by rfl) ?_
   refine q_int rfl rfl rfl rfl rfl (b_leq _ _ _ _) ?_
   refine q_pick_t rfl rfl rfl rfl rfl ?_
   refine q_assign rfl rfl rfl rfl ?_
   refine r_done ?_
   refine s_keep [4] (e' := [(4, _)]) rfl ?_
   refine k_then_n ?_
   refine c_ret ?_
   refine ret1 rfl rfl (()) (by congr 1; first | (rw [decide_eq_decide]; omega) | (symm; rw [decide_eq_false_iff_not]; omega)) (by trivial) ?_
   exact Tf
  ·
   refine q_skip rfl rfl rfl rfl ?_
   refine q_skip rfl rfl rfl rfl ?_
   refine q_skip rfl rfl rfl rfl ?_
   refine q_pick_f rfl rfl rfl rfl rfl ?_
   refine q_assign rfl rfl rfl rfl ?_
   refine r_done ?_
   refine s_keep [4] (e' := [(4, _)]) rfl ?_
   refine k_then_n ?_
   refine c_ret ?_
   refine ret1 rfl rfl (()) (by congr 1; first | (rw [decide_eq_decide]; omega) | (symm; rw [decide_eq_false_iff_not]; omega)) (by trivial) ?_
   exact Tf
 ·
  refine q_skip rfl rfl rfl rfl ?_
  refine q_skip rfl rfl rfl rfl ?_
  refine q_skip rfl rfl rfl rfl ?_
  refine q_pick_f rfl rfl rfl rfl rfl ?_
  refine q_move rfl rfl rfl rfl ?_
  refine q_skip rfl rfl rfl rfl ?_
  refine q_skip rfl rfl rfl rfl ?_
  refine q_skip rfl rfl rfl rfl ?_
  refine q_pick_f rfl rfl rfl rfl rfl ?_
  refine q_assign rfl rfl rfl rfl ?_
  refine r_done ?_
  refine s_keep [4] (e' := [(4, _)]) rfl ?_
  refine k_then_n ?_
  refine c_ret ?_
  refine ret1 rfl rfl (()) (by congr 1; first | (rw [decide_eq_decide]; omega) | (symm; rw [decide_eq_false_iff_not]; omega)) (by trivial) ?_
  exact Tf
theorem joined_ok (th va vo lk : Int) (pl : List Int) (ao : Option Addr) (n c : Nat) (A : HProp) (hr : RdS A ao (pl.flatMap encZ)) (hn : pl.length = n) (hb : n ≤ 4000000) (es : List T3) (eo : Option Addr) (m ec : Nat) (he : RdS A eo (es.flatMap enc3)) (hm : es.length = m) (hmb : m ≤ 4000000) (t : Int) (hok : OkS th va vo lk pl) : Spec Try.prog 4 [.agg #[.int .i64 th, .int .i64 va, .int .i64 vo, .int .i64 lk, .slice ao n c], .slice eo m ec, .int .i64 t] [A] (fun (_ : Unit) => .bool true) (fun _ => True) (fun _ => [A]) := by
 refine spec_mk (n := 133) Try.func4 rfl rfl rfl ?_
 intro Γ w0
 simp only [argE, List.cons_append, List.nil_append, Nat.zero_add, Nat.reduceAdd]
 refine c_seq ?_
 refine c_plain ((.l 0 [] (.q 1 (.done)))) (by kernel_rfl) ?_
 refine l_box rfl rfl rfl rfl (us := [_, _, _, _, _]) rfl ?_
 intro b3
 refine ag_nil ?_
 refine q_assign rfl rfl rfl rfl ?_
 refine r_done ?_
 refine k_then_n ?_
 refine c_seq ?_
 refine c_seq ?_
 refine c_plain ((.l 0 [] (.q 1 (.q 2 (.q 3 (.q 4 ((.l 5 [] (.q 6 (.q 7 (.done))))))))))) (by kernel_rfl) ?_
 have sp_1 := works_spec
 refine l_call rfl rfl rfl rfl rfl rfl Try.call7 (sp_1) Ts ?_
 rintro ⟨⟩ -
 try simp only [List.cons_append, List.nil_append]
 refine ag_nil ?_
 refine q_not rfl rfl rfl rfl ?_
 refine s_eq 20 rfl (v' := .bool false) rfl ?_
 refine q_move rfl rfl rfl rfl ?_
 refine q_loadN_c rfl rfl rfl rfl Try.isAgg25 Try.sizeOf25 Tk 0 (us := [_, _, _, _, _]) (by first | rfl | exact (Nat.add_zero _).symm) rfl rfl ?_
 refine q_move rfl rfl rfl rfl ?_
 have sp_2 := small_spec th va vo lk ao n c eo m ec
 refine l_call rfl rfl rfl rfl rfl rfl Try.call8 (sp_2) Ts ?_
 rintro ⟨⟩ -
 try simp only [List.cons_append, List.nil_append]
 refine ag_nil ?_
 refine q_not rfl rfl rfl rfl ?_
 refine q_pick_f rfl rfl rfl rfl rfl ?_
 refine r_done ?_
 refine s_keep [1, 2, 3, 26] (e' := [(1, _), (2, _), (3, _), (26, _)]) rfl ?_
 refine k_then_n ?_
 refine c_cond_np rfl (fun hsm => ?_) (fun hsm => ?_)
 ·
  refine c_seq ?_
  refine c_plain ((.l 0 [] (.q 1 (.done)))) (by kernel_rfl) ?_
  have sp_3 := works_spec
  refine l_call rfl rfl rfl rfl rfl rfl Try.call7 (sp_3) Ts ?_
  rintro ⟨⟩ -
  try simp only [List.cons_append, List.nil_append]
  refine ag_nil ?_
  refine q_assign rfl rfl rfl rfl ?_
  refine r_done ?_
  refine s_keep [6] (e' := [(6, _)]) rfl ?_
  refine k_then_n ?_
  refine c_ret ?_
  refine k_then_ret ?_
  refine ret1 rfl rfl (()) (by first | rfl | (first | rfl | (congr 1; done) | (congr 1 <;> first | rfl | omega | (simp; done) | (simp; omega)))) (by trivial) ?_
  exact Tf
 ·
  have hth1 := hok.th
  have hva1 := hok.va
  refine c_skip ?_
  refine k_then_n ?_
  refine c_seq ?_
  refine c_plain (.q 0 ((.l 1 [] (.q 2 (.q 3 (.q 4 (.q 5 (.q 6 (.done))))))))) (by kernel_rfl) ?_
  refine q_loadN_c rfl rfl rfl rfl Try.isAgg25 Try.sizeOf25 Tk 0 (us := [_, _, _, _, _]) (by first | rfl | exact (Nat.add_zero _).symm) rfl rfl ?_
  have sp_4 := Hi.new_spec th va vo lk pl ao n c A (hr) (by first | rfl | assumption | omega | (simp; done) | (simp; omega)) (by omega) hok
  refine l_call rfl rfl rfl rfl rfl rfl Try.call9 (sp_4) Ts ?_
  rintro ⟨d, ⟨dpa, dpc⟩, dpo, dpoc⟩ -
  try simp only [List.cons_append, List.nil_append]
  refine ag_nil ?_
  refine q_move rfl rfl rfl rfl ?_
  refine q_extract rfl rfl rfl rfl rfl ?_
  refine q_extract rfl rfl rfl rfl rfl ?_
  refine q_assign rfl rfl rfl rfl ?_
  refine q_assign rfl rfl rfl rfl ?_
  refine r_done ?_
  refine s_keep [1, 2, 3, 7, 8] (e' := [(1, _), (2, _), (3, _), (7, _), (8, _)]) rfl ?_
  refine k_then_n ?_
  refine c_seq ?_
  refine c_seq ?_
  refine c_plain (.q 0 ((.l 1 [] (.q 2 (.done))))) (by kernel_rfl) ?_
  refine q_move rfl rfl rfl rfl ?_
  have sp_5 := num_spec 0
  refine l_call rfl rfl rfl rfl rfl rfl Try.call10 (sp_5) Ts ?_
  rintro ⟨⟩ -
  try simp only [List.cons_append, List.nil_append]
  refine ag_nil ?_
  refine q_int rfl rfl rfl rfl rfl (b_neq _ _ _ _) ?_
  refine s_eq 35 rfl (v' := .bool false) (by first | rfl | simp) ?_
  refine r_done ?_
  refine k_then_n ?_
  refine c_cond_f rfl ?_
  refine c_skip ?_
  refine k_then_n ?_
  refine c_seq ?_
  refine c_seq ?_
  refine c_plain (.q 0 (.done)) (by kernel_rfl) ?_
  refine q_assign rfl rfl rfl rfl ?_
  refine r_done ?_
  refine s_keep [1, 2, 3, 7, 9] (e' := [(1, _), (2, _), (3, _), (7, _), (9, _)]) rfl ?_
  refine k_then_n ?_
  refine c_block ?_
  refine c_loop2 (α := Nat × HS) (fun (x_ : Nat × HS) => match x_ with | (i, Y) => i ≤ m ∧ (GInv th va pl ((i : Int)) Y)) (fun (x_ : Nat × HS) => match x_ with | (i, Y) => [(9, .int .i64 ((i : Nat) : Int))]) (fun (x_ : Nat × HS) => match x_ with | (i, Y) => [hsR dpa dpc dpo dpoc d Y, own 1 encZ dpa dpc pl, own 1 encZ dpo dpoc pl]) (fun (x_ : Nat × HS) => match x_ with | (i, Y) => m - i) [1, 2, 3, 7] (er := [(1, _), (2, _), (3, _), (7, _)]) rfl (0, (hNew th va vo lk pl)) ?_ (by exact ⟨rfl, trivial⟩) (by (try dsimp only); (try simp only [Nat.add_zero, Nat.zero_add]); (repeat ((with_reducible apply Z2); focus (first | (with_reducible (repeat (first | exact Z0 | apply Z1)); done) | (repeat (first | exact Z0 | apply Z1))))); exact Z3) ?_
  · exact ⟨Nat.zero_le _, g_new hok⟩
  rintro ⟨i, Y⟩ ⟨hle_i, hY⟩
  try simp only [List.cons_append, List.nil_append]
  refine c_seq ?_
  refine c_seq ?_
  refine c_plain (.q 0 (.q 1 (.q 2 (.q 3 (.done))))) (by kernel_rfl) ?_
  refine q_move rfl rfl rfl rfl ?_
  refine q_move rfl rfl rfl rfl ?_
  refine q_len rfl rfl rfl rfl Try.underlying26 ?_
  refine q_int rfl rfl rfl rfl rfl (b_lss _ _ _ _) ?_
  refine r_done ?_
  refine k_then_n ?_
  refine c_cond_p rfl (fun hlt0 => ?_) (fun hlt0 => ?_)
  ·
   refine c_skip ?_
   refine k_then_n ?_
   refine c_seq ?_
   refine c_block ?_
   refine c_plain (.q 0 (.q 1 (.q 2 (.q 3 (.q 4 ((.l 5 [] (.done)))))))) (by kernel_rfl) ?_
   refine q_move rfl rfl rfl rfl ?_
   refine q_move rfl rfl rfl rfl ?_
   refine q_move rfl rfl rfl rfl ?_
   obtain ⟨ev, hev⟩ := get_lt (l := es) (i := i) (by first | omega | (simp; done) | (simp; omega))
   refine q_idxR (sz := 2) (k := i) rfl rfl rfl rfl rfl Try.underlying26 Try.sizeOf36 (he) hev enc3_len (by first | rfl | omega) (by omega) ?_
   intro ib47 io47 _ hd47
   refine q_loadN (vs := [_, _, _]) rfl rfl rfl rfl Try.isAgg36 Try.sizeOf36 Tk (hd47) rfl ?_
   have sp_6 := Hi.event_spec dpa dpc dpo dpoc d Y hY.s (by have := hY.n; omega) pl hY.pa ev.1 ev.2.1 ev.2.2
   refine l_call rfl rfl rfl rfl rfl rfl Try.call11 (sp_6) Ts ?_
   rintro ⟨⟩ -
   try simp only [List.cons_append, List.nil_append]
   refine ag_nil ?_
   refine r_done ?_
   refine s_keep [1, 2, 3, 7, 9] (e' := [(1, _), (2, _), (3, _), (7, _), (9, _)]) rfl ?_
   refine k_blk_n ?_
   refine k_then_n ?_
   refine c_plain (.q 0 (.q 1 (.q 2 (.done)))) (by kernel_rfl) ?_
   refine q_move rfl rfl rfl rfl ?_
   refine q_int rfl rfl rfl rfl rfl (b_add' _ (by exact fits_i64 (by omega) (by omega))) ?_
   refine q_assign rfl rfl rfl rfl ?_
   refine r_done ?_
   refine k_then_n ?_
   refine loop_next (x := (i, Y)) ((i + 1, (heF Y ev.1 ev.2.1 ev.2.2))) ?_ ?_ ?_ ?_
   · try dsimp only
     exact ⟨by omega, g_more (g_next hY ev.1 ev.2.1 ev.2.2) (by omega)⟩
   · show m - (i + 1) < m - i; omega
   · exact ⟨rfl, rfl, rfl, rfl, rfl, trivial⟩
   · (try simp only [List.cons_append, List.nil_append]); exact Tf
  ·
   refine c_exit ?_
   refine k_then_exit ?_
   refine k_then_exit ?_
   refine k_blk_here ?_
   refine k_then_n ?_
   refine c_seq ?_
   refine c_seq ?_
   refine c_plain (.q 0 (.done)) (by kernel_rfl) ?_
   refine q_assign rfl rfl rfl rfl ?_
   refine r_done ?_
   refine s_keep [2, 3, 7, 10] (e' := [(2, _), (3, _), (7, _), (10, _)]) rfl ?_
   refine k_then_n ?_
   refine c_block ?_
   refine c_loop2 (α := Nat × HS) (fun (x_ : Nat × HS) => match x_ with | (i, Y) => i ≤ th.toNat ∧ (GInv th va pl (60 + 2 * (i : Int)) Y)) (fun (x_ : Nat × HS) => match x_ with | (i, Y) => [(10, .int .i64 ((i : Nat) : Int))]) (fun (x_ : Nat × HS) => match x_ with | (i, Y) => [hsR dpa dpc dpo dpoc d Y, own 1 encZ dpa dpc pl, own 1 encZ dpo dpoc pl]) (fun (x_ : Nat × HS) => match x_ with | (i, Y) => th.toNat - i) [2, 3, 7] (er := [(2, _), (3, _), (7, _)]) rfl (0, Y) ?_ (by exact ⟨rfl, trivial⟩) (by (try dsimp only); (try simp only [Nat.add_zero, Nat.zero_add]); (repeat ((with_reducible apply Z2); focus (first | (with_reducible (repeat (first | exact Z0 | apply Z1)); done) | (repeat (first | exact Z0 | apply Z1))))); exact Z3) ?_
   · exact ⟨Nat.zero_le _, g_more hY (by omega)⟩
   rintro ⟨i, Y⟩ ⟨hle_i, hY⟩
   try simp only [List.cons_append, List.nil_append]
   refine c_seq ?_
   refine c_seq ?_
   refine c_plain (.q 0 (.q 1 (.q 2 (.q 3 (.done))))) (by kernel_rfl) ?_
   refine q_move rfl rfl rfl rfl ?_
   refine q_field (k := 0) rfl rfl rfl rfl Try.underlying25 rfl Try.sizeOf3 rfl ?_
   refine q_load_c (j := 0) rfl rfl rfl rfl Try.isAgg3 Tk (by first | rfl | exact (Nat.add_zero _).symm) (by rfl) ?_
   refine q_int rfl rfl rfl rfl rfl (b_lss _ _ _ _) ?_
   refine r_done ?_
   refine k_then_n ?_
   refine c_cond_p rfl (fun hlt1 => ?_) (fun hlt1 => ?_)
   ·
    refine c_skip ?_
    refine k_then_n ?_
    refine c_seq ?_
    refine c_block ?_
    refine c_seq ?_
    refine c_plain (.q 0 (.q 1 (.q 2 (.done)))) (by kernel_rfl) ?_
    refine q_move rfl rfl rfl rfl ?_
    refine q_move rfl rfl rfl rfl ?_
    refine q_int rfl rfl rfl rfl rfl (b_neq _ _ _ _) ?_
    refine r_done ?_
    refine s_keep [2, 3, 7, 10, 58] (e' := [(2, _), (3, _), (7, _), (10, _), (58, _)]) rfl ?_
    refine k_then_n ?_
    refine c_cond_p rfl (fun hne => ?_) (fun hne => ?_)
    ·
     refine c_seq ?_
     refine c_plain (.q 0 (.q 1 (.q 2 ((.l 3 [] (.done)))))) (by kernel_rfl) ?_
     refine q_move rfl rfl rfl rfl ?_
     refine q_move rfl rfl rfl rfl ?_
     refine q_build rfl rfl rfl rfl (vs := [_, _, _]) (run_buildS Try.underlying36 Try.zeroValue36 (ps := [(0, 1), (1, 1), (2, 1)]) ⟨rfl, Try.sizeOf34, rfl, Try.sizeOf3, rfl, Try.sizeOf3, trivial⟩ rfl) ?_
     have sp_7 := Hi.event_spec dpa dpc dpo dpoc d Y hY.s (by have := hY.n; omega) pl hY.pa 11 ((i : Nat) : Int) 0
     refine l_call rfl rfl rfl rfl rfl rfl Try.call11 (sp_7) Ts ?_
     rintro ⟨⟩ -
     try simp only [List.cons_append, List.nil_append]
     refine ag_nil ?_
     refine r_done ?_
     refine s_keep [2, 3, 7, 10] (e' := [(2, _), (3, _), (7, _), (10, _)]) rfl ?_
     refine k_then_n ?_
     refine c_plain (.q 0 (.q 1 (.q 2 (.q 3 ((.l 4 [] (.done))))))) (by kernel_rfl) ?_
     refine q_move rfl rfl rfl rfl ?_
     refine q_move rfl rfl rfl rfl ?_
     refine q_move rfl rfl rfl rfl ?_
     refine q_build rfl rfl rfl rfl (vs := [_, _, _]) (run_buildS Try.underlying36 Try.zeroValue36 (ps := [(0, 1), (1, 1), (2, 1)]) ⟨rfl, Try.sizeOf34, rfl, Try.sizeOf3, rfl, Try.sizeOf3, trivial⟩ rfl) ?_
     have sp_8 := Hi.event_spec dpa dpc dpo dpoc d (heF Y 11 ((i : Nat) : Int) 0) (g_next hY 11 ((i : Nat) : Int) 0).s (by have := (g_next hY 11 ((i : Nat) : Int) 0).n; omega) pl (g_next hY 11 ((i : Nat) : Int) 0).pa 8 t ((i : Nat) : Int)
     refine l_call rfl rfl rfl rfl rfl rfl Try.call11 (sp_8) Ts ?_
     rintro ⟨⟩ -
     try simp only [List.cons_append, List.nil_append]
     refine ag_nil ?_
     refine r_done ?_
     refine s_keep [2, 3, 7, 10] (e' := [(2, _), (3, _), (7, _), (10, _)]) rfl ?_
     refine k_blk_n ?_
     refine k_then_n ?_
     refine c_plain (.q 0 (.q 1 (.q 2 (.done)))) (by kernel_rfl) ?_
     refine q_move rfl rfl rfl rfl ?_
     refine q_int rfl rfl rfl rfl rfl (b_add' _ (by exact fits_i64 (by omega) (by omega))) ?_
     refine q_assign rfl rfl rfl rfl ?_
     refine r_done ?_
     refine k_then_n ?_
     refine loop_next (x := (i, Y)) ((i + 1, (heF (heF Y 11 ((i : Nat) : Int) 0) 8 t ((i : Nat) : Int)))) ?_ ?_ ?_ ?_
     · try dsimp only
       exact ⟨by omega, g_more (g_next (g_next hY 11 ((i : Nat) : Int) 0) 8 t ((i : Nat) : Int)) (by omega)⟩
     · show th.toNat - (i + 1) < th.toNat - i; omega
     · exact ⟨rfl, rfl, rfl, rfl, trivial⟩
     · (try simp only [List.cons_append, List.nil_append]); exact Tf
    ·
     refine c_skip ?_
     refine k_blk_n ?_
     refine k_then_n ?_
     refine c_plain (.q 0 (.q 1 (.q 2 (.done)))) (by kernel_rfl) ?_
     refine q_move rfl rfl rfl rfl ?_
     refine q_int rfl rfl rfl rfl rfl (b_add' _ (by exact fits_i64 (by omega) (by omega))) ?_
     refine q_assign rfl rfl rfl rfl ?_
     refine r_done ?_
     refine k_then_n ?_
     refine loop_next (x := (i, Y)) ((i + 1, Y)) ?_ ?_ ?_ ?_
     · try dsimp only
       exact ⟨by omega, g_more hY (by omega)⟩
     · show th.toNat - (i + 1) < th.toNat - i; omega
     · exact ⟨rfl, rfl, rfl, rfl, trivial⟩
     · (try simp only [List.cons_append, List.nil_append]); exact Tf
   ·
    refine c_exit ?_
    refine k_then_exit ?_
    refine k_then_exit ?_
    refine k_blk_here ?_
    refine k_then_n ?_
    refine c_seq ?_
    refine c_seq ?_
    refine c_plain (.q 0 (.done)) (by kernel_rfl) ?_
    refine q_assign rfl rfl rfl rfl ?_
    refine r_done ?_
    refine s_keep [2, 3, 7, 11] (e' := [(2, _), (3, _), (7, _), (11, _)]) rfl ?_
    refine k_then_n ?_
    refine c_block ?_
    refine c_loop2 (α := Nat × HS) (fun (x_ : Nat × HS) => match x_ with | (i, Y) => i ≤ va.toNat ∧ (GInv th va pl (100 + 20 * (i : Int)) Y)) (fun (x_ : Nat × HS) => match x_ with | (i, Y) => [(11, .int .i64 ((i : Nat) : Int))]) (fun (x_ : Nat × HS) => match x_ with | (i, Y) => [hsR dpa dpc dpo dpoc d Y, own 1 encZ dpa dpc pl, own 1 encZ dpo dpoc pl]) (fun (x_ : Nat × HS) => match x_ with | (i, Y) => va.toNat - i) [2, 3, 7] (er := [(2, _), (3, _), (7, _)]) rfl (0, Y) ?_ (by exact ⟨rfl, trivial⟩) (by (try dsimp only); (try simp only [Nat.add_zero, Nat.zero_add]); (repeat ((with_reducible apply Z2); focus (first | (with_reducible (repeat (first | exact Z0 | apply Z1)); done) | (repeat (first | exact Z0 | apply Z1))))); exact Z3) ?_
    · exact ⟨Nat.zero_le _, g_more hY (by omega)⟩
    rintro ⟨i, Y⟩ ⟨hle_i, hY⟩
    try simp only [List.cons_append, List.nil_append]
    refine c_seq ?_
    refine c_seq ?_
    refine c_plain (.q 0 (.q 1 (.q 2 (.q 3 (.done))))) (by kernel_rfl) ?_
    refine q_move rfl rfl rfl rfl ?_
    refine q_field (k := 1) rfl rfl rfl rfl Try.underlying25 rfl Try.sizeOf3 rfl ?_
    refine q_load_c (j := 1) rfl rfl rfl rfl Try.isAgg3 Tk (by first | rfl | exact (Nat.add_zero _).symm) (by rfl) ?_
    refine q_int rfl rfl rfl rfl rfl (b_lss _ _ _ _) ?_
    refine r_done ?_
    refine k_then_n ?_
    refine c_cond_p rfl (fun hlt2 => ?_) (fun hlt2 => ?_)
    ·
     refine c_skip ?_
     refine k_then_n ?_
     refine c_seq ?_
     refine c_block ?_
     refine c_seq ?_
     refine c_plain (.q 0 (.done)) (by kernel_rfl) ?_
     refine q_assign rfl rfl rfl rfl ?_
     refine r_done ?_
     refine s_keep [2, 3, 7, 11, 12] (e' := [(2, _), (3, _), (7, _), (11, _), (12, _)]) rfl ?_
     refine k_then_n ?_
     refine c_seq ?_
     refine c_seq ?_
     refine c_plain (.q 0 (.done)) (by kernel_rfl) ?_
     refine q_assign rfl rfl rfl rfl ?_
     refine r_done ?_
     refine k_then_n ?_
     refine c_block ?_
     refine c_loop2 (α := Nat × HS × Bool) (fun (x_ : Nat × HS × Bool) => match x_ with | (j, Y, jb) => j ≤ th.toNat ∧ (GInv th va pl (100 + 20 * (i : Int) + j) Y) ∧ (jb = true → ∀ u : Int, 0 ≤ u → u < j → u ≠ t → (0 ≤ (tchF Y (i : Int) u).1 ∨ 0 ≤ (tchF Y (i : Int) u).2.1) → JX Y t u)) (fun (x_ : Nat × HS × Bool) => match x_ with | (j, Y, jb) => [(12, .bool jb), (13, .int .i64 ((j : Nat) : Int))]) (fun (x_ : Nat × HS × Bool) => match x_ with | (j, Y, jb) => [hsR dpa dpc dpo dpoc d Y, own 1 encZ dpa dpc pl, own 1 encZ dpo dpoc pl]) (fun (x_ : Nat × HS × Bool) => match x_ with | (j, Y, jb) => th.toNat - j) [2, 3, 7, 11] (er := [(2, _), (3, _), (7, _), (11, _)]) rfl (0, Y, true) ?_ (by exact ⟨rfl, rfl, trivial⟩) (by (try dsimp only); (try simp only [Nat.add_zero, Nat.zero_add]); (repeat ((with_reducible apply Z2); focus (first | (with_reducible (repeat (first | exact Z0 | apply Z1)); done) | (repeat (first | exact Z0 | apply Z1))))); exact Z3) ?_
     · exact ⟨Nat.zero_le _, g_more hY (by omega), fun _ u h0 h1 => by omega⟩
     rintro ⟨j, Y, jb⟩ ⟨hle_j, hY, hJ⟩
     try simp only [List.cons_append, List.nil_append]
     refine c_seq ?_
     refine c_seq ?_
     refine c_plain (.q 0 (.q 1 (.q 2 (.q 3 (.done))))) (by kernel_rfl) ?_
     refine q_move rfl rfl rfl rfl ?_
     refine q_field (k := 0) rfl rfl rfl rfl Try.underlying25 rfl Try.sizeOf3 rfl ?_
     refine q_load_c (j := 0) rfl rfl rfl rfl Try.isAgg3 Tk (by first | rfl | exact (Nat.add_zero _).symm) (by rfl) ?_
     refine q_int rfl rfl rfl rfl rfl (b_lss _ _ _ _) ?_
     refine r_done ?_
     refine k_then_n ?_
     refine c_cond_p rfl (fun hlt3 => ?_) (fun hlt3 => ?_)
     ·
      refine c_skip ?_
      refine k_then_n ?_
      refine c_seq ?_
      refine c_block ?_
      refine c_seq ?_
      refine c_plain (.q 0 (.q 1 (.q 2 ((.l 3 [] (.q 4 (.q 5 (.q 6 ((.l 7 [] ((.l 8 [] (.q 9 (.done)))))))))))))) (by kernel_rfl) ?_
      refine q_move rfl rfl rfl rfl ?_
      refine q_move rfl rfl rfl rfl ?_
      refine q_move rfl rfl rfl rfl ?_
      have sp_9 := Hi.last_spec dpa dpc dpo dpoc d Y hY.s i ((j : Nat) : Int) (by have h9 := hY.s.len; rw [hY.va] at h9; omega) (by rw [hY.th]; omega)
      refine l_call rfl rfl rfl rfl rfl rfl Try.call12 (sp_9) Ts ?_
      rintro ⟨⟩ -
      try simp only [List.cons_append, List.nil_append]
      refine ag_nil ?_
      refine q_move rfl rfl rfl rfl ?_
      refine q_extract rfl rfl rfl rfl rfl ?_
      refine q_extract rfl rfl rfl rfl rfl ?_
      refine l_alloc rfl rfl rfl Try.zeroValue39 (zs := [.int .i64 0, .int .i64 0, .int .u64 0, .int .u64 0]) rfl ?_
      intro b14
      refine ag_nil ?_
      refine l_store (j := 0) rfl rfl rfl rfl Try.sizeOf39 (us := [_, _, _, _]) rfl rfl rfl Tk (by first | rfl | exact (Nat.add_zero _).symm) (by first | decide | (simp; done) | omega) ?_
      simp only [setL, List.set]
      refine ag_nil ?_
      refine q_assign rfl rfl rfl rfl ?_
      refine r_done ?_
      refine s_keep [2, 3, 7, 11, 12, 13, 14, 15] (e' := [(2, _), (3, _), (7, _), (11, _), (12, _), (13, _), (14, _), (15, _)]) rfl ?_
      refine k_then_n ?_
      refine c_seq ?_
      refine c_seq ?_
      refine c_plain (.q 0 ((.l 1 [] (.q 2 (.done))))) (by kernel_rfl) ?_
      refine q_move rfl rfl rfl rfl ?_
      have sp_10 := num_spec 0
      refine l_call rfl rfl rfl rfl rfl rfl Try.call10 (sp_10) Ts ?_
      rintro ⟨⟩ -
      try simp only [List.cons_append, List.nil_append]
      refine ag_nil ?_
      refine q_int rfl rfl rfl rfl rfl (b_neq _ _ _ _) ?_
      refine s_eq 89 rfl (v' := .bool false) (by first | rfl | simp) ?_
      refine r_done ?_
      refine k_then_n ?_
      refine c_cond_f rfl ?_
      refine c_skip ?_
      refine k_then_n ?_
      refine c_seq ?_
      refine c_plain (.q 0 (.q 1 (.q 2 (.q 3 (.q 4 (.q 5 (.q 6 (.q 7 (.q 8 (.q 9 (.q 10 (.q 11 (.q 12 (.done)))))))))))))) (by kernel_rfl) ?_
      refine q_move rfl rfl rfl rfl ?_
      refine q_move rfl rfl rfl rfl ?_
      refine q_int rfl rfl rfl rfl rfl (b_neq _ _ _ _) ?_
      refine q_move rfl rfl rfl rfl ?_
      refine s_bool_p 93 rfl (fun hut => ?_) (fun hut => ?_)
      ·
       refine q_field (k := 0) rfl rfl rfl rfl Try.underlying39 rfl Try.sizeOf3 rfl ?_
       refine q_load_c (j := 0) rfl rfl rfl rfl Try.isAgg3 Tk (by first | rfl | exact (Nat.add_zero _).symm) (by rfl) ?_
       refine q_int rfl rfl rfl rfl rfl (b_geq _ _ _ _) ?_
       refine q_move rfl rfl rfl rfl ?_
       refine s_bool_p 97 rfl (fun hr0 => ?_) (fun hr0 => ?_)
       ·
        refine q_skip rfl rfl rfl rfl ?_
        refine q_skip rfl rfl rfl rfl ?_
        refine q_skip rfl rfl rfl rfl ?_
        refine q_pick_t rfl rfl rfl rfl rfl ?_
        refine q_pick_t rfl rfl rfl rfl rfl ?_
        refine r_done ?_
        refine s_keep [2, 3, 7, 11, 12, 13, 94, 95, 96, 97, 98, 99, 100, 101, 102] (e' := [(2, _), (3, _), (7, _), (11, _), (12, _), (13, _), (94, _), (95, _), (96, _), (97, _), (98, _), (99, _), (100, _), (101, _), (102, _)]) rfl ?_
        refine k_then_n ?_
        refine c_cond_t rfl ?_
        refine c_seq ?_
        refine c_plain (.q 0 (.q 1 (.q 2 (.q 3 ((.l 4 [] ((.l 5 [] (.q 6 (.q 7 (.done))))))))))) (by kernel_rfl) ?_
        refine q_move rfl rfl rfl rfl ?_
        refine q_move rfl rfl rfl rfl ?_
        refine q_move rfl rfl rfl rfl ?_
        refine q_build rfl rfl rfl rfl (vs := [_, _, _]) (run_buildS Try.underlying36 Try.zeroValue36 (ps := [(0, 1), (1, 1), (2, 1)]) ⟨rfl, Try.sizeOf34, rfl, Try.sizeOf3, rfl, Try.sizeOf3, trivial⟩ rfl) ?_
        have sp_11 := Hi.event_spec dpa dpc dpo dpoc d Y hY.s (by have := hY.n; omega) pl hY.pa 8 t ((j : Nat) : Int)
        refine l_call rfl rfl rfl rfl rfl rfl Try.call11 (sp_11) Ts ?_
        rintro ⟨⟩ -
        try simp only [List.cons_append, List.nil_append]
        refine ag_nil ?_
        have sp_12 := num_spec (heE Y 8 t ((j : Nat) : Int))
        refine l_call rfl rfl rfl rfl rfl rfl Try.call10 (sp_12) Ts ?_
        rintro ⟨⟩ -
        try simp only [List.cons_append, List.nil_append]
        refine ag_nil ?_
        refine q_int rfl rfl rfl rfl rfl (b_eql _ _ _ _) ?_
        refine q_assign rfl rfl rfl rfl ?_
        refine r_done ?_
        refine s_keep [2, 3, 7, 11, 12, 13, 16, 94, 95, 96, 97, 98, 99, 100, 101] (e' := [(2, _), (3, _), (7, _), (11, _), (12, _), (13, _), (16, _), (94, _), (95, _), (96, _), (97, _), (98, _), (99, _), (100, _), (101, _)]) rfl ?_
        refine k_then_n ?_
        refine c_plain (.q 0 (.q 1 (.q 2 (.q 3 (.q 4 (.done)))))) (by kernel_rfl) ?_
        refine q_move rfl rfl rfl rfl ?_
        refine q_move rfl rfl rfl rfl ?_
        refine s_bool 111 rfl (fun hjb => ?_) (fun hjb => ?_)
        ·
         try simp only [Bool.and_eq_true, Bool.or_eq_true, Bool.not_eq_true', Bool.not_eq_false', Bool.and_eq_false_iff, Bool.or_eq_false_iff, decide_eq_true_eq, decide_eq_false_iff_not] at hjb
         refine q_move rfl rfl rfl rfl ?_
         refine q_pick_t rfl rfl rfl rfl rfl ?_
         refine q_assign rfl rfl rfl rfl ?_
         refine r_done ?_
         refine s_keep [2, 3, 7, 11, 12, 13, 94, 95, 96, 97, 98, 99, 100, 101, 112] (e' := [(2, _), (3, _), (7, _), (11, _), (12, _), (13, _), (94, _), (95, _), (96, _), (97, _), (98, _), (99, _), (100, _), (101, _), (112, _)]) rfl ?_
         refine k_blk_n ?_
         refine k_then_n ?_
         refine c_plain (.q 0 (.q 1 (.q 2 (.done)))) (by kernel_rfl) ?_
         refine q_move rfl rfl rfl rfl ?_
         refine q_int rfl rfl rfl rfl rfl (b_add' _ (by exact fits_i64 (by omega) (by omega))) ?_
         refine q_assign rfl rfl rfl rfl ?_
         refine r_done ?_
         refine k_then_n ?_
         refine loop_next (x := (j, Y, jb)) ((j + 1, (heF Y 8 t ((j : Nat) : Int)), (decide ((heE Y 8 t ((j : Nat) : Int)) = 0)))) ?_ ?_ ?_ ?_
         · try dsimp only
           exact ⟨by omega, g_more (g_next hY 8 t ((j : Nat) : Int)) (by omega), fun h u h0 h1 h2 h3 => by
             have h5 : heE Y 8 t ((j : Nat) : Int) = 0 := by simpa using h
             have hc : vcanF Y.v 8 t ((j : Nat) : Int) := Classical.byContradiction fun hn => by rw [heE, if_neg hn] at h5; exact absurd h5 (by decide)
             rcases (show u < ((j : Nat) : Int) ∨ u = ((j : Nat) : Int) by omega) with h4 | h4
             · exact join_old hY.s (hJ hjb u h0 h4 h2 (by rw [join_tch] at h3; exact h3)) h2
             · subst h4; exact join_new hY.s hc⟩
         · show th.toNat - (j + 1) < th.toNat - j; omega
         · exact ⟨rfl, rfl, rfl, rfl, rfl, rfl, trivial⟩
         · (try simp only [List.cons_append, List.nil_append]); exact Tf
        ·
         try simp only [Bool.and_eq_true, Bool.or_eq_true, Bool.not_eq_true', Bool.not_eq_false', Bool.and_eq_false_iff, Bool.or_eq_false_iff, decide_eq_true_eq, decide_eq_false_iff_not] at hjb
         refine q_skip rfl rfl rfl rfl ?_
         refine q_pick_f rfl rfl rfl rfl rfl ?_
         refine q_assign rfl rfl rfl rfl ?_
         refine r_done ?_
         refine s_keep [2, 3, 7, 11, 12, 13, 94, 95, 96, 97, 98, 99, 100, 101, 112] (e' := [(2, _), (3, _), (7, _), (11, _), (12, _), (13, _), (94, _), (95, _), (96, _), (97, _), (98, _), (99, _), (100, _), (101, _), (112, _)]) rfl ?_
         refine k_blk_n ?_
         refine k_then_n ?_
         refine c_plain (.q 0 (.q 1 (.q 2 (.done)))) (by kernel_rfl) ?_
         refine q_move rfl rfl rfl rfl ?_
         refine q_int rfl rfl rfl rfl rfl (b_add' _ (by exact fits_i64 (by omega) (by omega))) ?_
         refine q_assign rfl rfl rfl rfl ?_
         refine r_done ?_
         refine k_then_n ?_
         refine loop_next (x := (j, Y, jb)) ((j + 1, (heF Y 8 t ((j : Nat) : Int)), false)) ?_ ?_ ?_ ?_
         · try dsimp only
           exact ⟨by omega, g_more (g_next hY 8 t ((j : Nat) : Int)) (by omega), fun h u h0 h1 h2 h3 => by
             exact absurd h (by simp)⟩
         · show th.toNat - (j + 1) < th.toNat - j; omega
         · exact ⟨rfl, rfl, rfl, rfl, rfl, rfl, trivial⟩
         · (try simp only [List.cons_append, List.nil_append]); exact Tf
       ·
        refine q_field (k := 1) rfl rfl rfl rfl Try.underlying39 rfl Try.sizeOf3 rfl ?_
        refine q_load_c (j := 1) rfl rfl rfl rfl Try.isAgg3 Tk (by first | rfl | exact (Nat.add_zero _).symm) (by rfl) ?_
        refine q_int rfl rfl rfl rfl rfl (b_geq _ _ _ _) ?_
        refine q_pick_f rfl rfl rfl rfl rfl ?_
        refine q_pick_t rfl rfl rfl rfl rfl ?_
        refine r_done ?_
        refine s_keep [2, 3, 7, 11, 12, 13, 94, 95, 96, 97, 98, 99, 100, 101, 102] (e' := [(2, _), (3, _), (7, _), (11, _), (12, _), (13, _), (94, _), (95, _), (96, _), (97, _), (98, _), (99, _), (100, _), (101, _), (102, _)]) rfl ?_
        refine k_then_n ?_
        refine c_cond_p rfl (fun hto => ?_) (fun hto => ?_)
        ·
         refine c_seq ?_
         refine c_plain (.q 0 (.q 1 (.q 2 (.q 3 ((.l 4 [] ((.l 5 [] (.q 6 (.q 7 (.done))))))))))) (by kernel_rfl) ?_
         refine q_move rfl rfl rfl rfl ?_
         refine q_move rfl rfl rfl rfl ?_
         refine q_move rfl rfl rfl rfl ?_
         refine q_build rfl rfl rfl rfl (vs := [_, _, _]) (run_buildS Try.underlying36 Try.zeroValue36 (ps := [(0, 1), (1, 1), (2, 1)]) ⟨rfl, Try.sizeOf34, rfl, Try.sizeOf3, rfl, Try.sizeOf3, trivial⟩ rfl) ?_
         have sp_13 := Hi.event_spec dpa dpc dpo dpoc d Y hY.s (by have := hY.n; omega) pl hY.pa 8 t ((j : Nat) : Int)
         refine l_call rfl rfl rfl rfl rfl rfl Try.call11 (sp_13) Ts ?_
         rintro ⟨⟩ -
         try simp only [List.cons_append, List.nil_append]
         refine ag_nil ?_
         have sp_14 := num_spec (heE Y 8 t ((j : Nat) : Int))
         refine l_call rfl rfl rfl rfl rfl rfl Try.call10 (sp_14) Ts ?_
         rintro ⟨⟩ -
         try simp only [List.cons_append, List.nil_append]
         refine ag_nil ?_
         refine q_int rfl rfl rfl rfl rfl (b_eql _ _ _ _) ?_
         refine q_assign rfl rfl rfl rfl ?_
         refine r_done ?_
         refine s_keep [2, 3, 7, 11, 12, 13, 16, 94, 95, 96, 97, 98, 99, 100, 101] (e' := [(2, _), (3, _), (7, _), (11, _), (12, _), (13, _), (16, _), (94, _), (95, _), (96, _), (97, _), (98, _), (99, _), (100, _), (101, _)]) rfl ?_
         refine k_then_n ?_
         refine c_plain (.q 0 (.q 1 (.q 2 (.q 3 (.q 4 (.done)))))) (by kernel_rfl) ?_
         refine q_move rfl rfl rfl rfl ?_
         refine q_move rfl rfl rfl rfl ?_
         refine s_bool 111 rfl (fun hjb => ?_) (fun hjb => ?_)
         ·
          try simp only [Bool.and_eq_true, Bool.or_eq_true, Bool.not_eq_true', Bool.not_eq_false', Bool.and_eq_false_iff, Bool.or_eq_false_iff, decide_eq_true_eq, decide_eq_false_iff_not] at hjb
          refine q_move rfl rfl rfl rfl ?_
          refine q_pick_t rfl rfl rfl rfl rfl ?_
          refine q_assign rfl rfl rfl rfl ?_
          refine r_done ?_
          refine s_keep [2, 3, 7, 11, 12, 13, 94, 95, 96, 97, 98, 99, 100, 101, 112] (e' := [(2, _), (3, _), (7, _), (11, _), (12, _), (13, _), (94, _), (95, _), (96, _), (97, _), (98, _), (99, _), (100, _), (101, _), (112, _)]) rfl ?_
          refine k_blk_n ?_
          refine k_then_n ?_
          refine c_plain (.q 0 (.q 1 (.q 2 (.done)))) (by kernel_rfl) ?_
          refine q_move rfl rfl rfl rfl ?_
          refine q_int rfl rfl rfl rfl rfl (b_add' _ (by exact fits_i64 (by omega) (by omega))) ?_
          refine q_assign rfl rfl rfl rfl ?_
          refine r_done ?_
          refine k_then_n ?_
          refine loop_next (x := (j, Y, jb)) ((j + 1, (heF Y 8 t ((j : Nat) : Int)), (decide ((heE Y 8 t ((j : Nat) : Int)) = 0)))) ?_ ?_ ?_ ?_
          · try dsimp only
            exact ⟨by omega, g_more (g_next hY 8 t ((j : Nat) : Int)) (by omega), fun h u h0 h1 h2 h3 => by
              have h5 : heE Y 8 t ((j : Nat) : Int) = 0 := by simpa using h
              have hc : vcanF Y.v 8 t ((j : Nat) : Int) := Classical.byContradiction fun hn => by rw [heE, if_neg hn] at h5; exact absurd h5 (by decide)
              rcases (show u < ((j : Nat) : Int) ∨ u = ((j : Nat) : Int) by omega) with h4 | h4
              · exact join_old hY.s (hJ hjb u h0 h4 h2 (by rw [join_tch] at h3; exact h3)) h2
              · subst h4; exact join_new hY.s hc⟩
          · show th.toNat - (j + 1) < th.toNat - j; omega
          · exact ⟨rfl, rfl, rfl, rfl, rfl, rfl, trivial⟩
          · (try simp only [List.cons_append, List.nil_append]); exact Tf
         ·
          try simp only [Bool.and_eq_true, Bool.or_eq_true, Bool.not_eq_true', Bool.not_eq_false', Bool.and_eq_false_iff, Bool.or_eq_false_iff, decide_eq_true_eq, decide_eq_false_iff_not] at hjb
          refine q_skip rfl rfl rfl rfl ?_
          refine q_pick_f rfl rfl rfl rfl rfl ?_
          refine q_assign rfl rfl rfl rfl ?_
          refine r_done ?_
          refine s_keep [2, 3, 7, 11, 12, 13, 94, 95, 96, 97, 98, 99, 100, 101, 112] (e' := [(2, _), (3, _), (7, _), (11, _), (12, _), (13, _), (94, _), (95, _), (96, _), (97, _), (98, _), (99, _), (100, _), (101, _), (112, _)]) rfl ?_
          refine k_blk_n ?_
          refine k_then_n ?_
          refine c_plain (.q 0 (.q 1 (.q 2 (.done)))) (by kernel_rfl) ?_
          refine q_move rfl rfl rfl rfl ?_
          refine q_int rfl rfl rfl rfl rfl (b_add' _ (by exact fits_i64 (by omega) (by omega))) ?_
          refine q_assign rfl rfl rfl rfl ?_
          refine r_done ?_
          refine k_then_n ?_
          refine loop_next (x := (j, Y, jb)) ((j + 1, (heF Y 8 t ((j : Nat) : Int)), false)) ?_ ?_ ?_ ?_
          · try dsimp only
            exact ⟨by omega, g_more (g_next hY 8 t ((j : Nat) : Int)) (by omega), fun h u h0 h1 h2 h3 => by
              exact absurd h (by simp)⟩
          · show th.toNat - (j + 1) < th.toNat - j; omega
          · exact ⟨rfl, rfl, rfl, rfl, rfl, rfl, trivial⟩
          · (try simp only [List.cons_append, List.nil_append]); exact Tf
        ·
         refine c_skip ?_
         refine k_blk_n ?_
         refine k_then_n ?_
         refine c_plain (.q 0 (.q 1 (.q 2 (.done)))) (by kernel_rfl) ?_
         refine q_move rfl rfl rfl rfl ?_
         refine q_int rfl rfl rfl rfl rfl (b_add' _ (by exact fits_i64 (by omega) (by omega))) ?_
         refine q_assign rfl rfl rfl rfl ?_
         refine r_done ?_
         refine k_then_n ?_
         refine loop_next (x := (j, Y, jb)) ((j + 1, Y, jb)) ?_ ?_ ?_ ?_
         · try dsimp only
           exact ⟨by omega, g_more hY (by omega), fun h u h0 h1 h2 h3 => by
             rcases (show u < ((j : Nat) : Int) ∨ u = ((j : Nat) : Int) by omega) with h4 | h4
             · exact hJ h u h0 h4 h2 h3
             · subst h4
               first | exact absurd h2 hut | (rcases h3 with h3 | h3 <;> contradiction)⟩
         · show th.toNat - (j + 1) < th.toNat - j; omega
         · exact ⟨rfl, rfl, rfl, rfl, rfl, rfl, trivial⟩
         · (try simp only [List.cons_append, List.nil_append]); exact Tf
      ·
       refine q_skip rfl rfl rfl rfl ?_
       refine q_skip rfl rfl rfl rfl ?_
       refine q_skip rfl rfl rfl rfl ?_
       refine q_skip rfl rfl rfl rfl ?_
       refine q_skip rfl rfl rfl rfl ?_
       refine q_skip rfl rfl rfl rfl ?_
       refine q_skip rfl rfl rfl rfl ?_
       refine q_skip rfl rfl rfl rfl ?_
       refine q_pick_f rfl rfl rfl rfl rfl ?_
       refine r_done ?_
       refine s_keep [2, 3, 7, 11, 12, 13, 94, 95, 96, 97, 98, 99, 100, 101, 102] (e' := [(2, _), (3, _), (7, _), (11, _), (12, _), (13, _), (94, _), (95, _), (96, _), (97, _), (98, _), (99, _), (100, _), (101, _), (102, _)]) rfl ?_
       refine k_then_n ?_
       refine c_cond_f rfl ?_
       refine c_skip ?_
       refine k_blk_n ?_
       refine k_then_n ?_
       refine c_plain (.q 0 (.q 1 (.q 2 (.done)))) (by kernel_rfl) ?_
       refine q_move rfl rfl rfl rfl ?_
       refine q_int rfl rfl rfl rfl rfl (b_add' _ (by exact fits_i64 (by omega) (by omega))) ?_
       refine q_assign rfl rfl rfl rfl ?_
       refine r_done ?_
       refine k_then_n ?_
       refine loop_next (x := (j, Y, jb)) ((j + 1, Y, jb)) ?_ ?_ ?_ ?_
       · try dsimp only
         exact ⟨by omega, g_more hY (by omega), fun h u h0 h1 h2 h3 => by
           rcases (show u < ((j : Nat) : Int) ∨ u = ((j : Nat) : Int) by omega) with h4 | h4
           · exact hJ h u h0 h4 h2 h3
           · subst h4
             first | exact absurd h2 hut | (rcases h3 with h3 | h3 <;> contradiction)⟩
       · show th.toNat - (j + 1) < th.toNat - j; omega
       · exact ⟨rfl, rfl, rfl, rfl, rfl, rfl, trivial⟩
       · (try simp only [List.cons_append, List.nil_append]); exact Tf
     ·
      refine c_exit ?_
      refine k_then_exit ?_
      refine k_then_exit ?_
      refine k_blk_here ?_
      refine k_then_n ?_
      refine c_seq ?_
      refine c_plain (.q 0 (.q 1 (.q 2 (.q 3 ((.l 4 [] (.q 5 (.q 6 (.q 7 (.q 8 (.q 9 (.done)))))))))))) (by kernel_rfl) ?_
      refine q_move rfl rfl rfl rfl ?_
      refine q_move rfl rfl rfl rfl ?_
      refine q_move rfl rfl rfl rfl ?_
      refine q_build rfl rfl rfl rfl (vs := [_, _, _]) (run_buildS Try.underlying36 Try.zeroValue36 (ps := [(0, 1), (1, 1), (2, 1)]) ⟨rfl, Try.sizeOf34, rfl, Try.sizeOf3, rfl, Try.sizeOf3, trivial⟩ rfl) ?_
      have sp_15 := Hi.againstq_spec dpa dpc dpo dpoc d Y hY.s (by have := hY.n; omega) 2 t ((i : Nat) : Int)
      refine l_call rfl rfl rfl rfl rfl rfl Try.call13 (sp_15) Ts ?_
      rintro ⟨ga, gc⟩ -
      try simp only [List.cons_append, List.nil_append]
      refine ag_nil ?_
      refine q_move rfl rfl rfl rfl ?_
      refine q_extract rfl rfl rfl rfl rfl ?_
      refine q_extract rfl rfl rfl rfl rfl ?_
      refine q_assign rfl rfl rfl rfl ?_
      refine q_assign rfl rfl rfl rfl ?_
      refine r_done ?_
      refine s_keep [2, 3, 7, 11, 12, 17, 18] (e' := [(2, _), (3, _), (7, _), (11, _), (12, _), (17, _), (18, _)]) rfl ?_
      refine k_then_n ?_
      refine c_seq ?_
      refine c_plain (.q 0 (.q 1 (.q 2 ((.l 3 [] (.q 4 (.q 5 (.q 6 (.q 7 (.q 8 (.q 9 (.q 10 (.done))))))))))))) (by kernel_rfl) ?_
      refine q_move rfl rfl rfl rfl ?_
      refine q_move rfl rfl rfl rfl ?_
      refine s_bool 123 rfl (fun hjt => ?_) (fun hjt => ?_)
      ·
       try simp only [Bool.and_eq_true, Bool.or_eq_true, Bool.not_eq_true', Bool.not_eq_false', Bool.and_eq_false_iff, Bool.or_eq_false_iff, decide_eq_true_eq, decide_eq_false_iff_not] at hjt
       refine q_move rfl rfl rfl rfl ?_
       have sp_16 := num_spec (if canF Y.v.ck 2 t ((i : Nat) : Int) then 0 else 6)
       refine l_call rfl rfl rfl rfl rfl rfl Try.call10 (sp_16) Ts ?_
       rintro ⟨⟩ -
       try simp only [List.cons_append, List.nil_append]
       refine ag_nil ?_
       refine q_int rfl rfl rfl rfl rfl (b_eql _ _ _ _) ?_
       refine q_pick_t rfl rfl rfl rfl rfl ?_
       refine q_move rfl rfl rfl rfl ?_
       refine s_bool_p 128 rfl (fun hac => ?_) (fun hac => ?_)
       ·
        refine q_move rfl rfl rfl rfl ?_
        refine q_len rfl rfl rfl rfl Try.underlying23 ?_
        refine q_int rfl rfl rfl rfl rfl (b_neq _ _ _ _) ?_
        refine q_pick_t rfl rfl rfl rfl rfl ?_
        refine r_done ?_
        refine s_keep [2, 3, 7, 11, 124, 125, 126, 129, 130, 131, 132] (e' := [(2, _), (3, _), (7, _), (11, _), (124, _), (125, _), (126, _), (129, _), (130, _), (131, _), (132, _)]) rfl ?_
        refine k_then_n ?_
        refine c_cond_p rfl (fun hg => by exfalso; exact hg (by
          have hc : canF Y.v.ck 2 t ((i : Nat) : Int) := Classical.byContradiction fun hn => by rw [if_neg hn] at hac; exact absurd hac (by decide)
          rw [if_pos hc, none_against hY.s hY.k (fun u h0 h1 h2 h3 => hJ hjt u h0 (by rw [hY.th] at h1; omega) h2 h3)]; rfl)) (fun hg => ?_)
        refine c_skip ?_
        refine k_blk_n ?_
        refine k_then_n ?_
        refine c_plain (.q 0 (.q 1 (.q 2 (.done)))) (by kernel_rfl) ?_
        refine q_move rfl rfl rfl rfl ?_
        refine q_int rfl rfl rfl rfl rfl (b_add' _ (by exact fits_i64 (by omega) (by omega))) ?_
        refine q_assign rfl rfl rfl rfl ?_
        refine r_done ?_
        refine k_then_n ?_
        refine loop_next (x := (i, Y)) ((i + 1, Y)) ?_ ?_ ?_ ?_
        · try dsimp only
          exact ⟨by omega, g_more hY (by omega)⟩
        · show va.toNat - (i + 1) < va.toNat - i; omega
        · exact ⟨rfl, rfl, rfl, rfl, trivial⟩
        · (try simp only [List.cons_append, List.nil_append]); exact Tf
       ·
        refine q_skip rfl rfl rfl rfl ?_
        refine q_skip rfl rfl rfl rfl ?_
        refine q_skip rfl rfl rfl rfl ?_
        refine q_pick_f rfl rfl rfl rfl rfl ?_
        refine r_done ?_
        refine s_keep [2, 3, 7, 11, 124, 125, 126, 129, 130, 131, 132] (e' := [(2, _), (3, _), (7, _), (11, _), (124, _), (125, _), (126, _), (129, _), (130, _), (131, _), (132, _)]) rfl ?_
        refine k_then_n ?_
        refine c_cond_f rfl ?_
        refine c_skip ?_
        refine k_blk_n ?_
        refine k_then_n ?_
        refine c_plain (.q 0 (.q 1 (.q 2 (.done)))) (by kernel_rfl) ?_
        refine q_move rfl rfl rfl rfl ?_
        refine q_int rfl rfl rfl rfl rfl (b_add' _ (by exact fits_i64 (by omega) (by omega))) ?_
        refine q_assign rfl rfl rfl rfl ?_
        refine r_done ?_
        refine k_then_n ?_
        refine loop_next (x := (i, Y)) ((i + 1, Y)) ?_ ?_ ?_ ?_
        · try dsimp only
          exact ⟨by omega, g_more hY (by omega)⟩
        · show va.toNat - (i + 1) < va.toNat - i; omega
        · exact ⟨rfl, rfl, rfl, rfl, trivial⟩
        · (try simp only [List.cons_append, List.nil_append]); exact Tf
      ·
       try simp only [Bool.and_eq_true, Bool.or_eq_true, Bool.not_eq_true', Bool.not_eq_false', Bool.and_eq_false_iff, Bool.or_eq_false_iff, decide_eq_true_eq, decide_eq_false_iff_not] at hjt
       refine q_skip rfl rfl rfl rfl ?_
       refine l_skip rfl rfl rfl rfl ?_
       refine q_skip rfl rfl rfl rfl ?_
       refine q_pick_f rfl rfl rfl rfl rfl ?_
       refine q_move rfl rfl rfl rfl ?_
       refine q_skip rfl rfl rfl rfl ?_
       refine q_skip rfl rfl rfl rfl ?_
       refine q_skip rfl rfl rfl rfl ?_
       refine q_pick_f rfl rfl rfl rfl rfl ?_
       refine r_done ?_
       refine s_keep [2, 3, 7, 11, 124, 125, 126, 129, 130, 131, 132] (e' := [(2, _), (3, _), (7, _), (11, _), (124, _), (125, _), (126, _), (129, _), (130, _), (131, _), (132, _)]) rfl ?_
       refine k_then_n ?_
       refine c_cond_f rfl ?_
       refine c_skip ?_
       refine k_blk_n ?_
       refine k_then_n ?_
       refine c_plain (.q 0 (.q 1 (.q 2 (.done)))) (by kernel_rfl) ?_
       refine q_move rfl rfl rfl rfl ?_
       refine q_int rfl rfl rfl rfl rfl (b_add' _ (by exact fits_i64 (by omega) (by omega))) ?_
       refine q_assign rfl rfl rfl rfl ?_
       refine r_done ?_
       refine k_then_n ?_
       refine loop_next (x := (i, Y)) ((i + 1, Y)) ?_ ?_ ?_ ?_
       · try dsimp only
         exact ⟨by omega, g_more hY (by omega)⟩
       · show va.toNat - (i + 1) < va.toNat - i; omega
       · exact ⟨rfl, rfl, rfl, rfl, trivial⟩
       · (try simp only [List.cons_append, List.nil_append]); exact Tf
    ·
     refine c_exit ?_
     refine k_then_exit ?_
     refine k_then_exit ?_
     refine k_blk_here ?_
     refine k_then_n ?_
     refine c_seq ?_
     refine c_plain (.q 0 (.done)) (by kernel_rfl) ?_
     refine q_assign rfl rfl rfl rfl ?_
     refine r_done ?_
     refine s_keep [6] (e' := [(6, _)]) rfl ?_
     refine k_then_n ?_
     refine c_ret ?_
     refine ret1 rfl rfl (()) (by first | rfl | (first | rfl | (congr 1; done) | (congr 1 <;> first | rfl | omega | (simp; done) | (simp; omega)))) (by trivial) ?_
     exact Tf
theorem joined_bad (th va vo lk : Int) (pl : List Int) (ao : Option Addr) (n c : Nat) (A : HProp) (hr : RdS A ao (pl.flatMap encZ)) (hn : pl.length = n) (hb : n ≤ 4000000) (es : List T3) (eo : Option Addr) (m ec : Nat) (he : RdS A eo (es.flatMap enc3)) (hm : es.length = m) (hmb : m ≤ 4000000) (t : Int) (hok : ¬ OkS th va vo lk pl) : Spec Try.prog 4 [.agg #[.int .i64 th, .int .i64 va, .int .i64 vo, .int .i64 lk, .slice ao n c], .slice eo m ec, .int .i64 t] [A] (fun (_ : Unit) => .bool true) (fun _ => True) (fun _ => [A]) := by
 refine spec_mk (n := 133) Try.func4 rfl rfl rfl ?_
 intro Γ w0
 simp only [argE, List.cons_append, List.nil_append, Nat.zero_add, Nat.reduceAdd]
 refine c_seq ?_
 refine c_plain ((.l 0 [] (.q 1 (.done)))) (by kernel_rfl) ?_
 refine l_box rfl rfl rfl rfl (us := [_, _, _, _, _]) rfl ?_
 intro b3
 refine ag_nil ?_
 refine q_assign rfl rfl rfl rfl ?_
 refine r_done ?_
 refine k_then_n ?_
 refine c_seq ?_
 refine c_seq ?_
 refine c_plain ((.l 0 [] (.q 1 (.q 2 (.q 3 (.q 4 ((.l 5 [] (.q 6 (.q 7 (.done))))))))))) (by kernel_rfl) ?_
 have sp_1 := works_spec
 refine l_call rfl rfl rfl rfl rfl rfl Try.call7 (sp_1) Ts ?_
 rintro ⟨⟩ -
 try simp only [List.cons_append, List.nil_append]
 refine ag_nil ?_
 refine q_not rfl rfl rfl rfl ?_
 refine s_eq 20 rfl (v' := .bool false) rfl ?_
 refine q_move rfl rfl rfl rfl ?_
 refine q_loadN_c rfl rfl rfl rfl Try.isAgg25 Try.sizeOf25 Tk 0 (us := [_, _, _, _, _]) (by first | rfl | exact (Nat.add_zero _).symm) rfl rfl ?_
 refine q_move rfl rfl rfl rfl ?_
 have sp_2 := small_spec th va vo lk ao n c eo m ec
 refine l_call rfl rfl rfl rfl rfl rfl Try.call8 (sp_2) Ts ?_
 rintro ⟨⟩ -
 try simp only [List.cons_append, List.nil_append]
 refine ag_nil ?_
 refine q_not rfl rfl rfl rfl ?_
 refine q_pick_f rfl rfl rfl rfl rfl ?_
 refine r_done ?_
 refine s_keep [1, 2, 3, 26] (e' := [(1, _), (2, _), (3, _), (26, _)]) rfl ?_
 refine k_then_n ?_
 refine c_cond_np rfl (fun hsm => ?_) (fun hsm => ?_)
 ·
  refine c_seq ?_
  refine c_plain ((.l 0 [] (.q 1 (.done)))) (by kernel_rfl) ?_
  have sp_3 := works_spec
  refine l_call rfl rfl rfl rfl rfl rfl Try.call7 (sp_3) Ts ?_
  rintro ⟨⟩ -
  try simp only [List.cons_append, List.nil_append]
  refine ag_nil ?_
  refine q_assign rfl rfl rfl rfl ?_
  refine r_done ?_
  refine s_keep [6] (e' := [(6, _)]) rfl ?_
  refine k_then_n ?_
  refine c_ret ?_
  refine k_then_ret ?_
  refine ret1 rfl rfl (()) (by first | rfl | (first | rfl | (congr 1; done) | (congr 1 <;> first | rfl | omega | (simp; done) | (simp; omega)))) (by trivial) ?_
  exact Tf
 ·
  refine c_skip ?_
  refine k_then_n ?_
  refine c_seq ?_
  refine c_plain (.q 0 ((.l 1 [] (.q 2 (.q 3 (.q 4 (.q 5 (.q 6 (.done))))))))) (by kernel_rfl) ?_
  refine q_loadN_c rfl rfl rfl rfl Try.isAgg25 Try.sizeOf25 Tk 0 (us := [_, _, _, _, _]) (by first | rfl | exact (Nat.add_zero _).symm) rfl rfl ?_
  have sp_4 := Hi.newbad_spec th va vo lk pl ao n c A (hr) (by first | rfl | assumption | omega | (simp; done) | (simp; omega)) (by omega) hok
  refine l_call rfl rfl rfl rfl rfl rfl Try.call9 (sp_4) Ts ?_
  rintro ⟨⟩ -
  try simp only [List.cons_append, List.nil_append]
  refine ag_nil ?_
  refine q_move rfl rfl rfl rfl ?_
  refine q_extract rfl rfl rfl rfl rfl ?_
  refine q_extract rfl rfl rfl rfl rfl ?_
  refine q_assign rfl rfl rfl rfl ?_
  refine q_assign rfl rfl rfl rfl ?_
  refine r_done ?_
  refine s_keep [1, 2, 3, 7, 8] (e' := [(1, _), (2, _), (3, _), (7, _), (8, _)]) rfl ?_
  refine k_then_n ?_
  refine c_seq ?_
  refine c_seq ?_
  refine c_plain (.q 0 ((.l 1 [] (.q 2 (.done))))) (by kernel_rfl) ?_
  refine q_move rfl rfl rfl rfl ?_
  have sp_5 := num_spec 5
  refine l_call rfl rfl rfl rfl rfl rfl Try.call10 (sp_5) Ts ?_
  rintro ⟨⟩ -
  try simp only [List.cons_append, List.nil_append]
  refine ag_nil ?_
  refine q_int rfl rfl rfl rfl rfl (b_neq _ _ _ _) ?_
  refine s_eq 35 rfl (v' := .bool true) (by first | rfl | simp) ?_
  refine r_done ?_
  refine k_then_n ?_
  refine c_cond_t rfl ?_
  refine c_seq ?_
  refine c_plain (.q 0 (.q 1 (.q 2 (.done)))) (by kernel_rfl) ?_
  refine q_move rfl rfl rfl rfl ?_
  refine q_eq_nil rfl rfl rfl rfl Try.underlying28 ?_
  refine s_eq 37 rfl (v' := .bool true) rfl ?_
  refine q_assign rfl rfl rfl rfl ?_
  refine r_done ?_
  refine s_keep [6] (e' := [(6, _)]) rfl ?_
  refine k_then_n ?_
  refine c_ret ?_
  refine k_then_ret ?_
  refine ret1 rfl rfl (()) (by first | rfl | (first | rfl | (congr 1; done) | (congr 1 <;> first | rfl | omega | (simp; done) | (simp; omega)))) (by trivial) ?_
  exact Tf
theorem joined_spec (th va vo lk : Int) (pl : List Int) (ao : Option Addr) (n c : Nat) (A : HProp) (hr : RdS A ao (pl.flatMap encZ)) (hn : pl.length = n) (hb : n ≤ 4000000) (es : List T3) (eo : Option Addr) (m ec : Nat) (he : RdS A eo (es.flatMap enc3)) (hm : es.length = m) (hmb : m ≤ 4000000) (t : Int) : Spec Try.prog 4 [.agg #[.int .i64 th, .int .i64 va, .int .i64 vo, .int .i64 lk, .slice ao n c], .slice eo m ec, .int .i64 t] [A] (fun (_ : Unit) => .bool true) (fun _ => True) (fun _ => [A]) := by
  by_cases hok : OkS th va vo lk pl
  · exact joined_ok th va vo lk pl ao n c A hr hn hb es eo m ec he hm hmb t hok
  · exact joined_bad th va vo lk pl ao n c A hr hn hb es eo m ec he hm hmb t hok
end Go.Ab.Hi
set_option linter.unusedVariables false
set_option linter.unusedSimpArgs false
namespace Go.Proofs.Ytiefkbajaffgcaa.frame
open Go Go.Ab Go.ChangeShapes Go.WideShapes Go.ChangeAt Go.RowKit
/-! The bound. -/
theorem one_le {H : Type} (d : DataW H) : 1 ≤ Rows.uptoBulk d := by
  cases d with
  | lit l => cases l <;> simp [Rows.uptoBulk]
  | nil => simp [Rows.uptoBulk]
  | ptr d => simp [Rows.uptoBulk]
  | slice elems spare => simp [Rows.uptoBulk]
  | agg parts => simp [Rows.uptoBulk]
  | iface t d => simp [Rows.uptoBulk]
  | map entries => simp [Rows.uptoBulk]
  | held h => simp [Rows.uptoBulk]
theorem part_le {H : Type} {d : DataW H} {l : List (DataW H)} (h : d ∈ l) : Rows.uptoBulk d ≤ Rows.uptoBulkAll l := by
  induction l with
  | nil => cases h
  | cons x r ih =>
    simp only [Rows.uptoBulkAll]
    cases List.mem_cons.1 h with
    | inl e => subst e; omega
    | inr e => have := ih e; omega
theorem length_le {H : Type} (l : List (DataW H)) : l.length ≤ Rows.uptoBulkAll l := by
  induction l with
  | nil => simp [Rows.uptoBulkAll]
  | cons x r ih => have := one_le x; simp only [Rows.uptoBulkAll, List.length_cons]; omega
theorem bound {H : Type} {l : List (DataW H)} (hk : Rows.uptoSmall H l = true) : Rows.uptoBulkAll l ≤ 1048576 := of_decide_eq_true hk
theorem bound_mem {H : Type} {l : List (DataW H)} {d : DataW H} (hk : Rows.uptoSmall H l = true) (h : d ∈ l) : Rows.uptoBulk d ≤ 1048576 := Nat.le_trans (part_le h) (bound hk)
theorem bulk_slice {H : Type} {es rs : List (DataW H)} {d : DataW H} (h : d ∈ es) : Rows.uptoBulk d ≤ Rows.uptoBulk (.slice es rs) := by
  have := part_le h
  simp only [Rows.uptoBulk]; omega
theorem bulk_len {H : Type} (es rs : List (DataW H)) : es.length ≤ Rows.uptoBulk (.slice es rs) := by
  have := length_le es
  simp only [Rows.uptoBulk]; omega
/-! The arguments read behind the call as before. -/
theorem trodAll_below {H : Type} {enc : TypeId × Value → H} {P : Program} (hl : laidOutB P = true) {W W' : World} (hb : Below W.heap.size W W') : ∀ {ts : List TypeId} {vs : List Value} {ds : List (DataW H)} {ps : List MemPlace}, (∀ t ∈ ts, P.readableRec t = true ∧ t < P.types.size) →
    DataW.TrodAll enc P W 0 (fun _ => true) true ts vs ds ps → (∀ x ∈ ps, x.block < W.heap.size) → DataW.TrodAll enc P W' 0 (fun b => decide (b < W.heap.size)) true ts vs ds ps
  | [], [], [], _, _, h, _ => h
  | t :: ts, v :: vs, d :: ds, ps, hr, ⟨p, q, h, hs, e⟩, hlt => by
    subst e
    exact ⟨p, q, Below.trod hl (hr t (by simp)).1 (hr t (by simp)).2 h hb (fun x hx => hlt x (List.mem_append_left _ hx)), trodAll_below hl hb (fun t ht => hr t (List.mem_cons_of_mem _ ht)) hs (fun x hx => hlt x (List.mem_append_right _ hx)), rfl⟩
theorem law_post {H : Type} {enc : TypeId × Value → H} {P : Program} {f : Func} {s : ChangeSpec} {W W' : World} {args : Array Value} {ds gs : List (DataW H)} {before : List MemPlace} {tb : TypeId}
    (hl : laidOutB P = true) (hr : ∀ t ∈ f.params.toList, P.readableRec t = true ∧ t < P.types.size) (hvars : s.vars = []) (hres : f.resultTypes = #[tb]) (hb : P.underlying tb = some .bool)
    (hf : s.fn H (ds ++ gs) = { results := [.lit (.bool true)], args := ds, vars := [] }) (hW : DataW.Whole enc P f.params.toList s.vars false W args.toList ds gs before) (bel : Below W.heap.size W W') : s.post enc P f false true false false W args (.bool true) W' := by
  have hW' := hW
  obtain ⟨p, q, hA, hV, rfl, hfz, hnd⟩ := hW
  rw [hvars] at hV
  obtain ⟨rfl, rfl⟩ := trodVars_none hV
  have hA' : DataW.TrodAll enc P W 0 (fun _ => true) true f.params.toList args.toList ds p := hA
  refine ⟨ds, [], p ++ [], [], p, [], hW', ?_, ?_, ?_, bel.frame _, fun h => by cases h⟩
  · rw [hf, hres]
    exact trodAll_mk1 (shut_bool hb true)
  · rw [hf]
    exact trodAll_below hl bel hr hA' (fun x hx => hW'.lt x (List.mem_append_left _ hx))
  · rw [hf, hvars]
    exact rfl
theorem spec_calls {P : Program} {f : FuncId} {args : List Value} {W : World} (h : Ab.Spec P f args [base W] (fun (_ : Unit) => .bool true) (fun _ => True) (fun _ => [base W])) : Calls P f args.toArray W fun e W' => e = .returned (.bool true) ∧ Below W.heap.size W W' :=
  (h [] W (base_self W)).mono fun e w' ⟨_, e1, _, s, a⟩ => ⟨e1, below_of_base s a⟩
/-! Arguments are opened. -/
theorem spot_of_cell {W : World} {a : Addr} {v : Value} (h : W.cell? a = some v) : a.spot = none := by
  unfold World.cell? at h
  split at h
  · split at h
    · cases h
    · rename_i hs; simpa using hs
  · cases h
theorem choose_list {α : Type} : ∀ (n : Nat) (Q : Nat → α → Prop), (∀ i, i < n → ∃ x, Q i x) → ∃ xs : List α, xs.length = n ∧ ∀ i x, xs[i]? = some x → Q i x
  | 0, Q, _ => ⟨[], rfl, fun i x h => by simp at h⟩
  | n + 1, Q, h => by
    obtain ⟨xs, h1, h2⟩ := choose_list n Q (fun i hi => h i (by omega))
    obtain ⟨x, hx⟩ := h n (by omega)
    refine ⟨xs ++ [x], by simp [h1], fun i y hy => ?_⟩
    rcases Nat.lt_trichotomy i n with hi | hi | hi
    · rw [List.getElem?_append_left (by omega)] at hy; exact h2 i y hy
    · subst hi; rw [List.getElem?_append_right (by omega), h1, Nat.sub_self] at hy; simp at hy; subst hy; exact hx
    · rw [List.getElem?_eq_none (by simp; omega)] at hy; cases hy
theorem rdn_flat_mk {α : Type} {A : HProp} {b sz : Nat} {enc : α → List Value} (hsz : ∀ x, (enc x).length = sz) : ∀ (xs : List α) (o : Nat), (∀ i x, xs[i]? = some x → RdN A b (o + i * sz) (enc x)) → RdN A b o (xs.flatMap enc)
  | [], o, _ => fun i v h => by simp at h
  | x :: xs, o, h => fun i v hv => by
    rw [List.flatMap_cons] at hv
    by_cases hi : i < (enc x).length
    · rw [List.getElem?_append_left hi] at hv
      have := h 0 x rfl i v hv
      rwa [Nat.zero_mul, Nat.add_zero] at this
    · rw [List.getElem?_append_right (by omega), hsz] at hv
      rw [hsz] at hi
      have ih := rdn_flat_mk hsz xs (o + sz) (fun i y hy => by
        have := h (i + 1) y (by simpa using hy)
        rw [Nat.succ_mul] at this
        rwa [show o + sz + i * sz = o + (i * sz + sz) from by omega])
      have := ih (i - sz) v hv
      rwa [show o + sz + (i - sz) = o + i from by omega] at this
/-- A slice among what is read: its elements are opened by 'hel'. -/
theorem open_sl {α H : Type} {enc : TypeId × Value → H} {P : Program} {W : World} {t e : TypeId} {ao : Option Addr} {len cap sz fuel : Nat} {y : DataW H × List MemPlace} {enc' : α → List Value} {Q : α → DataW H → Prop} (ht : P.underlying t = some (.slice e)) (hc : P.cellsOf e = sz + 1) (hsz : ∀ x, (enc' x).length = sz + 1)
    (hel : ∀ n cs y, DataW.trod enc P W 0 (fun _ => true) true n e cs = some y → cs.length = sz + 1 → ∃ x : α, enc' x = cs ∧ Q x y.1)
    (h : DataW.trod enc P W 0 (fun _ => true) true fuel t [.slice ao len cap] = some y) :
    ∃ xs : List α, xs.length = len ∧ RdS (base W) ao (xs.flatMap enc') ∧ len ≤ cap ∧ cap ≤ maxLen ∧ xs.length ≤ Rows.uptoBulk y.1 ∧ (∀ x ∈ xs, ∃ d, Q x d ∧ Rows.uptoBulk d ≤ Rows.uptoBulk y.1) ∧ (ao = none → cap = 0) := by
  rcases DataW.trod_slice ht h with ⟨h1, h2⟩ | ⟨a, len', cap', elems, rest, n, -, h1, h2, -, hl, hm, hlen, hel', -⟩
  · simp only [List.cons.injEq, Value.slice.injEq, and_true] at h1
    obtain ⟨rfl, rfl, rfl⟩ := h1
    exact ⟨[], rfl, .inl rfl, Nat.le_refl _, Nat.zero_le _, Nat.zero_le _, fun _ h => (by cases h), fun _ => rfl⟩
  · simp only [List.cons.injEq, Value.slice.injEq, and_true] at h1
    obtain ⟨rfl, rfl, rfl⟩ := h1
    subst h2
    have key : ∀ i, i < len → ∃ x : α, ∃ cs y, W.cells? 0 (a.add (i * (sz + 1))) (sz + 1) = some cs ∧ elems[i]? = some y ∧ enc' x = cs ∧ Q x y.1 := by
      intro i hi
      have h3 := hel' i hi
      rw [List.getElem?_eq_getElem (by omega), hc, Option.bind_eq_some_iff] at h3
      obtain ⟨cs, h4, h5⟩ := h3
      have h6 := World.cells?_some h4
      obtain ⟨x, hx, hq⟩ := hel n cs _ h5 (by have := mapM_some_length (by unfold World.cells? at h4; rwa [if_pos (Nat.zero_le _)] at h4); simpa using this)
      exact ⟨x, cs, _, h4, List.getElem?_eq_getElem (by omega), hx, hq⟩
    obtain ⟨xs, hx1, hx2⟩ := choose_list len _ key
    have hcell : ∀ i x, xs[i]? = some x → ∀ j v, (enc' x)[j]? = some v → W.cell? ((a.add (i * (sz + 1))).add j) = some v := by
      intro i x hx j v hv
      obtain ⟨cs, y, h4, -, h5, -⟩ := hx2 i x hx
      subst h5
      unfold World.cells? at h4
      rw [if_pos (Nat.zero_le _)] at h4
      have hj : j < sz + 1 := by rw [← hsz x]; exact (List.getElem?_eq_some_iff.1 hv).1
      have := mapM_some_get h4 j j (by simp [hj])
      rw [this, hv]
    refine ⟨xs, hx1, ?_, hl, hm, ?_, ?_, fun h => by cases h⟩
    · cases hxs : xs with
      | nil => exact .inl rfl
      | cons x0 xs' =>
        obtain ⟨v0, hv0⟩ := get_lt (l := enc' x0) (i := 0) (by rw [hsz]; omega)
        have h6 := hcell 0 x0 (by rw [hxs]; rfl) 0 v0 hv0
        rw [Nat.zero_mul] at h6
        have hsp : a.spot = none := spot_of_cell (by simpa [Addr.add] using h6)
        obtain ⟨b, o, sp⟩ := a
        simp only at hsp
        subst hsp
        refine .inr ⟨b, o, rfl, ?_⟩
        rw [← hxs]
        refine rdn_flat_mk hsz xs o fun i x hx j v hv => rd_base ?_
        have := hcell i x hx j v hv
        rwa [add_none, add_none] at this
    · have := bulk_len (elems.map (·.1)) (rest.map (·.1))
      rw [List.length_map, hlen] at this
      rw [hx1]; exact this
    · intro x hx
      obtain ⟨i, hi⟩ := List.getElem?_of_mem hx
      obtain ⟨cs, y, -, h5, -, h7⟩ := hx2 i x hi
      exact ⟨y.1, h7, bulk_slice (List.mem_map_of_mem (List.mem_of_getElem? h5))⟩
/-- Whole arguments. -/
theorem arg_sl {α H : Type} {enc : TypeId × Value → H} {P : Program} {W : World} {t e : TypeId} {v : Value} {d : DataW H} {ps : List MemPlace} {bs sz : Nat} {enc' : α → List Value} {Q : α → DataW H → Prop} (ht : P.underlying t = some (.slice e)) (hc : P.cellsOf e = sz + 1) (hsz : ∀ x, (enc' x).length = sz + 1)
    (hel : ∀ n cs y, DataW.trod enc P W 0 (fun _ => true) true n e cs = some y → cs.length = sz + 1 → ∃ x : α, enc' x = cs ∧ Q x y.1)
    (hval : Value.okWide P W .any bs t v) (h : DataW.Trod enc P W 0 (fun _ => true) true t v d ps) :
    ∃ (xs : List α) (ao : Option Addr) (cap : Nat), v = .slice ao xs.length cap ∧ RdS (base W) ao (xs.flatMap enc') ∧ xs.length ≤ cap ∧ cap ≤ maxLen ∧ xs.length ≤ Rows.uptoBulk d ∧ (∀ x ∈ xs, ∃ y, Q x y ∧ Rows.uptoBulk y ≤ Rows.uptoBulk d) ∧ (ao = none → cap = 0) := by
  obtain ⟨ao, len, cap, rfl⟩ := okWide_slice ht hval
  obtain ⟨n, hn⟩ := h
  obtain ⟨xs, h1, h2, h3, h4, h5, h6, h7⟩ := open_sl ht hc hsz hel (y := (d, ps)) (by simpa [Value.cells] using hn)
  subst h1
  exact ⟨xs, ao, cap, rfl, h2, h3, h4, h5, h6, h7⟩
/-- A slice of an element of a slice. -/
theorem el_sl {α H : Type} {enc : TypeId × Value → H} {P : Program} {W : World} {t e : TypeId} {sz : Nat} {enc' : α → List Value} {Q : α → DataW H → Prop} (ht : P.underlying t = some (.slice e)) (hc : P.cellsOf e = sz + 1) (hsz : ∀ x, (enc' x).length = sz + 1)
    (hel : ∀ n cs y, DataW.trod enc P W 0 (fun _ => true) true n e cs = some y → cs.length = sz + 1 → ∃ x : α, enc' x = cs ∧ Q x y.1)
    (n : Nat) (cs : List Value) (y : DataW H × List MemPlace) (h : DataW.trod enc P W 0 (fun _ => true) true n t cs = some y) (hl : cs.length = 0 + 1) :
    ∃ x : LstA α, encH x = cs ∧ (RdS (base W) x.1 (x.2.2.flatMap enc') ∧ x.2.2.length ≤ Rows.uptoBulk y.1 ∧ (∀ z ∈ x.2.2, ∃ d, Q z d ∧ Rows.uptoBulk d ≤ Rows.uptoBulk y.1) ∧ x.2.2.length ≤ x.2.1) := by
  have h0 : ∃ ao len cap, cs = [.slice ao len cap] := by
    rcases DataW.trod_slice ht h with ⟨h1, -⟩ | ⟨a, len', cap', elems, rest, n, -, h1, -⟩
    · exact ⟨_, _, _, h1⟩
    · exact ⟨_, _, _, h1⟩
  obtain ⟨ao, len, cap, rfl⟩ := h0
  obtain ⟨xs, h1, h2, h3, h4, h5, h6, h7⟩ := open_sl ht hc hsz hel h
  subst h1
  exact ⟨(ao, cap, xs), rfl, h2, h5, h6, h3⟩
/-- An integer. -/
theorem el_int {H : Type} {enc : TypeId × Value → H} {P : Program} {W : World} {e : TypeId} {k : IntKind} (he : P.underlying e = some (.int k)) (n : Nat) (cs : List Value) (y : DataW H × List MemPlace) (h : DataW.trod enc P W 0 (fun _ => true) true n e cs = some y) (hl : cs.length = 0 + 1) : ∃ x : Int, [Value.int k x] = cs ∧ (Lit.int k x).wf = true := by
  obtain ⟨m, rfl, rfl, hw⟩ := DataW.trod_int he h
  exact ⟨m, rfl, hw⟩
end Go.Proofs.Ytiefkbajaffgcaa.frame
set_option linter.unusedVariables false
set_option linter.unusedSimpArgs false
namespace Go.Proofs.Ytiefkbajaffgcaa.frame
open Go Go.Ab Go.ChangeShapes Go.WideShapes Go.ChangeAt Go.RowKit
variable {α β H : Type} {enc : TypeId × Value → H} {P : Program} {W : World} {e : TypeId} {fs : Array Field} {m : Nat} {cs : List Value} {B : Nat}
/-- How an element of type e is opened. -/
abbrev El (enc : TypeId × Value → H) (P : Program) (W : World) (e : TypeId) (sz : Nat) (encA : α → List Value) (Q : α → DataW H → Prop) : Prop :=
  ∀ n cs y, DataW.trod enc P W 0 (fun _ => true) true n e cs = some y → cs.length = sz → ∃ x : α, encA x = cs ∧ Q x y.1
/-- What is known of the fields from i on. -/
def FR (enc : TypeId × Value → H) (P : Program) (W : World) (fs : Array Field) (m i : Nat) (cs : List Value) (B : Nat) : Prop :=
  ∀ j f, i ≤ j → fs[j]? = some f → ∃ y : DataW H × List MemPlace, DataW.trod enc P W 0 (fun _ => true) true m f.type ((cs.drop f.offset).take (P.cellsOf f.type)) = some y ∧ Rows.uptoBulk y.1 ≤ B
theorem fr_start {n : Nat} {y : DataW H × List MemPlace} (he : P.underlying e = some (.struct fs)) (h : DataW.trod enc P W 0 (fun _ => true) true n e cs = some y) : ∃ m, FR enc P W fs m 0 cs (Rows.uptoBulk y.1) := by
  obtain ⟨xs, m, -, hy, -, hxs, hf⟩ := DataW.trod_struct he h
  refine ⟨m, fun j f _ hj => ?_⟩
  have hlt : j < xs.length := by rw [hxs]; exact (Array.getElem?_eq_some_iff.1 hj).1
  have := hf j f hj
  rw [List.getElem?_eq_getElem hlt] at this
  refine ⟨_, this, ?_⟩
  rw [hy]
  have hp := part_le (l := xs.map (·.1)) (d := xs[j].1) (List.mem_map_of_mem (List.getElem_mem hlt))
  simp only [Rows.uptoBulk]
  omega
/-- Fields from i on, opened. -/
abbrev Fo (enc : TypeId × Value → H) (P : Program) (W : World) (fs : Array Field) (i off sz : Nat) (encA : α → List Value) (Q : α → Nat → Prop) : Prop :=
  ∀ m cs B, FR enc P W fs m i cs B → cs.length = off + sz → ∃ x : α, encA x = cs.drop off ∧ Q x B
theorem fo_last {i off sz : Nat} {f : Field} {encA : α → List Value} {Q : α → DataW H → Prop} (hf : fs[i]? = some f) (ho : f.offset = off) (hc : P.cellsOf f.type = sz) (el : El enc P W f.type sz encA Q) :
    Fo enc P W fs i off sz encA (fun x B => ∃ d, Q x d ∧ Rows.uptoBulk d ≤ B) := by
  intro m cs B h hl
  obtain ⟨y, hy, hb⟩ := h i f (Nat.le_refl _) hf
  rw [ho, hc, List.take_of_length_le (by rw [List.length_drop]; omega)] at hy
  obtain ⟨x, hx, hq⟩ := el m _ y hy (by rw [List.length_drop]; omega)
  exact ⟨x, hx, y.1, hq, hb⟩
theorem fo_cons {i off sz n : Nat} {f : Field} {encA : α → List Value} {Q : α → DataW H → Prop} {encB : β → List Value} {R : β → Nat → Prop} (hf : fs[i]? = some f) (ho : f.offset = off) (hc : P.cellsOf f.type = sz) (el : El enc P W f.type sz encA Q)
    (rest : Fo enc P W fs (i + 1) (off + sz) n encB R) : Fo enc P W fs i off (sz + n) (fun x : α × β => encA x.1 ++ encB x.2) (fun x B => (∃ d, Q x.1 d ∧ Rows.uptoBulk d ≤ B) ∧ R x.2 B) := by
  intro m cs B h hl
  obtain ⟨y, hy, hb⟩ := h i f (Nat.le_refl _) hf
  rw [ho, hc] at hy
  obtain ⟨x, hx, hq⟩ := el m _ y hy (by rw [List.length_take, List.length_drop]; omega)
  obtain ⟨z, hz, hr⟩ := rest m cs B (fun j g hj hg => h j g (by omega) hg) (by omega)
  refine ⟨(x, z), ?_, ⟨y.1, hq, hb⟩, hr⟩
  show encA x ++ encB z = _
  rw [hx, hz, ← List.drop_drop, List.take_append_drop]
theorem el_struct {sz : Nat} {encA : α → List Value} {Q : α → Nat → Prop} (he : P.underlying e = some (.struct fs)) (fo : Fo enc P W fs 0 0 sz encA Q) : El enc P W e sz encA (fun x d => Q x (Rows.uptoBulk d)) := by
  intro n cs y h hl
  obtain ⟨m, hm⟩ := fr_start he h
  obtain ⟨x, hx, hq⟩ := fo m cs _ hm (by omega)
  exact ⟨x, hx, hq⟩
/-- A struct handed in. -/
theorem arg_struct {t : TypeId} {v : Value} {d : DataW H} {ps : List MemPlace} {bs sz : Nat} {encA : α → List Value} {Q : α → DataW H → Prop} (ht : P.underlying t = some (.struct fs)) (hc : P.cellsOf t = sz) (el : El enc P W t sz encA Q)
    (hval : Value.okWide P W .any bs t v) (h : DataW.Trod enc P W 0 (fun _ => true) true t v d ps) : ∃ x : α, v = .agg (encA x).toArray ∧ Q x d := by
  obtain ⟨cs, rfl, hs⟩ := okWide_struct ht hval
  obtain ⟨n, hn⟩ := h
  obtain ⟨x, hx, hq⟩ := el n cs.toList (d, ps) (by simpa [Value.cells] using hn) (by simpa [hc] using hs)
  exact ⟨x, by rw [hx], hq⟩
end Go.Proofs.Ytiefkbajaffgcaa.frame
