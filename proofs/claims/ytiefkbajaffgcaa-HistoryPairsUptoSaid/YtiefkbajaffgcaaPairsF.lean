/- What the law Pairs rests on, part 6 of 6. -/
import Derived.Test.YtiefkbajaffgcaaPairsE
import Derived.Test.YtiefkbajaffgcaaRows
import Derived.WalkKit
import Derived.ProofKit
import Derived.OpenShut
import Derived.JoinedCond
import Derived.Carry
set_option linter.unusedVariables false
set_option linter.unusedSimpArgs false
set_option maxRecDepth 100000
namespace Go.Ab.DjO
open Go Go.Proofs Go.Ab Go.Ab.Fe Go.Ab.Ord
theorem rlenR_spec (b : Nat) (es : List T3) (rs : List Int) (hb : es.length ≤ 2048) : Spec Try.prog 66 [.pointer (some ⟨b, 0, none⟩)] [ordR b es rs] (fun (_ : Unit) => .int .i64 ((es.length : Nat) : Int)) (fun _ => True) (fun _ => [ordR b es rs]) := by
 refine spec_mk (n := 10) Try.func66 rfl rfl rfl ?_
 intro Γ w0
 simp only [argE, List.cons_append, List.nil_append, Nat.zero_add, Nat.reduceAdd]
 refine c_seq ?_
 refine c_plain (.q 0 (.done)) (by kernel_rfl) ?_
 refine q_assign rfl rfl rfl rfl ?_
 refine r_done ?_
 refine k_then_n ?_
 refine c_seq ?_
 refine c_seq ?_
 refine c_plain (.q 0 (.q 1 (.done))) (by kernel_rfl) ?_
 refine q_move rfl rfl rfl rfl ?_
 refine q_eq_nil rfl rfl rfl rfl Try.underlying45 ?_
 refine s_eq 4 rfl (v' := .bool false) rfl ?_
 refine r_done ?_
 refine k_then_n ?_
 refine c_cond_f rfl ?_
 refine c_skip ?_
 refine k_then_n ?_
 refine c_seq ?_
 refine s_take (A := ordR b es rs) Tk ?_
 refine ord_open fun ea ec ra rc ba bc G hGl hGq => ?_
 refine c_plain (.q 0 (.q 1 (.q 2 (.q 3 (.q 4 (.q 5 (.done))))))) (by kernel_rfl) ?_
 refine q_move rfl rfl rfl rfl ?_
 refine q_nil_p rfl rfl rfl rfl ?_
 refine q_field (k := 0) rfl rfl rfl rfl Try.underlying88 rfl Try.sizeOf26 rfl ?_
 refine q_load_c (j := 0) rfl rfl rfl rfl Try.isAgg26 Tk (by first | rfl | exact (Nat.add_zero _).symm) (by rfl) ?_
 refine q_len rfl rfl rfl rfl Try.underlying26 ?_
 refine q_assign rfl rfl rfl rfl ?_
 refine r_done ?_
 refine s_keep [2] (e' := [(2, _)]) rfl ?_
 refine k_then_n ?_
 refine c_ret ?_
 refine ord_fold (b := b) (es := es) (rs := rs) Ts rfl rfl rfl hGl hGq ?_
 refine ret1 rfl rfl (()) (by first | rfl | (first | rfl | (congr 1; done) | (congr 1 <;> first | rfl | omega | (simp; done) | (simp; omega)))) (by trivial) ?_
 exact Tf
theorem risR_spec (b : Nat) (es : List T3) (rs : List Int) (hb : es.length ≤ 2048) (z : Int) : Spec Try.prog 44 [.pointer (some ⟨b, 0, none⟩), .int .i64 z] [ordR b es rs] (fun (_ : Unit) => .bool (decide (0 ≤ z ∧ z < ((es.length : Nat) : Int)))) (fun _ => True) (fun _ => [ordR b es rs]) := by
 refine spec_mk (n := 13) Try.func44 rfl rfl rfl ?_
 intro Γ w0
 simp only [argE, List.cons_append, List.nil_append, Nat.zero_add, Nat.reduceAdd]
 refine c_seq ?_
 refine c_plain (.q 0 (.done)) (by kernel_rfl) ?_
 refine q_assign rfl rfl rfl rfl ?_
 refine r_done ?_
 refine k_then_n ?_
 refine c_seq ?_
 refine c_plain (.q 0 (.q 1 (.q 2 (.q 3 (.q 4 ((.l 5 [] (.q 6 (.q 7 (.q 8 (.done))))))))))) (by kernel_rfl) ?_
 refine q_move rfl rfl rfl rfl ?_
 refine q_int rfl rfl rfl rfl rfl (b_geq _ _ _ _) ?_
 refine q_move rfl rfl rfl rfl ?_
 refine s_bool_p 7 rfl (fun hz => ?_) (fun hz => ?_)
 ·
  refine q_move rfl rfl rfl rfl ?_
  refine q_move rfl rfl rfl rfl ?_
  have sp_1 := rlenR_spec b es rs hb
  refine l_call rfl rfl rfl rfl rfl rfl Try.call66 (sp_1) Ts ?_
  rintro ⟨⟩ -
  try simp only [List.cons_append, List.nil_append]
  refine ag_nil ?_
  refine q_int rfl rfl rfl rfl rfl (b_lss _ _ _ _) ?_
  refine q_pick_t rfl rfl rfl rfl rfl ?_
  refine q_assign rfl rfl rfl rfl ?_
  refine r_done ?_
  refine s_keep [4] (e' := [(4, _)]) rfl ?_
  refine k_then_n ?_
  refine c_ret ?_
  refine ret1 rfl rfl (()) (by congr 1; first | (rw [decide_eq_decide]; omega) | (symm; rw [decide_eq_false_iff_not]; omega)) (by trivial) ?_
  exact Tf
 ·
  refine q_skip rfl rfl rfl rfl ?_
  refine q_skip rfl rfl rfl rfl ?_
  refine l_skip rfl rfl rfl rfl ?_
  refine q_skip rfl rfl rfl rfl ?_
  refine q_pick_f rfl rfl rfl rfl rfl ?_
  refine q_assign rfl rfl rfl rfl ?_
  refine r_done ?_
  refine s_keep [4] (e' := [(4, _)]) rfl ?_
  refine k_then_n ?_
  refine c_ret ?_
  refine ret1 rfl rfl (()) (by congr 1; first | (rw [decide_eq_decide]; omega) | (symm; rw [decide_eq_false_iff_not]; omega)) (by trivial) ?_
  exact Tf
theorem access_spec (k t o : Int) : Spec Try.prog 45 [.agg #[.int .i64 k, .int .i64 t, .int .i64 o]] [] (fun (_ : Unit) => .bool (decide (k = 1 ∨ k = 2))) (fun _ => True) (fun _ => []) := by
 refine spec_mk (n := 11) Try.func45 rfl rfl rfl ?_
 intro Γ w0
 simp only [argE, List.cons_append, List.nil_append, Nat.zero_add, Nat.reduceAdd]
 refine c_seq ?_
 refine c_plain ((.l 0 [] (.q 1 (.done)))) (by kernel_rfl) ?_
 refine l_box rfl rfl rfl rfl (us := [_, _, _]) rfl ?_
 intro b1
 refine ag_nil ?_
 refine q_assign rfl rfl rfl rfl ?_
 refine r_done ?_
 refine k_then_n ?_
 refine c_seq ?_
 refine c_plain (.q 0 (.q 1 (.q 2 (.q 3 (.q 4 (.q 5 (.q 6 (.q 7 (.q 8 (.done)))))))))) (by kernel_rfl) ?_
 refine q_field (k := 0) rfl rfl rfl rfl Try.underlying36 rfl Try.sizeOf34 rfl ?_
 refine q_load_c (j := 0) rfl rfl rfl rfl Try.isAgg34 Tk (by first | rfl | exact (Nat.add_zero _).symm) (by rfl) ?_
 refine q_int rfl rfl rfl rfl rfl (b_eql _ _ _ _) ?_
 refine q_move rfl rfl rfl rfl ?_
 refine s_bool_p 6 rfl (fun h1 => ?_) (fun h1 => ?_)
 ·
  refine q_skip rfl rfl rfl rfl ?_
  refine q_skip rfl rfl rfl rfl ?_
  refine q_skip rfl rfl rfl rfl ?_
  refine q_pick_t rfl rfl rfl rfl rfl ?_
  refine q_assign rfl rfl rfl rfl ?_
  refine r_done ?_
  refine s_keep [2] (e' := [(2, _)]) rfl ?_
  refine k_then_n ?_
  refine c_ret ?_
  refine ret1 rfl rfl (()) (by congr 1; first | (symm; rw [decide_eq_true_eq]; omega) | (rw [decide_eq_decide]; omega)) (by trivial) ?_
  exact Tf
 ·
  refine q_field (k := 0) rfl rfl rfl rfl Try.underlying36 rfl Try.sizeOf34 rfl ?_
  refine q_load_c (j := 0) rfl rfl rfl rfl Try.isAgg34 Tk (by first | rfl | exact (Nat.add_zero _).symm) (by rfl) ?_
  refine q_int rfl rfl rfl rfl rfl (b_eql _ _ _ _) ?_
  refine q_pick_f rfl rfl rfl rfl rfl ?_
  refine q_assign rfl rfl rfl rfl ?_
  refine r_done ?_
  refine s_keep [2] (e' := [(2, _)]) rfl ?_
  refine k_then_n ?_
  refine c_ret ?_
  refine ret1 rfl rfl (()) (by congr 1; first | (symm; rw [decide_eq_true_eq]; omega) | (rw [decide_eq_decide]; omega)) (by trivial) ?_
  exact Tf
theorem orace_spec (b : Nat) (es : List T3) (rs : List Int) (hb : es.length ≤ 2048) (i j : Nat) (hij : i < j) (hj : j < es.length) (x y : T3) (hx : es[i]? = some x) (hy : es[j]? = some y) : Spec Try.prog 18 [.pointer (some ⟨b, 0, none⟩), .int .i64 ((i : Nat) : Int), .int .i64 ((j : Nat) : Int)] [ordR b es rs] (fun (_ : Unit) => .bool (raceB es (rf rs) i j)) (fun _ => True) (fun _ => [ordR b es rs]) := by
 refine spec_mk (n := 81) Try.func18 rfl rfl rfl ?_
 intro Γ w0
 simp only [argE, List.cons_append, List.nil_append, Nat.zero_add, Nat.reduceAdd]
 have hi : i < es.length := by omega
 refine c_seq ?_
 refine c_plain (.q 0 (.done)) (by kernel_rfl) ?_
 refine q_assign rfl rfl rfl rfl ?_
 refine r_done ?_
 refine k_then_n ?_
 refine c_seq ?_
 refine c_seq ?_
 refine c_plain (.q 0 (.q 1 ((.l 2 [] (.q 3 (.q 4 (.q 5 (.q 6 ((.l 7 [] (.q 8 (.q 9 (.q 10 (.q 11 (.q 12 (.q 13 (.q 14 (.done)))))))))))))))))) (by kernel_rfl) ?_
 refine q_move rfl rfl rfl rfl ?_
 refine q_move rfl rfl rfl rfl ?_
 have sp_1 := risR_spec b es rs hb (i : Int)
 refine l_call rfl rfl rfl rfl rfl rfl Try.call44 (sp_1) Ts ?_
 rintro ⟨⟩ -
 try simp only [List.cons_append, List.nil_append]
 refine ag_nil ?_
 refine q_not rfl rfl rfl rfl ?_
 refine q_move rfl rfl rfl rfl ?_
 refine s_bool_np 13 rfl (fun hg => by exfalso; omega) (fun hg => ?_)
 refine q_move rfl rfl rfl rfl ?_
 refine q_move rfl rfl rfl rfl ?_
 have sp_2 := risR_spec b es rs hb (j : Int)
 refine l_call rfl rfl rfl rfl rfl rfl Try.call44 (sp_2) Ts ?_
 rintro ⟨⟩ -
 try simp only [List.cons_append, List.nil_append]
 refine ag_nil ?_
 refine q_not rfl rfl rfl rfl ?_
 refine q_pick_f rfl rfl rfl rfl rfl ?_
 refine q_move rfl rfl rfl rfl ?_
 refine s_bool_np 19 rfl (fun hg => by exfalso; omega) (fun hg => ?_)
 refine q_move rfl rfl rfl rfl ?_
 refine q_move rfl rfl rfl rfl ?_
 refine q_int rfl rfl rfl rfl rfl (b_geq _ _ _ _) ?_
 refine q_pick_f rfl rfl rfl rfl rfl ?_
 refine r_done ?_
 refine s_keep [0, 1, 2, 23] (e' := [(0, _), (1, _), (2, _), (23, _)]) rfl ?_
 refine k_then_n ?_
 refine c_cond_p rfl (fun hg => by exfalso; omega) (fun hg => ?_)
 refine c_skip ?_
 refine k_then_n ?_
 refine c_seq ?_
 refine s_take (A := ordR b es rs) Tk ?_
 refine ord_open fun ea ec ra rc ba bc G hGl hGq => ?_
 obtain ⟨gj, hgj⟩ := get_lt (l := G) (i := i) (by omega)
 have hgv := hGq i gj hgj
 refine s_owA (sz := 1) (enc := encB) (T := G) Tk hgj fun ho1 ho2 => ?_
 have hrj : RdS (bigS (owA 1 encB) G) gj.1 ((mks (hbF es (rf rs) i) es.length).flatMap encB) := rds_big (f := owA 1 encB) (List.mem_of_getElem? hgj) (by rw [← hgv]; exact rds_own encB_len ho1 ho2)
 refine c_plain (.q 0 (.q 1 (.q 2 (.q 3 (.q 4 (.q 5 (.q 6 ((.l 7 [] ((.l 8 [] (.done)))))))))))) (by kernel_rfl) ?_
 refine q_move rfl rfl rfl rfl ?_
 refine q_nil_p rfl rfl rfl rfl ?_
 refine q_field (k := 0) rfl rfl rfl rfl Try.underlying88 rfl Try.sizeOf26 rfl ?_
 refine q_load_c (j := 0) rfl rfl rfl rfl Try.isAgg26 Tk (by first | rfl | exact (Nat.add_zero _).symm) (by rfl) ?_
 refine q_move rfl rfl rfl rfl ?_
 refine q_idxO (sz := 2) (k := i) (enc := enc3) (xs := es) rfl rfl rfl rfl rfl Try.underlying26 Try.sizeOf36 hx (by first | rfl | omega) (by omega) Tk ?_
 intro ib29 io29 ha29 hl29 hc29
 refine q_loadN_O (j := 0) (k' := i) (us := [_, _, _]) (enc := enc3) (off := io29) rfl rfl rfl rfl Try.isAgg36 Try.sizeOf36 ha29 enc3_len hx Tk (by first | rfl | exact (Nat.add_zero _).symm | omega) (by rfl) rfl ?_
 refine l_alloc rfl rfl rfl Try.zeroValue36 (zs := [.int .i64 0, .int .i64 0, .int .i64 0]) rfl ?_
 intro b7
 refine ag_nil ?_
 refine l_store (j := 0) rfl rfl rfl rfl Try.sizeOf36 (us := [_, _, _]) rfl rfl rfl Tk (by first | rfl | exact (Nat.add_zero _).symm) (by first | decide | (simp; done) | omega) ?_
 simp only [setL, List.set]
 refine ag_nil ?_
 refine r_done ?_
 refine s_keep [0, 1, 2, 7] (e' := [(0, _), (1, _), (2, _), (7, _)]) rfl ?_
 refine k_then_n ?_
 refine c_seq ?_
 refine c_plain (.q 0 (.q 1 (.q 2 (.q 3 (.q 4 (.q 5 (.q 6 ((.l 7 [] ((.l 8 [] (.done)))))))))))) (by kernel_rfl) ?_
 refine q_move rfl rfl rfl rfl ?_
 refine q_nil_p rfl rfl rfl rfl ?_
 refine q_field (k := 0) rfl rfl rfl rfl Try.underlying88 rfl Try.sizeOf26 rfl ?_
 refine q_load_c (j := 0) rfl rfl rfl rfl Try.isAgg26 Tk (by first | rfl | exact (Nat.add_zero _).symm) (by rfl) ?_
 refine q_move rfl rfl rfl rfl ?_
 refine q_idxO (sz := 2) (k := j) (enc := enc3) (xs := es) rfl rfl rfl rfl rfl Try.underlying26 Try.sizeOf36 hy (by first | rfl | omega) (by omega) Tk ?_
 intro ib36 io36 ha36 hl36 hc36
 refine q_loadN_O (j := 0) (k' := j) (us := [_, _, _]) (enc := enc3) (off := io36) rfl rfl rfl rfl Try.isAgg36 Try.sizeOf36 ha36 enc3_len hy Tk (by first | rfl | exact (Nat.add_zero _).symm | omega) (by rfl) rfl ?_
 refine l_alloc rfl rfl rfl Try.zeroValue36 (zs := [.int .i64 0, .int .i64 0, .int .i64 0]) rfl ?_
 intro b8
 refine ag_nil ?_
 refine l_store (j := 0) rfl rfl rfl rfl Try.sizeOf36 (us := [_, _, _]) rfl rfl rfl Tk (by first | rfl | exact (Nat.add_zero _).symm) (by first | decide | (simp; done) | omega) ?_
 simp only [setL, List.set]
 refine ag_nil ?_
 refine r_done ?_
 refine s_keep [0, 1, 2, 7, 8] (e' := [(0, _), (1, _), (2, _), (7, _), (8, _)]) rfl ?_
 refine k_then_n ?_
 refine c_seq ?_
 refine c_plain (.q 0 ((.l 1 [] (.q 2 (.q 3 ((.l 4 [] (.q 5 (.q 6 (.q 7 (.q 8 (.q 9 (.q 10 (.q 11 (.q 12 (.q 13 (.q 14 (.q 15 (.q 16 (.q 17 (.q 18 (.q 19 (.q 20 (.q 21 (.q 22 (.q 23 (.q 24 (.q 25 (.q 26 (.q 27 (.q 28 (.q 29 (.q 30 (.q 31 (.q 32 (.q 33 (.q 34 (.q 35 (.q 36 (.q 37 (.q 38 (.q 39 (.q 40 (.q 41 (.q 42 (.q 43 (.done))))))))))))))))))))))))))))))))))))))))))))))) (by kernel_rfl) ?_
 refine q_loadN_c rfl rfl rfl rfl Try.isAgg36 Try.sizeOf36 Tk 0 (us := [_, _, _]) (by first | rfl | exact (Nat.add_zero _).symm) rfl rfl ?_
 have sp_3 := access_spec x.1 x.2.1 x.2.2
 refine l_call rfl rfl rfl rfl rfl rfl Try.call45 (sp_3) Ts ?_
 rintro ⟨⟩ -
 try simp only [List.cons_append, List.nil_append]
 refine ag_nil ?_
 refine q_move rfl rfl rfl rfl ?_
 refine s_bool_p 40 rfl (fun h2 => ?_) (fun h2 => ?_)
 ·
  refine q_loadN_c rfl rfl rfl rfl Try.isAgg36 Try.sizeOf36 Tk 0 (us := [_, _, _]) (by first | rfl | exact (Nat.add_zero _).symm) rfl rfl ?_
  have sp_4 := access_spec y.1 y.2.1 y.2.2
  refine l_call rfl rfl rfl rfl rfl rfl Try.call45 (sp_4) Ts ?_
  rintro ⟨⟩ -
  try simp only [List.cons_append, List.nil_append]
  refine ag_nil ?_
  refine q_pick_t rfl rfl rfl rfl rfl ?_
  refine q_move rfl rfl rfl rfl ?_
  refine s_bool_p 44 rfl (fun h6 => ?_) (fun h6 => ?_)
  ·
   refine q_field (k := 2) rfl rfl rfl rfl Try.underlying36 rfl Try.sizeOf3 rfl ?_
   refine q_load_c (j := 2) rfl rfl rfl rfl Try.isAgg3 Tk (by first | rfl | exact (Nat.add_zero _).symm) (by rfl) ?_
   refine q_field (k := 2) rfl rfl rfl rfl Try.underlying36 rfl Try.sizeOf3 rfl ?_
   refine q_load_c (j := 2) rfl rfl rfl rfl Try.isAgg3 Tk (by first | rfl | exact (Nat.add_zero _).symm) (by rfl) ?_
   refine q_int rfl rfl rfl rfl rfl (b_eql _ _ _ _) ?_
   refine q_pick_t rfl rfl rfl rfl rfl ?_
   refine q_move rfl rfl rfl rfl ?_
   refine s_bool_p 51 rfl (fun h13 => ?_) (fun h13 => ?_)
   ·
    refine q_field (k := 1) rfl rfl rfl rfl Try.underlying36 rfl Try.sizeOf3 rfl ?_
    refine q_load_c (j := 1) rfl rfl rfl rfl Try.isAgg3 Tk (by first | rfl | exact (Nat.add_zero _).symm) (by rfl) ?_
    refine q_field (k := 1) rfl rfl rfl rfl Try.underlying36 rfl Try.sizeOf3 rfl ?_
    refine q_load_c (j := 1) rfl rfl rfl rfl Try.isAgg3 Tk (by first | rfl | exact (Nat.add_zero _).symm) (by rfl) ?_
    refine q_int rfl rfl rfl rfl rfl (b_neq _ _ _ _) ?_
    refine q_pick_t rfl rfl rfl rfl rfl ?_
    refine q_move rfl rfl rfl rfl ?_
    refine s_bool_p 58 rfl (fun h20 => ?_) (fun h20 => ?_)
    ·
     refine q_field (k := 0) rfl rfl rfl rfl Try.underlying36 rfl Try.sizeOf34 rfl ?_
     refine q_load_c (j := 0) rfl rfl rfl rfl Try.isAgg34 Tk (by first | rfl | exact (Nat.add_zero _).symm) (by rfl) ?_
     refine q_int rfl rfl rfl rfl rfl (b_eql _ _ _ _) ?_
     refine q_move rfl rfl rfl rfl ?_
     refine s_bool_p 62 rfl (fun h24 => ?_) (fun h24 => ?_)
     ·
      refine q_skip rfl rfl rfl rfl ?_
      refine q_skip rfl rfl rfl rfl ?_
      refine q_skip rfl rfl rfl rfl ?_
      refine q_pick_t rfl rfl rfl rfl rfl ?_
      refine q_pick_t rfl rfl rfl rfl rfl ?_
      refine q_move rfl rfl rfl rfl ?_
      refine q_move rfl rfl rfl rfl ?_
      refine q_nil_p rfl rfl rfl rfl ?_
      refine q_field (k := 2) rfl rfl rfl rfl Try.underlying88 rfl Try.sizeOf86 rfl ?_
      refine q_load_c (j := 2) rfl rfl rfl rfl Try.isAgg86 Tk (by first | rfl | exact (Nat.add_zero _).symm) (by rfl) ?_
      refine q_move rfl rfl rfl rfl ?_
      refine q_idxO (sz := 0) (k := i) (enc := encH) (xs := G) rfl rfl rfl rfl rfl Try.underlying86 Try.sizeOf100 hgj (by first | rfl | omega) (by omega) Tk ?_
      intro ib74 io74 ha74 hl74 hc74
      refine q_load_O (v := (.slice gj.1 gj.2.2.length gj.2.1)) (j := 0) (k' := i) (enc := encH) (off := io74) rfl rfl rfl rfl Try.isAgg100 ha74 encH_len hgj Tk (by first | rfl | exact (Nat.add_zero _).symm | omega) (by rfl) ?_
      refine q_move rfl rfl rfl rfl ?_
      have hk_5 : (mks (hbF es (rf rs) i) es.length)[j]? = some (hbF es (rf rs) i j) := (mks_get _ (by omega))
      refine q_idxR (sz := 0) (k := j) rfl rfl rfl rfl rfl Try.underlying100 Try.sizeOf4 (hrj) hk_5 encB_len (by first | rfl | omega) (by rw [hgv, mks_len]; omega) ?_
      intro ib77 io77 _ hd77
      refine q_load rfl rfl rfl rfl Try.isAgg4 Tk (hd77 0 (.bool (hbF es (rf rs) i j)) rfl) ?_
      refine q_not rfl rfl rfl rfl ?_
      refine q_pick_t rfl rfl rfl rfl rfl ?_
      refine q_assign rfl rfl rfl rfl ?_
      refine r_done ?_
      refine s_keep [6] (e' := [(6, _)]) rfl ?_
      refine k_then_n ?_
      refine c_ret ?_
      refine ord_fold (b := b) (es := es) (rs := rs) Ts rfl rfl rfl hGl hGq ?_
      refine ret1 rfl rfl (()) (by congr 1; first | (symm; rw [raceB_at hx hy hij, decide_eq_false (fun h => by unfold confP accP at h; omega), Bool.false_and]; done) | rw [raceB_at hx hy hij, decide_eq_true (by unfold confP accP; omega), Bool.true_and]) (by trivial) ?_
      exact Tf
     ·
      refine q_field (k := 0) rfl rfl rfl rfl Try.underlying36 rfl Try.sizeOf34 rfl ?_
      refine q_load_c (j := 0) rfl rfl rfl rfl Try.isAgg34 Tk (by first | rfl | exact (Nat.add_zero _).symm) (by rfl) ?_
      refine q_int rfl rfl rfl rfl rfl (b_eql _ _ _ _) ?_
      refine q_pick_f rfl rfl rfl rfl rfl ?_
      refine q_pick_t rfl rfl rfl rfl rfl ?_
      refine q_move rfl rfl rfl rfl ?_
      refine s_bool_p 68 rfl (fun h30 => ?_) (fun h30 => ?_)
      ·
       refine q_move rfl rfl rfl rfl ?_
       refine q_nil_p rfl rfl rfl rfl ?_
       refine q_field (k := 2) rfl rfl rfl rfl Try.underlying88 rfl Try.sizeOf86 rfl ?_
       refine q_load_c (j := 2) rfl rfl rfl rfl Try.isAgg86 Tk (by first | rfl | exact (Nat.add_zero _).symm) (by rfl) ?_
       refine q_move rfl rfl rfl rfl ?_
       refine q_idxO (sz := 0) (k := i) (enc := encH) (xs := G) rfl rfl rfl rfl rfl Try.underlying86 Try.sizeOf100 hgj (by first | rfl | omega) (by omega) Tk ?_
       intro ib74 io74 ha74 hl74 hc74
       refine q_load_O (v := (.slice gj.1 gj.2.2.length gj.2.1)) (j := 0) (k' := i) (enc := encH) (off := io74) rfl rfl rfl rfl Try.isAgg100 ha74 encH_len hgj Tk (by first | rfl | exact (Nat.add_zero _).symm | omega) (by rfl) ?_
       refine q_move rfl rfl rfl rfl ?_
       have hk_6 : (mks (hbF es (rf rs) i) es.length)[j]? = some (hbF es (rf rs) i j) := (mks_get _ (by omega))
       refine q_idxR (sz := 0) (k := j) rfl rfl rfl rfl rfl Try.underlying100 Try.sizeOf4 (hrj) hk_6 encB_len (by first | rfl | omega) (by rw [hgv, mks_len]; omega) ?_
       intro ib77 io77 _ hd77
       refine q_load rfl rfl rfl rfl Try.isAgg4 Tk (hd77 0 (.bool (hbF es (rf rs) i j)) rfl) ?_
       refine q_not rfl rfl rfl rfl ?_
       refine q_pick_t rfl rfl rfl rfl rfl ?_
       refine q_assign rfl rfl rfl rfl ?_
       refine r_done ?_
       refine s_keep [6] (e' := [(6, _)]) rfl ?_
       refine k_then_n ?_
       refine c_ret ?_
       refine ord_fold (b := b) (es := es) (rs := rs) Ts rfl rfl rfl hGl hGq ?_
       refine ret1 rfl rfl (()) (by congr 1; first | (symm; rw [raceB_at hx hy hij, decide_eq_false (fun h => by unfold confP accP at h; omega), Bool.false_and]; done) | rw [raceB_at hx hy hij, decide_eq_true (by unfold confP accP; omega), Bool.true_and]) (by trivial) ?_
       exact Tf
      ·
       refine q_skip rfl rfl rfl rfl ?_
       refine q_skip rfl rfl rfl rfl ?_
       refine q_skip rfl rfl rfl rfl ?_
       refine q_skip rfl rfl rfl rfl ?_
       refine q_skip rfl rfl rfl rfl ?_
       refine q_skip rfl rfl rfl rfl ?_
       refine q_skip rfl rfl rfl rfl ?_
       refine q_skip rfl rfl rfl rfl ?_
       refine q_skip rfl rfl rfl rfl ?_
       refine q_skip rfl rfl rfl rfl ?_
       refine q_skip rfl rfl rfl rfl ?_
       refine q_pick_f rfl rfl rfl rfl rfl ?_
       refine q_assign rfl rfl rfl rfl ?_
       refine r_done ?_
       refine s_keep [6] (e' := [(6, _)]) rfl ?_
       refine k_then_n ?_
       refine c_ret ?_
       refine ord_fold (b := b) (es := es) (rs := rs) Ts rfl rfl rfl hGl hGq ?_
       refine ret1 rfl rfl (()) (by congr 1; first | (symm; rw [raceB_at hx hy hij, decide_eq_false (fun h => by unfold confP accP at h; omega), Bool.false_and]; done) | rw [raceB_at hx hy hij, decide_eq_true (by unfold confP accP; omega), Bool.true_and]) (by trivial) ?_
       exact Tf
    ·
     refine q_skip rfl rfl rfl rfl ?_
     refine q_skip rfl rfl rfl rfl ?_
     refine q_skip rfl rfl rfl rfl ?_
     refine q_skip rfl rfl rfl rfl ?_
     refine q_skip rfl rfl rfl rfl ?_
     refine q_skip rfl rfl rfl rfl ?_
     refine q_skip rfl rfl rfl rfl ?_
     refine q_skip rfl rfl rfl rfl ?_
     refine q_pick_f rfl rfl rfl rfl rfl ?_
     refine q_move rfl rfl rfl rfl ?_
     refine q_skip rfl rfl rfl rfl ?_
     refine q_skip rfl rfl rfl rfl ?_
     refine q_skip rfl rfl rfl rfl ?_
     refine q_skip rfl rfl rfl rfl ?_
     refine q_skip rfl rfl rfl rfl ?_
     refine q_skip rfl rfl rfl rfl ?_
     refine q_skip rfl rfl rfl rfl ?_
     refine q_skip rfl rfl rfl rfl ?_
     refine q_skip rfl rfl rfl rfl ?_
     refine q_skip rfl rfl rfl rfl ?_
     refine q_skip rfl rfl rfl rfl ?_
     refine q_pick_f rfl rfl rfl rfl rfl ?_
     refine q_assign rfl rfl rfl rfl ?_
     refine r_done ?_
     refine s_keep [6] (e' := [(6, _)]) rfl ?_
     refine k_then_n ?_
     refine c_ret ?_
     refine ord_fold (b := b) (es := es) (rs := rs) Ts rfl rfl rfl hGl hGq ?_
     refine ret1 rfl rfl (()) (by congr 1; first | (symm; rw [raceB_at hx hy hij, decide_eq_false (fun h => by unfold confP accP at h; omega), Bool.false_and]; done) | rw [raceB_at hx hy hij, decide_eq_true (by unfold confP accP; omega), Bool.true_and]) (by trivial) ?_
     exact Tf
   ·
    refine q_skip rfl rfl rfl rfl ?_
    refine q_skip rfl rfl rfl rfl ?_
    refine q_skip rfl rfl rfl rfl ?_
    refine q_skip rfl rfl rfl rfl ?_
    refine q_skip rfl rfl rfl rfl ?_
    refine q_pick_f rfl rfl rfl rfl rfl ?_
    refine q_move rfl rfl rfl rfl ?_
    refine q_skip rfl rfl rfl rfl ?_
    refine q_skip rfl rfl rfl rfl ?_
    refine q_skip rfl rfl rfl rfl ?_
    refine q_skip rfl rfl rfl rfl ?_
    refine q_skip rfl rfl rfl rfl ?_
    refine q_skip rfl rfl rfl rfl ?_
    refine q_skip rfl rfl rfl rfl ?_
    refine q_skip rfl rfl rfl rfl ?_
    refine q_pick_f rfl rfl rfl rfl rfl ?_
    refine q_move rfl rfl rfl rfl ?_
    refine q_skip rfl rfl rfl rfl ?_
    refine q_skip rfl rfl rfl rfl ?_
    refine q_skip rfl rfl rfl rfl ?_
    refine q_skip rfl rfl rfl rfl ?_
    refine q_skip rfl rfl rfl rfl ?_
    refine q_skip rfl rfl rfl rfl ?_
    refine q_skip rfl rfl rfl rfl ?_
    refine q_skip rfl rfl rfl rfl ?_
    refine q_skip rfl rfl rfl rfl ?_
    refine q_skip rfl rfl rfl rfl ?_
    refine q_skip rfl rfl rfl rfl ?_
    refine q_pick_f rfl rfl rfl rfl rfl ?_
    refine q_assign rfl rfl rfl rfl ?_
    refine r_done ?_
    refine s_keep [6] (e' := [(6, _)]) rfl ?_
    refine k_then_n ?_
    refine c_ret ?_
    refine ord_fold (b := b) (es := es) (rs := rs) Ts rfl rfl rfl hGl hGq ?_
    refine ret1 rfl rfl (()) (by congr 1; first | (symm; rw [raceB_at hx hy hij, decide_eq_false (fun h => by unfold confP accP at h; omega), Bool.false_and]; done) | rw [raceB_at hx hy hij, decide_eq_true (by unfold confP accP; omega), Bool.true_and]) (by trivial) ?_
    exact Tf
  ·
   refine q_skip rfl rfl rfl rfl ?_
   refine q_skip rfl rfl rfl rfl ?_
   refine q_skip rfl rfl rfl rfl ?_
   refine q_skip rfl rfl rfl rfl ?_
   refine q_skip rfl rfl rfl rfl ?_
   refine q_pick_f rfl rfl rfl rfl rfl ?_
   refine q_move rfl rfl rfl rfl ?_
   refine q_skip rfl rfl rfl rfl ?_
   refine q_skip rfl rfl rfl rfl ?_
   refine q_skip rfl rfl rfl rfl ?_
   refine q_skip rfl rfl rfl rfl ?_
   refine q_skip rfl rfl rfl rfl ?_
   refine q_pick_f rfl rfl rfl rfl rfl ?_
   refine q_move rfl rfl rfl rfl ?_
   refine q_skip rfl rfl rfl rfl ?_
   refine q_skip rfl rfl rfl rfl ?_
   refine q_skip rfl rfl rfl rfl ?_
   refine q_skip rfl rfl rfl rfl ?_
   refine q_skip rfl rfl rfl rfl ?_
   refine q_skip rfl rfl rfl rfl ?_
   refine q_skip rfl rfl rfl rfl ?_
   refine q_skip rfl rfl rfl rfl ?_
   refine q_pick_f rfl rfl rfl rfl rfl ?_
   refine q_move rfl rfl rfl rfl ?_
   refine q_skip rfl rfl rfl rfl ?_
   refine q_skip rfl rfl rfl rfl ?_
   refine q_skip rfl rfl rfl rfl ?_
   refine q_skip rfl rfl rfl rfl ?_
   refine q_skip rfl rfl rfl rfl ?_
   refine q_skip rfl rfl rfl rfl ?_
   refine q_skip rfl rfl rfl rfl ?_
   refine q_skip rfl rfl rfl rfl ?_
   refine q_skip rfl rfl rfl rfl ?_
   refine q_skip rfl rfl rfl rfl ?_
   refine q_skip rfl rfl rfl rfl ?_
   refine q_pick_f rfl rfl rfl rfl rfl ?_
   refine q_assign rfl rfl rfl rfl ?_
   refine r_done ?_
   refine s_keep [6] (e' := [(6, _)]) rfl ?_
   refine k_then_n ?_
   refine c_ret ?_
   refine ord_fold (b := b) (es := es) (rs := rs) Ts rfl rfl rfl hGl hGq ?_
   refine ret1 rfl rfl (()) (by congr 1; first | (symm; rw [raceB_at hx hy hij, decide_eq_false (fun h => by unfold confP accP at h; omega), Bool.false_and]; done) | rw [raceB_at hx hy hij, decide_eq_true (by unfold confP accP; omega), Bool.true_and]) (by trivial) ?_
   exact Tf
 ·
  refine q_skip rfl rfl rfl rfl ?_
  refine l_skip rfl rfl rfl rfl ?_
  refine q_pick_f rfl rfl rfl rfl rfl ?_
  refine q_move rfl rfl rfl rfl ?_
  refine q_skip rfl rfl rfl rfl ?_
  refine q_skip rfl rfl rfl rfl ?_
  refine q_skip rfl rfl rfl rfl ?_
  refine q_skip rfl rfl rfl rfl ?_
  refine q_skip rfl rfl rfl rfl ?_
  refine q_pick_f rfl rfl rfl rfl rfl ?_
  refine q_move rfl rfl rfl rfl ?_
  refine q_skip rfl rfl rfl rfl ?_
  refine q_skip rfl rfl rfl rfl ?_
  refine q_skip rfl rfl rfl rfl ?_
  refine q_skip rfl rfl rfl rfl ?_
  refine q_skip rfl rfl rfl rfl ?_
  refine q_pick_f rfl rfl rfl rfl rfl ?_
  refine q_move rfl rfl rfl rfl ?_
  refine q_skip rfl rfl rfl rfl ?_
  refine q_skip rfl rfl rfl rfl ?_
  refine q_skip rfl rfl rfl rfl ?_
  refine q_skip rfl rfl rfl rfl ?_
  refine q_skip rfl rfl rfl rfl ?_
  refine q_skip rfl rfl rfl rfl ?_
  refine q_skip rfl rfl rfl rfl ?_
  refine q_skip rfl rfl rfl rfl ?_
  refine q_pick_f rfl rfl rfl rfl rfl ?_
  refine q_move rfl rfl rfl rfl ?_
  refine q_skip rfl rfl rfl rfl ?_
  refine q_skip rfl rfl rfl rfl ?_
  refine q_skip rfl rfl rfl rfl ?_
  refine q_skip rfl rfl rfl rfl ?_
  refine q_skip rfl rfl rfl rfl ?_
  refine q_skip rfl rfl rfl rfl ?_
  refine q_skip rfl rfl rfl rfl ?_
  refine q_skip rfl rfl rfl rfl ?_
  refine q_skip rfl rfl rfl rfl ?_
  refine q_skip rfl rfl rfl rfl ?_
  refine q_skip rfl rfl rfl rfl ?_
  refine q_pick_f rfl rfl rfl rfl rfl ?_
  refine q_assign rfl rfl rfl rfl ?_
  refine r_done ?_
  refine s_keep [6] (e' := [(6, _)]) rfl ?_
  refine k_then_n ?_
  refine c_ret ?_
  refine ord_fold (b := b) (es := es) (rs := rs) Ts rfl rfl rfl hGl hGq ?_
  refine ret1 rfl rfl (()) (by congr 1; first | (symm; rw [raceB_at hx hy hij, decide_eq_false (fun h => by unfold confP accP at h; omega), Bool.false_and]; done) | rw [raceB_at hx hy hij, decide_eq_true (by unfold confP accP; omega), Bool.true_and]) (by trivial) ?_
  exact Tf
theorem oall_spec (b : Nat) (es : List T3) (rs : List Int) (hb : es.length ≤ 2048) : Spec Try.prog 47 [.pointer (some ⟨b, 0, none⟩)] [ordR b es rs] (fun (r : Option Addr × Nat) => .slice r.1 (allL es (rf rs) es.length).length r.2) (fun r => True) (fun r => [ordR b es rs, own 3 enc3 r.1 r.2 (allL es (rf rs) es.length)]) := by
 refine spec_mk (n := 36) Try.func47 rfl rfl rfl ?_
 intro Γ w0
 simp only [argE, List.cons_append, List.nil_append, Nat.zero_add, Nat.reduceAdd]
 refine c_seq ?_
 refine c_plain (.q 0 (.done)) (by kernel_rfl) ?_
 refine q_assign rfl rfl rfl rfl ?_
 refine r_done ?_
 refine k_then_n ?_
 refine c_seq ?_
 refine c_plain (.q 0 (.done)) (by kernel_rfl) ?_
 refine q_assign rfl rfl rfl rfl ?_
 refine r_done ?_
 refine k_then_n ?_
 refine c_seq ?_
 refine c_seq ?_
 refine c_plain (.q 0 (.done)) (by kernel_rfl) ?_
 refine q_assign rfl rfl rfl rfl ?_
 refine r_done ?_
 refine k_then_n ?_
 refine c_block ?_
 refine s_heap (fun _ h => own_nil (sz := 3) (enc := enc3) h) ?_
 refine c_loop2 (α := Nat × Option Addr × Nat) (fun (x_ : Nat × Option Addr × Nat) => match x_ with | (j, ga, gc) => j ≤ es.length) (fun (x_ : Nat × Option Addr × Nat) => match x_ with | (j, ga, gc) => [(3, .slice ga ((allL es (rf rs) j).length) gc), (4, .int .i64 ((j : Nat) : Int))]) (fun (x_ : Nat × Option Addr × Nat) => match x_ with | (j, ga, gc) => [own 3 enc3 ga gc (allL es (rf rs) j)]) (fun (x_ : Nat × Option Addr × Nat) => match x_ with | (j, ga, gc) => es.length - j) [0] (er := [(0, _)]) rfl (0, none, 0) ?_ (by exact ⟨rfl, rfl, trivial⟩) (by (try dsimp only); rw [show allL es (rf rs) 0 = [] from rfl]; (repeat ((with_reducible apply Z2); focus (first | (with_reducible (repeat (first | exact Z0 | apply Z1)); done) | (repeat (first | exact Z0 | apply Z1))))); exact Z3) ?_
 · exact Nat.zero_le _
 rintro ⟨j, ga, gc⟩ hle_j
 try simp only [List.cons_append, List.nil_append]
 have hAl := allL_len (es := es) (R := rf rs) (m := j) (by omega)
 refine c_seq ?_
 refine c_seq ?_
 refine c_plain (.q 0 (.q 1 ((.l 2 [] (.q 3 (.done)))))) (by kernel_rfl) ?_
 refine q_move rfl rfl rfl rfl ?_
 refine q_move rfl rfl rfl rfl ?_
 have sp_1 := rlenR_spec b es rs hb
 refine l_call rfl rfl rfl rfl rfl rfl Try.call66 (sp_1) Ts ?_
 rintro ⟨⟩ -
 try simp only [List.cons_append, List.nil_append]
 refine ag_nil ?_
 refine q_int rfl rfl rfl rfl rfl (b_lss _ _ _ _) ?_
 refine r_done ?_
 refine k_then_n ?_
 refine c_cond_p rfl (fun hj => ?_) (fun hj => ?_)
 ·
  refine c_skip ?_
  refine k_then_n ?_
  refine c_seq ?_
  refine c_block ?_
  refine c_seq ?_
  refine c_plain (.q 0 (.done)) (by kernel_rfl) ?_
  refine q_assign rfl rfl rfl rfl ?_
  refine r_done ?_
  refine s_keep [0, 3, 4, 5] (e' := [(0, _), (3, _), (4, _), (5, _)]) rfl ?_
  refine k_then_n ?_
  refine c_block ?_
  refine s_eq 3 rfl (v' := .slice ga (allL es (rf rs) j ++ prs es (rf rs) j 0).length gc) (by rw [show prs es (rf rs) j 0 = [] from rfl, List.append_nil]) ?_
  refine c_loop2 (α := Nat × Option Addr × Nat) (fun (x_ : Nat × Option Addr × Nat) => match x_ with | (i, ha, hc) => i ≤ j) (fun (x_ : Nat × Option Addr × Nat) => match x_ with | (i, ha, hc) => [(3, .slice ha ((allL es (rf rs) j ++ prs es (rf rs) j i).length) hc), (5, .int .i64 ((i : Nat) : Int))]) (fun (x_ : Nat × Option Addr × Nat) => match x_ with | (i, ha, hc) => [own 3 enc3 ha hc (allL es (rf rs) j ++ prs es (rf rs) j i)]) (fun (x_ : Nat × Option Addr × Nat) => match x_ with | (i, ha, hc) => j - i) [0, 4] (er := [(0, _), (4, _)]) rfl (0, ga, gc) ?_ (by exact ⟨rfl, rfl, trivial⟩) (by (try dsimp only); rw [show prs es (rf rs) j 0 = [] from rfl, List.append_nil]; (repeat ((with_reducible apply Z2); focus (first | (with_reducible (repeat (first | exact Z0 | apply Z1)); done) | (repeat (first | exact Z0 | apply Z1))))); exact Z3) ?_
  · exact Nat.zero_le _
  rintro ⟨i, ha, hc⟩ hle_i
  try simp only [List.cons_append, List.nil_append]
  have hPl := prs_len (es := es) (R := rf rs) (j := j) (i := i)
  have hApl : (allL es (rf rs) j ++ prs es (rf rs) j i).length = (allL es (rf rs) j).length + (prs es (rf rs) j i).length := List.length_append
  obtain ⟨y, hy⟩ := get_lt (l := es) (i := j) (by omega)
  refine c_seq ?_
  refine c_seq ?_
  refine c_plain (.q 0 (.q 1 (.q 2 (.done)))) (by kernel_rfl) ?_
  refine q_move rfl rfl rfl rfl ?_
  refine q_move rfl rfl rfl rfl ?_
  refine q_int rfl rfl rfl rfl rfl (b_lss _ _ _ _) ?_
  refine r_done ?_
  refine k_then_n ?_
  refine c_cond_p rfl (fun hi => ?_) (fun hi => ?_)
  ·
   obtain ⟨x, hx⟩ := get_lt (l := es) (i := i) (by omega)
   refine c_skip ?_
   refine k_then_n ?_
   refine c_seq ?_
   refine c_block ?_
   refine c_seq ?_
   refine c_plain (.q 0 (.q 1 (.q 2 ((.l 3 [] (.done)))))) (by kernel_rfl) ?_
   refine q_move rfl rfl rfl rfl ?_
   refine q_move rfl rfl rfl rfl ?_
   refine q_move rfl rfl rfl rfl ?_
   have sp_2 := orace_spec b es rs hb i j (by omega) (by omega) x y hx hy
   refine l_call rfl rfl rfl rfl rfl rfl Try.call18 (sp_2) Ts ?_
   rintro ⟨⟩ -
   try simp only [List.cons_append, List.nil_append]
   refine ag_nil ?_
   refine r_done ?_
   refine s_keep [0, 3, 4, 5, 20] (e' := [(0, _), (3, _), (4, _), (5, _), (20, _)]) rfl ?_
   refine k_then_n ?_
   refine c_cond rfl (fun hr => ?_) (fun hr => ?_)
   ·
    try simp only [Bool.and_eq_true, Bool.or_eq_true, Bool.not_eq_true', Bool.not_eq_false', Bool.and_eq_false_iff, Bool.or_eq_false_iff, decide_eq_true_eq, decide_eq_false_iff_not] at hr
    refine s_take (A := ordR b es rs) Tk ?_
    refine ord_open fun ea ec ra rc ba bc G hGl hGq => ?_
    refine c_plain (.q 0 (.q 1 (.q 2 (.q 3 (.q 4 (.q 5 (.q 6 (.q 7 (.q 8 (.q 9 (.q 10 (.q 11 ((.l 12 [] ((.l 13 [] (.q 14 (.done)))))))))))))))))) (by kernel_rfl) ?_
    refine q_move rfl rfl rfl rfl ?_
    refine q_move rfl rfl rfl rfl ?_
    refine q_nil_p rfl rfl rfl rfl ?_
    refine q_field (k := 0) rfl rfl rfl rfl Try.underlying88 rfl Try.sizeOf26 rfl ?_
    refine q_load_c (j := 0) rfl rfl rfl rfl Try.isAgg26 Tk (by first | rfl | exact (Nat.add_zero _).symm) (by rfl) ?_
    refine q_move rfl rfl rfl rfl ?_
    refine q_idxO (sz := 2) (k := j) (enc := enc3) (xs := es) rfl rfl rfl rfl rfl Try.underlying26 Try.sizeOf36 hy (by first | rfl | omega) (by omega) Tk ?_
    intro ib27 io27 ha27 hl27 hc27
    refine q_field (k := 2) rfl rfl rfl rfl Try.underlying36 rfl Try.sizeOf3 rfl ?_
    refine q_load_O (v := (.int .i64 y.2.2)) (j := 2) (k' := j) (enc := enc3) (off := io27) rfl rfl rfl rfl Try.isAgg3 ha27 enc3_len hy Tk (by first | rfl | exact (Nat.add_zero _).symm | omega) (by rfl) ?_
    refine q_move rfl rfl rfl rfl ?_
    refine q_move rfl rfl rfl rfl ?_
    refine q_build rfl rfl rfl rfl (vs := [_, _, _]) (run_buildS Try.underlying56 Try.zeroValue56 (ps := [(0, 1), (1, 1), (2, 1)]) ⟨rfl, Try.sizeOf3, rfl, Try.sizeOf3, rfl, Try.sizeOf3, trivial⟩ rfl) ?_
    refine l_buildSlice rfl rfl rfl rfl (run_build1 (us := [_, _, _]) Try.underlying60 Try.sizeOf56 rfl Try.zeroValue56 rfl rfl rfl) ?_
    intro b33
    refine ag_nil ?_
    refine l_append (sz := 3) (enc := enc3) (xs := (allL es (rf rs) j ++ prs es (rf rs) j i)) rfl rfl rfl rfl rfl Try.underlying60 Try.typeInfo56 rfl rfl rfl (by decide) Tk Tk (by first | rfl | omega | (simp; done) | (simp; omega)) (ys := [(y.2.2, ((i : Nat) : Int), ((j : Nat) : Int))]) (rds_some rdn_cells) (by rfl) (by first | rfl | omega) (enc3_len) (enc3_one) (by omega) (by show _ * 24 ≤ _; omega) ?_
    intro ao34 cp34
    refine ag_nil ?_
    refine q_assign rfl rfl rfl rfl ?_
    refine r_done ?_
    refine ord_fold (b := b) (es := es) (rs := rs) Ts rfl rfl rfl hGl hGq ?_
    refine s_keep [0, 3, 4, 5] (e' := [(0, _), (3, _), (4, _), (5, _)]) rfl ?_
    refine k_blk_n ?_
    refine k_then_n ?_
    refine c_plain (.q 0 (.q 1 (.q 2 (.done)))) (by kernel_rfl) ?_
    refine q_move rfl rfl rfl rfl ?_
    refine q_int rfl rfl rfl rfl rfl (b_add' _ (by exact fits_i64 (by omega) (by omega))) ?_
    refine q_assign rfl rfl rfl rfl ?_
    refine r_done ?_
    refine k_then_n ?_
    have hnx : (allL es (rf rs) j ++ prs es (rf rs) j i) ++ [(y.2.2, ((i : Nat) : Int), ((j : Nat) : Int))] = (allL es (rf rs) j ++ prs es (rf rs) j (i + 1)) := by rw [prs_next, if_pos hr, ← List.append_assoc, show objN es j = y.2.2 from by rw [objN, getD_some hy]]
    rw [hnx]
    refine s_eq 3 rfl (v' := .slice ao34 (allL es (rf rs) j ++ prs es (rf rs) j (i + 1)).length cp34) (by congr 1; rw [← hnx]; simp [Nat.add_assoc]) ?_
    refine s_eq 3 rfl (v' := .slice ao34 ((allL es (rf rs) j ++ prs es (rf rs) j (i + 1)).length) cp34) (by first | rfl | (congr 1; done) | (congr 1 <;> first | rfl | omega | (simp; done) | (simp; omega))) ?_
    refine loop_next (x := (i, ha, hc)) ((i + 1, ao34, cp34)) ?_ ?_ ?_ ?_
    · try dsimp only
      show i + 1 ≤ j; omega
    · show j - (i + 1) < j - i; omega
    · exact ⟨rfl, rfl, rfl, rfl, trivial⟩
    · (try simp only [List.cons_append, List.nil_append]); exact Tf
   ·
    try simp only [Bool.and_eq_true, Bool.or_eq_true, Bool.not_eq_true', Bool.not_eq_false', Bool.and_eq_false_iff, Bool.or_eq_false_iff, decide_eq_true_eq, decide_eq_false_iff_not] at hr
    refine c_skip ?_
    refine k_blk_n ?_
    refine k_then_n ?_
    refine c_plain (.q 0 (.q 1 (.q 2 (.done)))) (by kernel_rfl) ?_
    refine q_move rfl rfl rfl rfl ?_
    refine q_int rfl rfl rfl rfl rfl (b_add' _ (by exact fits_i64 (by omega) (by omega))) ?_
    refine q_assign rfl rfl rfl rfl ?_
    refine r_done ?_
    refine k_then_n ?_
    have hnx : (allL es (rf rs) j ++ prs es (rf rs) j i) = (allL es (rf rs) j ++ prs es (rf rs) j (i + 1)) := by rw [prs_next, if_neg (by rw [hr]; decide), List.append_nil]
    rw [hnx]
    refine s_eq 3 rfl (v' := .slice ha ((allL es (rf rs) j ++ prs es (rf rs) j (i + 1)).length) hc) (by first | rfl | (congr 1; done) | (congr 1 <;> first | rfl | omega | (simp; done) | (simp; omega))) ?_
    refine loop_next (x := (i, ha, hc)) ((i + 1, ha, hc)) ?_ ?_ ?_ ?_
    · try dsimp only
      show i + 1 ≤ j; omega
    · show j - (i + 1) < j - i; omega
    · exact ⟨rfl, rfl, rfl, rfl, trivial⟩
    · (try simp only [List.cons_append, List.nil_append]); exact Tf
  ·
   obtain rfl : j = i := by omega
   rw [← allL_next]
   refine c_exit ?_
   refine k_then_exit ?_
   refine k_then_exit ?_
   refine k_blk_here ?_
   refine k_blk_n ?_
   refine k_then_n ?_
   refine c_plain (.q 0 (.q 1 (.q 2 (.done)))) (by kernel_rfl) ?_
   refine q_move rfl rfl rfl rfl ?_
   refine q_int rfl rfl rfl rfl rfl (b_add' _ (by exact fits_i64 (by omega) (by omega))) ?_
   refine q_assign rfl rfl rfl rfl ?_
   refine r_done ?_
   refine s_keep [0, 3, 4] (e' := [(0, _), (3, _), (4, _)]) rfl ?_
   refine k_then_n ?_
   refine s_eq 3 rfl (v' := .slice ha ((allL es (rf rs) (j + 1)).length) hc) (by first | rfl | (congr 1; done) | (congr 1 <;> first | rfl | omega | (simp; done) | (simp; omega))) ?_
   refine loop_next (x := (j, ga, gc)) ((j + 1, ha, hc)) ?_ ?_ ?_ ?_
   · try dsimp only
     show j + 1 ≤ es.length; omega
   · show es.length - (j + 1) < es.length - j; omega
   · exact ⟨rfl, rfl, rfl, trivial⟩
   · (try simp only [List.cons_append, List.nil_append]); exact Tf
 ·
  obtain rfl : j = es.length := by omega
  refine c_exit ?_
  refine k_then_exit ?_
  refine k_then_exit ?_
  refine k_blk_here ?_
  refine k_then_n ?_
  refine c_seq ?_
  refine c_plain (.q 0 (.q 1 (.done))) (by kernel_rfl) ?_
  refine q_move rfl rfl rfl rfl ?_
  refine q_assign rfl rfl rfl rfl ?_
  refine r_done ?_
  refine s_keep [2] (e' := [(2, _)]) rfl ?_
  refine k_then_n ?_
  refine c_ret ?_
  refine ret1 rfl rfl ((ga, gc)) (by first | rfl | (first | rfl | (congr 1; done) | (congr 1 <;> first | rfl | omega | (simp; done) | (simp; omega)))) (by trivial) ?_
  exact Tf
end Go.Ab.DjO
set_option linter.unusedVariables false
set_option linter.unusedSimpArgs false
set_option maxRecDepth 100000
namespace Go.Ab.Hi
open Go Go.Proofs Go.Ab Go.Ab.Fe Go.Ab.Vc Go.Ab.Dj Go.Ab.So Go.Ab.Ord Go.Ab.DjB
open Go.Ab.DjO (vEv vN vN_next vN_app clkF h_all raceB allL allL_len oall_spec)
def fV (v : Int) (l : List T3) : List T3 := l.filter (fun p => decide (p.1 = v))
theorem fV_next {v : Int} {l : List T3} {i : Nat} {p : T3} (h : l[i]? = some p) : fV v (l.take (i + 1)) = fV v (l.take i) ++ (if p.1 = v then [p] else []) := by
  unfold fV
  rw [List.take_add_one, h]
  simp only [Option.toList_some, List.filter_append]
  congr 1
  by_cases hw : p.1 = v <;> simp [hw]
theorem fV_len (v : Int) (l : List T3) : (fV v l).length ≤ l.length := List.length_filter_le _ _
theorem best_eq {xs : List T3} {b : T3} (h : xs[0]? = some b) : bestF xs = (List.foldl bestB b xs, true) := by
  cases xs with
  | nil => simp at h
  | cons a l => simp at h; subst h; rfl
theorem best_spec (xs : List T3) (ao : Option Addr) (n c : Nat) (A : HProp) (hr : RdS A ao (xs.flatMap enc3)) (hn : xs.length = n) (hb : n ≤ 4000000000) : Spec Try.prog 46 [.slice ao n c] [A] (fun (_ : Unit) => .tuple #[ev3 (bestF xs).1, .bool (bestF xs).2]) (fun _ => True) (fun _ => [A]) := by
 refine spec_mk (n := 32) Try.func46 rfl rfl rfl ?_
 intro Γ w0
 simp only [argE, List.cons_append, List.nil_append, Nat.zero_add, Nat.reduceAdd]
 refine c_seq ?_
 refine c_plain ((.l 0 [] (.q 1 (.done)))) (by kernel_rfl) ?_
 refine l_alloc rfl rfl rfl Try.zeroValue56 (zs := [.int .i64 0, .int .i64 0, .int .i64 0]) rfl ?_
 intro b2
 refine ag_nil ?_
 refine q_assign rfl rfl rfl rfl ?_
 refine r_done ?_
 refine k_then_n ?_
 refine c_seq ?_
 refine c_seq ?_
 refine c_plain (.q 0 (.q 1 (.q 2 (.done)))) (by kernel_rfl) ?_
 refine q_move rfl rfl rfl rfl ?_
 refine q_len rfl rfl rfl rfl Try.underlying60 ?_
 refine q_int rfl rfl rfl rfl rfl (b_eql _ _ _ _) ?_
 refine r_done ?_
 refine k_then_n ?_
 refine c_cond_p rfl (fun hz => ?_) (fun hz => ?_)
 ·
  have hx0 : xs = [] := List.eq_nil_of_length_eq_zero (by omega)
  refine c_seq ?_
  refine c_plain (.q 0 ((.l 1 [] (.q 2 (.done))))) (by kernel_rfl) ?_
  refine q_build rfl rfl rfl rfl (vs := [_, _, _]) (run_buildS Try.underlying56 Try.zeroValue56 (ps := [(0, 1), (1, 1), (2, 1)]) ⟨rfl, Try.sizeOf3, rfl, Try.sizeOf3, rfl, Try.sizeOf3, trivial⟩ rfl) ?_
  refine l_store (j := 0) rfl rfl rfl rfl Try.sizeOf56 (us := [_, _, _]) rfl rfl rfl Tk (by first | rfl | exact (Nat.add_zero _).symm) (by first | decide | (simp; done) | omega) ?_
  simp only [setL, List.set]
  refine ag_nil ?_
  refine q_assign rfl rfl rfl rfl ?_
  refine r_done ?_
  refine s_keep [2, 3] (e' := [(2, _), (3, _)]) rfl ?_
  refine k_then_n ?_
  refine c_ret ?_
  refine k_then_ret ?_
  refine retL (us := [_, _]) rfl ⟨rv_cellN rfl Try.isAgg56 Try.sizeOf56 Tk 0 rfl (us := [_, _, _]) rfl rfl, rv_tmp rfl, trivial⟩ (()) (by rw [hx0]; rfl) (by trivial) ?_
  exact Tf
 ·
  obtain ⟨b0, hb0⟩ := get_lt (l := xs) (i := 0) (by omega)
  refine c_skip ?_
  refine k_then_n ?_
  refine c_seq ?_
  refine c_plain (.q 0 (.q 1 (.q 2 ((.l 3 [] ((.l 4 [] (.done)))))))) (by kernel_rfl) ?_
  refine q_move rfl rfl rfl rfl ?_
  refine q_idxR (sz := 2) (k := 0) rfl rfl rfl rfl rfl Try.underlying60 Try.sizeOf56 (hr) hb0 enc3_len (by first | rfl | omega) (by omega) ?_
  intro ib11 io11 _ hd11
  refine q_loadN (vs := [_, _, _]) rfl rfl rfl rfl Try.isAgg56 Try.sizeOf56 Tk (hd11) rfl ?_
  refine l_alloc rfl rfl rfl Try.zeroValue56 (zs := [.int .i64 0, .int .i64 0, .int .i64 0]) rfl ?_
  intro b4
  refine ag_nil ?_
  refine l_store (j := 0) rfl rfl rfl rfl Try.sizeOf56 (us := [_, _, _]) rfl rfl rfl Tk (by first | rfl | exact (Nat.add_zero _).symm) (by first | decide | (simp; done) | omega) ?_
  simp only [setL, List.set]
  refine ag_nil ?_
  refine r_done ?_
  refine s_keep [0, 2, 4] (e' := [(0, _), (2, _), (4, _)]) rfl ?_
  refine k_then_n ?_
  refine c_seq ?_
  refine c_seq ?_
  refine c_plain (.q 0 (.done)) (by kernel_rfl) ?_
  refine q_assign rfl rfl rfl rfl ?_
  refine r_done ?_
  refine k_then_n ?_
  refine c_block ?_
  refine c_loop2 (α := Nat) (fun (i : Nat) => i ≤ n) (fun (i : Nat) => [(5, .int .i64 ((i : Nat) : Int))]) (fun (i : Nat) => [cells b4 0 [.int .i64 ((List.foldl bestB b0 (xs.take i)).1), .int .i64 ((List.foldl bestB b0 (xs.take i)).2.1), .int .i64 ((List.foldl bestB b0 (xs.take i)).2.2)]]) (fun (i : Nat) => n - i) [0, 2, 4] (er := [(0, _), (2, _), (4, _)]) rfl (0) ?_ (by exact ⟨rfl, trivial⟩) (by (try dsimp only); rw [List.take_zero, show List.foldl bestB b0 [] = b0 from rfl]; (repeat ((with_reducible apply Z2); focus (first | (with_reducible (repeat (first | exact Z0 | apply Z1)); done) | (repeat (first | exact Z0 | apply Z1))))); exact Z3) ?_
  · exact Nat.zero_le _
  rintro i hle_i
  try simp only [List.cons_append, List.nil_append]
  refine c_seq ?_
  refine c_seq ?_
  refine c_plain (.q 0 (.q 1 (.q 2 (.q 3 (.done))))) (by kernel_rfl) ?_
  refine q_move rfl rfl rfl rfl ?_
  refine q_move rfl rfl rfl rfl ?_
  refine q_len rfl rfl rfl rfl Try.underlying60 ?_
  refine q_int rfl rfl rfl rfl rfl (b_lss _ _ _ _) ?_
  refine r_done ?_
  refine k_then_n ?_
  refine c_cond_p rfl (fun hlt => ?_) (fun hlt => ?_)
  ·
   refine c_skip ?_
   refine k_then_n ?_
   refine c_seq ?_
   refine c_block ?_
   refine c_seq ?_
   refine c_draw rfl (.q 0 (.q 1 (.q 2 (.q 3 (.q 4 (.q 5 (.q 6 (.q 7 (.done))))))))) (by kernel_rfl) ?_
   refine q_move rfl rfl rfl rfl ?_
   refine q_move rfl rfl rfl rfl ?_
   obtain ⟨x, hx⟩ := get_lt (l := xs) (i := i) (by first | omega | (simp; done) | (simp; omega))
   refine q_idxR (sz := 2) (k := i) rfl rfl rfl rfl rfl Try.underlying60 Try.sizeOf56 (hr) hx enc3_len (by first | rfl | omega) (by omega) ?_
   intro ib21 io21 _ hd21
   refine q_field (k := 2) rfl rfl rfl rfl Try.underlying56 rfl Try.sizeOf3 rfl ?_
   refine q_load rfl rfl rfl rfl Try.isAgg3 Tk (hd21 2 (.int .i64 x.2.2) rfl) ?_
   refine q_field (k := 2) rfl rfl rfl rfl Try.underlying56 rfl Try.sizeOf3 rfl ?_
   refine q_load_c (j := 2) rfl rfl rfl rfl Try.isAgg3 Tk (by first | rfl | exact (Nat.add_zero _).symm) (by rfl) ?_
   refine q_int rfl rfl rfl rfl rfl (b_eql _ _ _ _) ?_
   refine r_done ?_
   refine s_keep [0, 2, 4, 5, 26] (e' := [(0, _), (2, _), (4, _), (5, _), (26, _)]) rfl ?_
   refine k_then_n ?_
   refine c_cond_p rfl (fun hc => ?_) (fun hc => ?_)
   ·
    refine c_plain (.q 0 (.q 1 (.q 2 (.q 3 ((.l 4 [] (.done))))))) (by kernel_rfl) ?_
    refine q_move rfl rfl rfl rfl ?_
    refine q_move rfl rfl rfl rfl ?_
    refine q_idxR (sz := 2) (k := i) rfl rfl rfl rfl rfl Try.underlying60 Try.sizeOf56 (hr) hx enc3_len (by first | rfl | omega) (by omega) ?_
    intro ib29 io29 _ hd29
    refine q_loadN (vs := [_, _, _]) rfl rfl rfl rfl Try.isAgg56 Try.sizeOf56 Tk (hd29) rfl ?_
    refine l_store (j := 0) rfl rfl rfl rfl Try.sizeOf56 (us := [_, _, _]) rfl rfl rfl Tk (by first | rfl | exact (Nat.add_zero _).symm) (by first | decide | (simp; done) | omega) ?_
    simp only [setL, List.set]
    refine ag_nil ?_
    refine r_done ?_
    refine s_keep [0, 2, 4, 5] (e' := [(0, _), (2, _), (4, _), (5, _)]) rfl ?_
    refine k_blk_n ?_
    refine k_then_n ?_
    refine c_plain (.q 0 (.q 1 (.q 2 (.done)))) (by kernel_rfl) ?_
    refine q_move rfl rfl rfl rfl ?_
    refine q_int rfl rfl rfl rfl rfl (b_add' _ (by exact fits_i64 (by omega) (by omega))) ?_
    refine q_assign rfl rfl rfl rfl ?_
    refine r_done ?_
    refine k_then_n ?_
    have hb9 : List.foldl bestB b0 (xs.take (i + 1)) = x := by
      rw [take_next hx, List.foldl_append]
      show bestB _ x = _
      rw [bestB, if_pos hc]
    refine s_take (A := cells b4 0 [.int .i64 x.1, .int .i64 x.2.1, .int .i64 x.2.2]) Td ?_
    refine s_heap (Γ' := cells b4 0 [.int .i64 (List.foldl bestB b0 (xs.take (i + 1))).1, .int .i64 (List.foldl bestB b0 (xs.take (i + 1))).2.1, .int .i64 (List.foldl bestB b0 (xs.take (i + 1))).2.2] :: _) (fun _ h => (by rw [hb9]; exact h)) ?_
    refine loop_next (x := i) (i + 1) ?_ ?_ ?_ ?_
    · exact by show i + 1 ≤ n; omega
    · show n - (i + 1) < n - i; omega
    · exact ⟨rfl, rfl, rfl, rfl, trivial⟩
    · (try simp only [List.cons_append, List.nil_append]); exact Tf
   ·
    refine c_skip ?_
    refine k_blk_n ?_
    refine k_then_n ?_
    refine c_plain (.q 0 (.q 1 (.q 2 (.done)))) (by kernel_rfl) ?_
    refine q_move rfl rfl rfl rfl ?_
    refine q_int rfl rfl rfl rfl rfl (b_add' _ (by exact fits_i64 (by omega) (by omega))) ?_
    refine q_assign rfl rfl rfl rfl ?_
    refine r_done ?_
    refine k_then_n ?_
    have hb9 : List.foldl bestB b0 (xs.take (i + 1)) = (List.foldl bestB b0 (xs.take i)) := by
      rw [take_next hx, List.foldl_append]
      show bestB _ x = _
      rw [bestB, if_neg hc]
    rw [← hb9]
    refine loop_next (x := i) (i + 1) ?_ ?_ ?_ ?_
    · exact by show i + 1 ≤ n; omega
    · show n - (i + 1) < n - i; omega
    · exact ⟨rfl, rfl, rfl, rfl, trivial⟩
    · (try simp only [List.cons_append, List.nil_append]); exact Tf
  ·
   refine c_exit ?_
   refine k_then_exit ?_
   refine k_then_exit ?_
   refine k_blk_here ?_
   refine k_then_n ?_
   refine c_seq ?_
   refine c_plain (.q 0 ((.l 1 [] (.q 2 (.done))))) (by kernel_rfl) ?_
   refine q_loadN_c rfl rfl rfl rfl Try.isAgg56 Try.sizeOf56 Tk 0 (us := [_, _, _]) (by first | rfl | exact (Nat.add_zero _).symm) rfl rfl ?_
   refine l_store (j := 0) rfl rfl rfl rfl Try.sizeOf56 (us := [_, _, _]) rfl rfl rfl Tk (by first | rfl | exact (Nat.add_zero _).symm) (by first | decide | (simp; done) | omega) ?_
   simp only [setL, List.set]
   refine ag_nil ?_
   refine q_assign rfl rfl rfl rfl ?_
   refine r_done ?_
   refine s_keep [2, 3] (e' := [(2, _), (3, _)]) rfl ?_
   refine k_then_n ?_
   refine c_ret ?_
   obtain rfl : i = n := by omega
   rw [List.take_of_length_le (by omega)]
   refine retL (us := [_, _]) rfl ⟨rv_cellN rfl Try.isAgg56 Try.sizeOf56 Tk 0 rfl (us := [_, _, _]) rfl rfl, rv_tmp rfl, trivial⟩ (()) (by rw [best_eq hb0]; first | rfl | (rw [List.take_of_length_le (by omega)]; rfl)) (by trivial) ?_
   exact Tf
theorem races_spec (b : Nat) (es : List T3) (rs : List Int) (hb : es.length ≤ 2048) (v : Int) : Spec Try.prog 23 [.pointer (some ⟨b, 0, none⟩), .int .i64 v] [ordR b es rs] (fun (r : Option Addr × Nat) => .slice r.1 (rcV es (rf rs) v es.length).length r.2) (fun r => True) (fun r => [ordR b es rs, own 3 enc3 r.1 r.2 (rcV es (rf rs) v es.length)]) := by
 refine spec_mk (n := 31) Try.func23 rfl rfl rfl ?_
 intro Γ w0
 simp only [argE, List.cons_append, List.nil_append, Nat.zero_add, Nat.reduceAdd]
 refine c_seq ?_
 refine c_plain (.q 0 (.done)) (by kernel_rfl) ?_
 refine q_assign rfl rfl rfl rfl ?_
 refine r_done ?_
 refine k_then_n ?_
 refine c_seq ?_
 refine c_plain (.q 0 (.done)) (by kernel_rfl) ?_
 refine q_assign rfl rfl rfl rfl ?_
 refine r_done ?_
 refine k_then_n ?_
 refine c_seq ?_
 refine c_plain (.q 0 ((.l 1 [] (.q 2 (.done))))) (by kernel_rfl) ?_
 refine q_move rfl rfl rfl rfl ?_
 have sp_1 := oall_spec b es rs hb
 refine l_call rfl rfl rfl rfl rfl rfl Try.call47 (sp_1) Ts ?_
 rintro ⟨La, Lc⟩ -
 try simp only [List.cons_append, List.nil_append]
 refine ag_nil ?_
 have hLl := allL_len (es := es) (R := rf rs) (m := es.length) (by omega)
 obtain ⟨L, hL⟩ : ∃ y, y = allL es (rf rs) es.length := ⟨_, rfl⟩
 rw [← hL] at hLl ⊢
 refine q_assign rfl rfl rfl rfl ?_
 refine r_done ?_
 refine s_keep [1, 5, 6] (e' := [(1, _), (5, _), (6, _)]) rfl ?_
 refine k_then_n ?_
 refine c_seq ?_
 refine c_seq ?_
 refine c_plain (.q 0 (.done)) (by kernel_rfl) ?_
 refine q_assign rfl rfl rfl rfl ?_
 refine r_done ?_
 refine k_then_n ?_
 refine c_block ?_
 refine s_heap (fun _ h => own_nil (sz := 3) (enc := enc3) h) ?_
 refine c_loop2 (α := Nat × Option Addr × Nat) (fun (x_ : Nat × Option Addr × Nat) => match x_ with | (i, fa, fc) => i ≤ L.length) (fun (x_ : Nat × Option Addr × Nat) => match x_ with | (i, fa, fc) => [(5, .slice fa ((fV v (L.take i)).length) fc), (7, .int .i64 ((i : Nat) : Int))]) (fun (x_ : Nat × Option Addr × Nat) => match x_ with | (i, fa, fc) => [own 3 enc3 fa fc (fV v (L.take i))]) (fun (x_ : Nat × Option Addr × Nat) => match x_ with | (i, fa, fc) => L.length - i) [1, 6] (er := [(1, _), (6, _)]) rfl (0, none, 0) ?_ (by exact ⟨rfl, rfl, trivial⟩) (by (try dsimp only); rw [List.take_zero, show fV v [] = [] from rfl]; (repeat ((with_reducible apply Z2); focus (first | (with_reducible (repeat (first | exact Z0 | apply Z1)); done) | (repeat (first | exact Z0 | apply Z1))))); exact Z3) ?_
 · exact Nat.zero_le _
 rintro ⟨i, fa, fc⟩ hle_i
 try simp only [List.cons_append, List.nil_append]
 have hFl := fV_len v (L.take i)
 rw [List.length_take] at hFl
 refine c_seq ?_
 refine c_seq ?_
 refine c_plain (.q 0 (.q 1 (.q 2 (.q 3 (.done))))) (by kernel_rfl) ?_
 refine q_move rfl rfl rfl rfl ?_
 refine q_move rfl rfl rfl rfl ?_
 refine q_len rfl rfl rfl rfl Try.underlying60 ?_
 refine q_int rfl rfl rfl rfl rfl (b_lss _ _ _ _) ?_
 refine r_done ?_
 refine k_then_n ?_
 refine c_cond_p rfl (fun hlt => ?_) (fun hlt => ?_)
 ·
  obtain ⟨p, hp⟩ := get_lt (l := L) (i := i) (by omega)
  refine c_skip ?_
  refine k_then_n ?_
  refine c_seq ?_
  refine c_block ?_
  refine c_seq ?_
  refine c_plain (.q 0 (.q 1 (.q 2 (.q 3 (.q 4 (.q 5 (.q 6 (.done)))))))) (by kernel_rfl) ?_
  refine q_move rfl rfl rfl rfl ?_
  refine q_move rfl rfl rfl rfl ?_
  refine q_idxO (sz := 2) (k := i) (enc := enc3) (xs := L) rfl rfl rfl rfl rfl Try.underlying60 Try.sizeOf56 hp (by first | rfl | omega) (by omega) Tk ?_
  intro ib18 io18 ha18 hl18 hc18
  refine q_field (k := 0) rfl rfl rfl rfl Try.underlying56 rfl Try.sizeOf3 rfl ?_
  refine q_load_O (v := (.int .i64 p.1)) (j := 0) (k' := i) (enc := enc3) (off := io18) rfl rfl rfl rfl Try.isAgg3 ha18 enc3_len hp Tk (by first | rfl | exact (Nat.add_zero _).symm | omega) (by rfl) ?_
  refine q_move rfl rfl rfl rfl ?_
  refine q_int rfl rfl rfl rfl rfl (b_eql _ _ _ _) ?_
  refine r_done ?_
  refine s_keep [1, 5, 6, 7, 22] (e' := [(1, _), (5, _), (6, _), (7, _), (22, _)]) rfl ?_
  refine k_then_n ?_
  refine c_cond_p rfl (fun hc => ?_) (fun hc => ?_)
  ·
   refine c_plain (.q 0 (.q 1 (.q 2 (.q 3 (.q 4 ((.l 5 [] ((.l 6 [] (.q 7 (.done))))))))))) (by kernel_rfl) ?_
   refine q_move rfl rfl rfl rfl ?_
   refine q_move rfl rfl rfl rfl ?_
   refine q_move rfl rfl rfl rfl ?_
   refine q_idxO (sz := 2) (k := i) (enc := enc3) (xs := L) rfl rfl rfl rfl rfl Try.underlying60 Try.sizeOf56 hp (by first | rfl | omega) (by omega) Tk ?_
   intro ib26 io26 ha26 hl26 hc26
   refine q_loadN_O (j := 0) (k' := i) (us := [_, _, _]) (enc := enc3) (off := io26) rfl rfl rfl rfl Try.isAgg56 Try.sizeOf56 ha26 enc3_len hp Tk (by first | rfl | exact (Nat.add_zero _).symm | omega) (by rfl) rfl ?_
   refine l_buildSlice rfl rfl rfl rfl (run_build1 (us := [_, _, _]) Try.underlying60 Try.sizeOf56 rfl Try.zeroValue56 rfl rfl rfl) ?_
   intro b28
   refine ag_nil ?_
   refine l_append (sz := 3) (enc := enc3) (xs := (fV v (L.take i))) rfl rfl rfl rfl rfl Try.underlying60 Try.typeInfo56 rfl rfl rfl (by decide) Tk Tk (by first | rfl | omega | (simp; done) | (simp; omega)) (ys := [p]) (rds_some rdn_cells) (by rfl) (by first | rfl | omega) (enc3_len) (enc3_one) (by omega) (by show _ * 24 ≤ _; omega) ?_
   intro ao29 cp29
   refine ag_nil ?_
   refine q_assign rfl rfl rfl rfl ?_
   refine r_done ?_
   refine s_keep [1, 5, 6, 7] (e' := [(1, _), (5, _), (6, _), (7, _)]) rfl ?_
   refine k_blk_n ?_
   refine k_then_n ?_
   refine c_plain (.q 0 (.q 1 (.q 2 (.done)))) (by kernel_rfl) ?_
   refine q_move rfl rfl rfl rfl ?_
   refine q_int rfl rfl rfl rfl rfl (b_add' _ (by exact fits_i64 (by omega) (by omega))) ?_
   refine q_assign rfl rfl rfl rfl ?_
   refine r_done ?_
   refine k_then_n ?_
   have hnx := fV_next (v := v) hp
   rw [if_pos hc] at hnx
   rw [show fV v (L.take i) ++ [(p.1, p.2.1, p.2.2)] = fV v (L.take (i + 1)) from hnx.symm]
   refine s_eq 5 rfl (v' := .slice ao29 (fV v (L.take (i + 1))).length cp29) (by rw [hnx, List.length_append]; rfl) ?_
   refine s_eq 5 rfl (v' := .slice ao29 ((fV v (L.take (i + 1))).length) cp29) (by first | rfl | (congr 1; done) | (congr 1 <;> first | rfl | omega | (simp; done) | (simp; omega))) ?_
   refine loop_next (x := (i, fa, fc)) ((i + 1, ao29, cp29)) ?_ ?_ ?_ ?_
   · try dsimp only
     omega
   · show L.length - (i + 1) < L.length - i; omega
   · exact ⟨rfl, rfl, rfl, rfl, trivial⟩
   · (try simp only [List.cons_append, List.nil_append]); exact Tf
  ·
   refine c_skip ?_
   refine k_blk_n ?_
   refine k_then_n ?_
   refine c_plain (.q 0 (.q 1 (.q 2 (.done)))) (by kernel_rfl) ?_
   refine q_move rfl rfl rfl rfl ?_
   refine q_int rfl rfl rfl rfl rfl (b_add' _ (by exact fits_i64 (by omega) (by omega))) ?_
   refine q_assign rfl rfl rfl rfl ?_
   refine r_done ?_
   refine k_then_n ?_
   have hnx := fV_next (v := v) hp
   rw [if_neg hc, List.append_nil] at hnx
   rw [← hnx]
   refine s_eq 5 rfl (v' := .slice fa ((fV v (L.take (i + 1))).length) fc) (by first | rfl | (congr 1; done) | (congr 1 <;> first | rfl | omega | (simp; done) | (simp; omega))) ?_
   refine loop_next (x := (i, fa, fc)) ((i + 1, fa, fc)) ?_ ?_ ?_ ?_
   · try dsimp only
     omega
   · show L.length - (i + 1) < L.length - i; omega
   · exact ⟨rfl, rfl, rfl, rfl, trivial⟩
   · (try simp only [List.cons_append, List.nil_append]); exact Tf
 ·
  refine c_exit ?_
  refine k_then_exit ?_
  refine k_then_exit ?_
  refine k_blk_here ?_
  refine k_then_n ?_
  refine c_seq ?_
  refine c_plain (.q 0 (.q 1 (.done))) (by kernel_rfl) ?_
  refine q_move rfl rfl rfl rfl ?_
  refine q_assign rfl rfl rfl rfl ?_
  refine r_done ?_
  refine s_keep [4] (e' := [(4, _)]) rfl ?_
  refine k_then_n ?_
  refine c_ret ?_
  obtain rfl : i = L.length := by omega
  rw [List.take_length]
  have hrv : fV v L = (rcV es (rf rs) v es.length) := by rw [hL]; rfl
  rw [hrv]
  refine ret1 rfl rfl ((fa, fc)) (by first | rfl | (first | rfl | (congr 1; done) | (congr 1 <;> first | rfl | omega | (simp; done) | (simp; omega)))) (by trivial) ?_
  exact Tf
theorem opair_spec (b : Nat) (es : List T3) (rs : List Int) (hb : es.length ≤ 2048) (v : Int) : Spec Try.prog 22 [.pointer (some ⟨b, 0, none⟩), .int .i64 v] [ordR b es rs] (fun (_ : Unit) => .tuple #[ev3 (bestF (rcV es (rf rs) v es.length)).1, .bool (bestF (rcV es (rf rs) v es.length)).2]) (fun _ => True) (fun _ => [ordR b es rs]) := by
 refine spec_mk (n := 12) Try.func22 rfl rfl rfl ?_
 intro Γ w0
 simp only [argE, List.cons_append, List.nil_append, Nat.zero_add, Nat.reduceAdd]
 refine c_seq ?_
 refine c_plain ((.l 0 [] (.q 1 (.done)))) (by kernel_rfl) ?_
 refine l_alloc rfl rfl rfl Try.zeroValue56 (zs := [.int .i64 0, .int .i64 0, .int .i64 0]) rfl ?_
 intro b4
 refine ag_nil ?_
 refine q_assign rfl rfl rfl rfl ?_
 refine r_done ?_
 refine k_then_n ?_
 refine c_seq ?_
 have hLl := allL_len (es := es) (R := rf rs) (m := es.length) (by omega)
 have hFl : (rcV es (rf rs) v es.length).length ≤ (allL es (rf rs) es.length).length := List.length_filter_le _ _
 refine c_plain (.q 0 (.q 1 ((.l 2 [] ((.l 3 [] (.q 4 (.q 5 ((.l 6 [] (.q 7 (.done)))))))))))) (by kernel_rfl) ?_
 refine q_move rfl rfl rfl rfl ?_
 refine q_move rfl rfl rfl rfl ?_
 have sp_1 := races_spec b es rs hb v
 refine l_call rfl rfl rfl rfl rfl rfl Try.call23 (sp_1) Ts ?_
 rintro ⟨qa, qc⟩ -
 try simp only [List.cons_append, List.nil_append]
 refine ag_nil ?_
 refine s_take (A := own 3 enc3 qa qc (rcV es (rf rs) v es.length)) Tk ?_
 refine own_fc fun f_2a f_2b f_2c => ?_
 have sp_3 := best_spec (rcV es (rf rs) v es.length) qa ((rcV es (rf rs) v es.length).length) qc (own 3 enc3 qa qc (rcV es (rf rs) v es.length)) (rds_own enc3_len (fun h => (f_2b h).1) f_2c) (by first | rfl | assumption | omega | (simp; done) | (simp; omega)) (by omega)
 refine l_call rfl rfl rfl rfl rfl rfl Try.call46 (sp_3) Ts ?_
 rintro ⟨⟩ -
 try simp only [List.cons_append, List.nil_append]
 refine ag_nil ?_
 refine q_extract rfl rfl rfl rfl rfl ?_
 refine q_extract rfl rfl rfl rfl rfl ?_
 refine l_store (j := 0) rfl rfl rfl rfl Try.sizeOf56 (us := [_, _, _]) rfl rfl rfl Tk (by first | rfl | exact (Nat.add_zero _).symm) (by first | decide | (simp; done) | omega) ?_
 simp only [setL, List.set]
 refine ag_nil ?_
 refine q_assign rfl rfl rfl rfl ?_
 refine r_done ?_
 refine s_keep [4, 5] (e' := [(4, _), (5, _)]) rfl ?_
 refine k_then_n ?_
 refine c_ret ?_
 refine retL (us := [_, _]) rfl ⟨rv_cellN rfl Try.isAgg56 Try.sizeOf56 Tk 0 rfl (us := [_, _, _]) rfl rfl, rv_tmp rfl, trivial⟩ (()) (by first | rfl | (first | rfl | (congr 1; done) | (congr 1 <;> first | rfl | omega | (simp; done) | (simp; omega)))) (by trivial) ?_
 exact Tf
theorem pairslaw_ok (th va vo lk : Int) (pl : List Int) (ao : Option Addr) (n c : Nat) (A : HProp) (hr : RdS A ao (pl.flatMap encZ)) (hn : pl.length = n) (hb : n ≤ 4000000) (es : List T3) (eo : Option Addr) (m ec : Nat) (he : RdS A eo (es.flatMap enc3)) (hm : es.length = m) (hmb : m ≤ 4000000) (hec : m ≤ ec) (hok : OkS th va vo lk pl) : Spec Try.prog 6 [.agg #[.int .i64 th, .int .i64 va, .int .i64 vo, .int .i64 lk, .slice ao n c], .slice eo m ec] [A] (fun (_ : Unit) => .bool true) (fun _ => True) (fun _ => [A]) := by
 refine spec_mk (n := 130) Try.func6 rfl rfl rfl ?_
 intro Γ w0
 simp only [argE, List.cons_append, List.nil_append, Nat.zero_add, Nat.reduceAdd]
 have hth1 := hok.th
 have hva1 := hok.va
 refine c_seq ?_
 refine c_plain ((.l 0 [] (.q 1 (.done)))) (by kernel_rfl) ?_
 refine l_box rfl rfl rfl rfl (us := [_, _, _, _, _]) rfl ?_
 intro b2
 refine ag_nil ?_
 refine q_assign rfl rfl rfl rfl ?_
 refine r_done ?_
 refine k_then_n ?_
 refine c_seq ?_
 refine c_seq ?_
 refine c_plain ((.l 0 [] (.q 1 (.q 2 (.q 3 (.q 4 ((.l 5 [] (.q 6 (.q 7 (.done))))))))))) (by kernel_rfl) ?_
 have sp_1 := works_spec
 refine l_call rfl rfl rfl rfl rfl rfl Try.call7 (sp_1) Ts ?_
 rintro ⟨⟩ -
 try simp only [List.cons_append, List.nil_append]
 refine ag_nil ?_
 refine q_not rfl rfl rfl rfl ?_
 refine s_eq 21 rfl (v' := .bool false) rfl ?_
 refine q_move rfl rfl rfl rfl ?_
 refine q_loadN_c rfl rfl rfl rfl Try.isAgg25 Try.sizeOf25 Tk 0 (us := [_, _, _, _, _]) (by first | rfl | exact (Nat.add_zero _).symm) rfl rfl ?_
 refine q_move rfl rfl rfl rfl ?_
 have sp_2 := small_spec th va vo lk ao n c eo m ec
 refine l_call rfl rfl rfl rfl rfl rfl Try.call8 (sp_2) Ts ?_
 rintro ⟨⟩ -
 try simp only [List.cons_append, List.nil_append]
 refine ag_nil ?_
 refine q_not rfl rfl rfl rfl ?_
 refine q_pick_f rfl rfl rfl rfl rfl ?_
 refine r_done ?_
 refine s_keep [1, 2, 27] (e' := [(1, _), (2, _), (27, _)]) rfl ?_
 refine k_then_n ?_
 refine c_cond_np rfl (fun hsm => ?_) (fun hsm => ?_)
 ·
  refine c_seq ?_
  refine c_plain ((.l 0 [] (.q 1 (.done)))) (by kernel_rfl) ?_
  have sp_3 := works_spec
  refine l_call rfl rfl rfl rfl rfl rfl Try.call7 (sp_3) Ts ?_
  rintro ⟨⟩ -
  try simp only [List.cons_append, List.nil_append]
  refine ag_nil ?_
  refine q_assign rfl rfl rfl rfl ?_
  refine r_done ?_
  refine s_keep [4] (e' := [(4, _)]) rfl ?_
  refine k_then_n ?_
  refine c_ret ?_
  refine k_then_ret ?_
  refine ret1 rfl rfl (()) (by first | rfl | (first | rfl | (congr 1; done) | (congr 1 <;> first | rfl | omega | (simp; done) | (simp; omega)))) (by trivial) ?_
  exact Tf
 ·
  refine c_skip ?_
  refine k_then_n ?_
  refine c_seq ?_
  refine c_seq ?_
  refine c_plain (.q 0 (.done)) (by kernel_rfl) ?_
  refine q_assign rfl rfl rfl rfl ?_
  refine r_done ?_
  refine k_then_n ?_
  refine c_block ?_
  refine c_loop2 (α := Nat) (fun (i : Nat) => i ≤ m + 1) (fun (i : Nat) => [(5, .int .i64 ((i : Nat) : Int))]) (fun (i : Nat) => []) (fun (i : Nat) => m + 1 - i) [1, 2] (er := [(1, _), (2, _)]) rfl (0) ?_ (by exact ⟨rfl, trivial⟩) (by (try dsimp only); (try simp only [Nat.add_zero, Nat.zero_add]); (repeat ((with_reducible apply Z2); focus (first | (with_reducible (repeat (first | exact Z0 | apply Z1)); done) | (repeat (first | exact Z0 | apply Z1))))); exact Z3) ?_
  · exact Nat.zero_le _
  rintro i hle_i
  try simp only [List.cons_append, List.nil_append]
  refine c_seq ?_
  refine c_seq ?_
  refine c_plain (.q 0 (.q 1 (.q 2 (.q 3 (.done))))) (by kernel_rfl) ?_
  refine q_move rfl rfl rfl rfl ?_
  refine q_move rfl rfl rfl rfl ?_
  refine q_len rfl rfl rfl rfl Try.underlying26 ?_
  refine q_int rfl rfl rfl rfl rfl (b_leq _ _ _ _) ?_
  refine r_done ?_
  refine k_then_n ?_
  refine c_cond_p rfl (fun hlt => ?_) (fun hlt => ?_)
  ·
   refine c_skip ?_
   refine k_then_n ?_
   refine c_seq ?_
   refine c_block ?_
   refine c_seq ?_
   refine c_draw rfl (.q 0 (.q 1 (.q 2 (.q 3 ((.l 4 [] (.q 5 (.q 6 (.q 7 (.q 8 (.q 9 (.done)))))))))))) (by kernel_rfl) ?_
   refine q_loadN_c rfl rfl rfl rfl Try.isAgg25 Try.sizeOf25 Tk 0 (us := [_, _, _, _, _]) (by first | rfl | exact (Nat.add_zero _).symm) rfl rfl ?_
   refine q_move rfl rfl rfl rfl ?_
   refine q_move rfl rfl rfl rfl ?_
   refine q_cut_hi (h' := i) rfl rfl rfl rfl rfl Try.underlying26 Try.sizeOf36 (by first | rfl | omega) (by omega) ?_
   by_cases hg2 : allC (newF th va vo lk pl) (es.take i) (es.take i).length
   ·
    have sp_4 := onew_spec th va vo lk pl ao n c A (hr) (by first | rfl | assumption | omega | (simp; done) | (simp; omega)) (by omega) (es.take i) eo i ec (rds_take (he) enc3_len i) (by rw [List.length_take]; omega) (by omega) hok (by rw [List.length_take]; omega) hg2
    refine l_call rfl rfl rfl rfl rfl rfl Try.call14 (sp_4) Ts ?_
    rintro ob -
    try simp only [List.cons_append, List.nil_append]
    refine ag_nil ?_
    refine q_move rfl rfl rfl rfl ?_
    refine q_extract rfl rfl rfl rfl rfl ?_
    refine q_extract rfl rfl rfl rfl rfl ?_
    refine q_assign rfl rfl rfl rfl ?_
    refine q_assign rfl rfl rfl rfl ?_
    refine r_done ?_
    refine s_keep [1, 2, 5, 6, 7] (e' := [(1, _), (2, _), (5, _), (6, _), (7, _)]) rfl ?_
    refine k_then_n ?_
    refine c_seq ?_
    refine c_seq ?_
    refine c_plain (.q 0 (.q 1 (.done))) (by kernel_rfl) ?_
    refine q_move rfl rfl rfl rfl ?_
    refine q_int rfl rfl rfl rfl rfl (b_neq _ _ _ _) ?_
    refine s_eq 44 rfl (v' := .bool false) (by first | rfl | simp) ?_
    refine r_done ?_
    refine k_then_n ?_
    refine c_cond_f rfl ?_
    refine c_skip ?_
    refine k_then_n ?_
    refine c_seq ?_
    refine c_plain (.q 0 ((.l 1 [] (.q 2 (.q 3 (.q 4 (.q 5 (.q 6 (.done))))))))) (by kernel_rfl) ?_
    refine q_loadN_c rfl rfl rfl rfl Try.isAgg25 Try.sizeOf25 Tk 0 (us := [_, _, _, _, _]) (by first | rfl | exact (Nat.add_zero _).symm) rfl rfl ?_
    have sp_5 := Hi.new_spec th va vo lk pl ao n c A (hr) (by first | rfl | assumption | omega | (simp; done) | (simp; omega)) (by omega) hok
    refine l_call rfl rfl rfl rfl rfl rfl Try.call9 (sp_5) Ts ?_
    rintro ⟨d, ⟨dpa, dpc⟩, dpo, dpoc⟩ -
    try simp only [List.cons_append, List.nil_append]
    refine ag_nil ?_
    refine q_move rfl rfl rfl rfl ?_
    refine q_extract rfl rfl rfl rfl rfl ?_
    refine q_extract rfl rfl rfl rfl rfl ?_
    refine q_assign rfl rfl rfl rfl ?_
    refine q_assign rfl rfl rfl rfl ?_
    refine r_done ?_
    refine s_keep [1, 2, 5, 6, 8, 9] (e' := [(1, _), (2, _), (5, _), (6, _), (8, _), (9, _)]) rfl ?_
    refine k_then_n ?_
    refine c_seq ?_
    refine c_plain (.q 0 (.q 1 (.q 2 (.q 3 ((.l 4 [] (.q 5 (.q 6 (.q 7 (.q 8 (.q 9 (.done)))))))))))) (by kernel_rfl) ?_
    refine q_move rfl rfl rfl rfl ?_
    refine q_move rfl rfl rfl rfl ?_
    refine q_move rfl rfl rfl rfl ?_
    refine q_cut_hi (h' := i) rfl rfl rfl rfl rfl Try.underlying26 Try.sizeOf36 (by first | rfl | omega) (by omega) ?_
    have sp_6 := Hi.events_spec dpa dpc dpo dpoc d (hNew th va vo lk pl) (new_sinv hok) (by show (0 : Int) ≤ _; decide) pl rfl (es.take i) eo i ec A (rds_take (he) enc3_len i) (by rw [List.length_take]; omega) (by omega)
    refine l_call rfl rfl rfl rfl rfl rfl Try.call15 (sp_6) Ts ?_
    rintro ki ⟨hki1, hki2, hki3⟩
    try simp only [List.cons_append, List.nil_append]
    refine ag_nil ?_
    have hfl : (es.take i).length = i := by rw [List.length_take]; omega
    have hik : i = ki := by
      rcases Nat.lt_or_ge ki i with h | h
      · obtain ⟨e, he_⟩ := get_lt (l := (es.take i)) (i := ki) (by omega)
        exact absurd (l_can hok (by omega) hg2 he_) (hki3 h e he_)
      · omega
    subst hik
    rw [if_pos rfl, show (es.take i).take i = (es.take i) from List.take_of_length_le (by omega)]
    have hL := l_end hok (by omega) hg2
    obtain ⟨Y, hY⟩ : ∃ Y, Y = hAll (hNew th va vo lk pl) (es.take i) := ⟨_, rfl⟩
    rw [← hY] at hL ⊢
    have hYi : SInv Y := by rw [hY]; exact hAll_inv (new_sinv hok) _
    have hYp : Y.v.ck.pa = pl := by rw [hY]; exact (hAll_n _ (hNew th va vo lk pl)).2.1
    have hYn : Y.v.ck.n = (i : Int) := by rw [hL.cn, hfl]
    refine q_move rfl rfl rfl rfl ?_
    refine q_extract rfl rfl rfl rfl rfl ?_
    refine q_extract rfl rfl rfl rfl rfl ?_
    refine q_assign rfl rfl rfl rfl ?_
    refine q_assign rfl rfl rfl rfl ?_
    refine r_done ?_
    refine s_keep [1, 2, 5, 6, 8, 9, 10, 11] (e' := [(1, _), (2, _), (5, _), (6, _), (8, _), (9, _), (10, _), (11, _)]) rfl ?_
    refine k_then_n ?_
    refine c_seq ?_
    refine c_seq ?_
    refine c_plain (.q 0 ((.l 1 [] (.q 2 (.q 3 (.q 4 ((.l 5 [] (.q 6 (.q 7 (.q 8 (.q 9 (.q 10 (.q 11 (.q 12 (.q 13 (.q 14 ((.l 15 [] (.q 16 (.q 17 (.q 18 (.done))))))))))))))))))))))) (by kernel_rfl) ?_
    refine q_move rfl rfl rfl rfl ?_
    have sp_7 := num_spec 0
    refine l_call rfl rfl rfl rfl rfl rfl Try.call10 (sp_7) Ts ?_
    rintro ⟨⟩ -
    try simp only [List.cons_append, List.nil_append]
    refine ag_nil ?_
    refine q_int rfl rfl rfl rfl rfl (b_neq _ _ _ _) ?_
    refine s_eq 60 rfl (v' := .bool false) (by first | rfl | simp) ?_
    refine q_move rfl rfl rfl rfl ?_
    refine q_move rfl rfl rfl rfl ?_
    have sp_8 := num_spec 0
    refine l_call rfl rfl rfl rfl rfl rfl Try.call10 (sp_8) Ts ?_
    rintro ⟨⟩ -
    try simp only [List.cons_append, List.nil_append]
    refine ag_nil ?_
    refine q_int rfl rfl rfl rfl rfl (b_neq _ _ _ _) ?_
    refine s_eq 64 rfl (v' := .bool false) (by first | rfl | simp) ?_
    refine q_pick_f rfl rfl rfl rfl rfl ?_
    refine q_move rfl rfl rfl rfl ?_
    refine q_move rfl rfl rfl rfl ?_
    refine q_move rfl rfl rfl rfl ?_
    refine q_int rfl rfl rfl rfl rfl (b_neq _ _ _ _) ?_
    refine q_pick_f rfl rfl rfl rfl rfl ?_
    refine q_move rfl rfl rfl rfl ?_
    refine s_bool_p 71 rfl (fun hg => by exfalso; omega) (fun hg => ?_)
    refine q_move rfl rfl rfl rfl ?_
    have sp_9 := Hi.len_spec dpa dpc dpo dpoc d Y hYi
    refine l_call rfl rfl rfl rfl rfl rfl Try.call17 (sp_9) Ts ?_
    rintro ⟨⟩ -
    try simp only [List.cons_append, List.nil_append]
    refine ag_nil ?_
    refine q_move rfl rfl rfl rfl ?_
    refine q_int rfl rfl rfl rfl rfl (b_neq _ _ _ _) ?_
    refine q_pick_f rfl rfl rfl rfl rfl ?_
    refine r_done ?_
    refine s_keep [1, 2, 5, 6, 8, 62, 63, 64, 67, 68, 69, 72, 73, 74, 75, 76] (e' := [(1, _), (2, _), (5, _), (6, _), (8, _), (62, _), (63, _), (64, _), (67, _), (68, _), (69, _), (72, _), (73, _), (74, _), (75, _), (76, _)]) rfl ?_
    refine k_then_n ?_
    refine c_cond_p rfl (fun hg => by exfalso; omega) (fun hg => ?_)
    refine c_skip ?_
    refine k_then_n ?_
    refine c_seq ?_
    refine c_plain (.q 0 (.done)) (by kernel_rfl) ?_
    refine q_assign rfl rfl rfl rfl ?_
    refine r_done ?_
    refine k_then_n ?_
    refine c_block ?_
    refine c_loop2 (α := Nat) (fun (j : Nat) => j ≤ va.toNat) (fun (j : Nat) => [(12, .int .i64 ((j : Nat) : Int))]) (fun (j : Nat) => [ordR ob (es.take i) (rnds (newF th va vo lk pl) (es.take i)), hsR dpa dpc dpo dpoc d Y]) (fun (j : Nat) => va.toNat - j) [1, 2, 5, 6, 8, 62, 63, 64, 67, 68, 69, 72, 73, 74, 75] (er := [(1, _), (2, _), (5, _), (6, _), (8, _), (62, _), (63, _), (64, _), (67, _), (68, _), (69, _), (72, _), (73, _), (74, _), (75, _)]) rfl (0) ?_ (by exact ⟨rfl, trivial⟩) (by (try dsimp only); (try simp only [Nat.add_zero, Nat.zero_add]); (repeat ((with_reducible apply Z2); focus (first | (with_reducible (repeat (first | exact Z0 | apply Z1)); done) | (repeat (first | exact Z0 | apply Z1))))); exact Z3) ?_
    · exact Nat.zero_le _
    rintro j hle_j
    try simp only [List.cons_append, List.nil_append]
    refine c_seq ?_
    refine c_seq ?_
    refine c_plain (.q 0 (.q 1 (.q 2 (.q 3 (.done))))) (by kernel_rfl) ?_
    refine q_move rfl rfl rfl rfl ?_
    refine q_field (k := 1) rfl rfl rfl rfl Try.underlying25 rfl Try.sizeOf3 rfl ?_
    refine q_load_c (j := 1) rfl rfl rfl rfl Try.isAgg3 Tk (by first | rfl | exact (Nat.add_zero _).symm) (by rfl) ?_
    refine q_int rfl rfl rfl rfl rfl (b_lss _ _ _ _) ?_
    refine r_done ?_
    refine k_then_n ?_
    refine c_cond_p rfl (fun hlt2 => ?_) (fun hlt2 => ?_)
    ·
     have hPI := pi_all hok (es := (es.take i)) (by omega) hg2 (v := ((j : Nat) : Int)) (by omega) (by omega) (es.take i).length (Nat.le_refl _)
     rw [List.take_length, ← hY] at hPI
     have hPI1 : bestF (rcV (es.take i) (rf (rnds (newF th va vo lk pl) (es.take i))) ((j : Nat) : Int) (es.take i).length) = ((wH Y ((j : Nat) : Int)).1, (wH Y ((j : Nat) : Int)).2.2.1) := hPI.1
     have hPI2 : (rcV (es.take i) (rf (rnds (newF th va vo lk pl) (es.take i))) ((j : Nat) : Int) (es.take i).length) = [] → (wH Y ((j : Nat) : Int)).2.2.1 = false := fun h => (hPI.2.1 h).1
     have hPI3 : (rcV (es.take i) (rf (rnds (newF th va vo lk pl) (es.take i))) ((j : Nat) : Int) (es.take i).length) ≠ [] → (wH Y ((j : Nat) : Int)).2.2.1 = true ∧ (rcV (es.take i) (rf (rnds (newF th va vo lk pl) (es.take i))) ((j : Nat) : Int) (es.take i).length)[(rcV (es.take i) (rf (rnds (newF th va vo lk pl) (es.take i))) ((j : Nat) : Int) (es.take i).length).length - 1]? = some (wH Y ((j : Nat) : Int)).2.1 := fun h => ⟨(hPI.2.2 h).1, by rw [← List.getLast?_eq_getElem?]; exact (hPI.2.2 h).2⟩
     have hVl : (rcV (es.take i) (rf (rnds (newF th va vo lk pl) (es.take i))) ((j : Nat) : Int) (es.take i).length).length ≤ 4000000 := by
       have h1 := allL_len (es := (es.take i)) (R := rf (rnds (newF th va vo lk pl) (es.take i))) (m := (es.take i).length) (by omega)
       have h2 : (rcV (es.take i) (rf (rnds (newF th va vo lk pl) (es.take i))) ((j : Nat) : Int) (es.take i).length).length ≤ (allL (es.take i) (rf (rnds (newF th va vo lk pl) (es.take i))) (es.take i).length).length := List.length_filter_le _ _
       omega
     refine c_skip ?_
     refine k_then_n ?_
     refine c_seq ?_
     refine c_block ?_
     refine c_seq ?_
     refine c_plain (.q 0 (.q 1 ((.l 2 [] (.q 3 (.q 4 (.q 5 ((.l 6 [] ((.l 7 [] (.q 8 (.done))))))))))))) (by kernel_rfl) ?_
     refine q_move rfl rfl rfl rfl ?_
     refine q_move rfl rfl rfl rfl ?_
     have sp_10 := Hi.pair_spec dpa dpc dpo dpoc d Y hYi ((j : Nat) : Int)
     refine l_call rfl rfl rfl rfl rfl rfl Try.call21 (sp_10) Ts ?_
     rintro ⟨⟩ -
     try simp only [List.cons_append, List.nil_append]
     refine ag_nil ?_
     refine q_move rfl rfl rfl rfl ?_
     refine q_extract rfl rfl rfl rfl rfl ?_
     refine q_extract rfl rfl rfl rfl rfl ?_
     refine l_alloc rfl rfl rfl Try.zeroValue56 (zs := [.int .i64 0, .int .i64 0, .int .i64 0]) rfl ?_
     intro b13
     refine ag_nil ?_
     refine l_store (j := 0) rfl rfl rfl rfl Try.sizeOf56 (us := [_, _, _]) rfl rfl rfl Tk (by first | rfl | exact (Nat.add_zero _).symm) (by first | decide | (simp; done) | omega) ?_
     simp only [setL, List.set]
     refine ag_nil ?_
     refine q_assign rfl rfl rfl rfl ?_
     refine r_done ?_
     refine s_keep [1, 2, 5, 6, 8, 12, 13, 14, 62, 63, 64, 67, 68, 69, 72, 73, 74, 75] (e' := [(1, _), (2, _), (5, _), (6, _), (8, _), (12, _), (13, _), (14, _), (62, _), (63, _), (64, _), (67, _), (68, _), (69, _), (72, _), (73, _), (74, _), (75, _)]) rfl ?_
     refine k_then_n ?_
     refine c_seq ?_
     refine c_plain (.q 0 (.q 1 ((.l 2 [] (.q 3 (.q 4 (.q 5 ((.l 6 [] ((.l 7 [] (.q 8 (.done))))))))))))) (by kernel_rfl) ?_
     refine q_move rfl rfl rfl rfl ?_
     refine q_move rfl rfl rfl rfl ?_
     have sp_11 := opair_spec ob (es.take i) (rnds (newF th va vo lk pl) (es.take i)) (by rw [List.length_take]; omega) ((j : Nat) : Int)
     refine l_call rfl rfl rfl rfl rfl rfl Try.call22 (sp_11) Ts ?_
     rintro ⟨⟩ -
     try simp only [List.cons_append, List.nil_append]
     refine ag_nil ?_
     rw [hPI1]
     refine q_move rfl rfl rfl rfl ?_
     refine q_extract rfl rfl rfl rfl rfl ?_
     refine q_extract rfl rfl rfl rfl rfl ?_
     refine l_alloc rfl rfl rfl Try.zeroValue56 (zs := [.int .i64 0, .int .i64 0, .int .i64 0]) rfl ?_
     intro b15
     refine ag_nil ?_
     refine l_store (j := 0) rfl rfl rfl rfl Try.sizeOf56 (us := [_, _, _]) rfl rfl rfl Tk (by first | rfl | exact (Nat.add_zero _).symm) (by first | decide | (simp; done) | omega) ?_
     simp only [setL, List.set]
     refine ag_nil ?_
     refine q_assign rfl rfl rfl rfl ?_
     refine r_done ?_
     refine s_keep [1, 2, 5, 6, 8, 12, 13, 14, 15, 16, 62, 63, 64, 67, 68, 69, 72, 73, 74, 75] (e' := [(1, _), (2, _), (5, _), (6, _), (8, _), (12, _), (13, _), (14, _), (15, _), (16, _), (62, _), (63, _), (64, _), (67, _), (68, _), (69, _), (72, _), (73, _), (74, _), (75, _)]) rfl ?_
     refine k_then_n ?_
     refine c_seq ?_
     refine c_seq ?_
     refine c_plain (.q 0 (.q 1 (.q 2 (.q 3 (.q 4 (.q 5 (.q 6 (.q 7 (.done))))))))) (by kernel_rfl) ?_
     refine q_move rfl rfl rfl rfl ?_
     refine q_move rfl rfl rfl rfl ?_
     refine q_neb rfl rfl rfl rfl rfl Try.underlying4 ?_
     refine s_eq 97 rfl (v' := .bool false) (by simp) ?_
     refine q_move rfl rfl rfl rfl ?_
     refine q_loadN_c rfl rfl rfl rfl Try.isAgg56 Try.sizeOf56 Tk 0 (us := [_, _, _]) (by first | rfl | exact (Nat.add_zero _).symm) rfl rfl ?_
     refine q_loadN_c rfl rfl rfl rfl Try.isAgg56 Try.sizeOf56 Tk 0 (us := [_, _, _]) (by first | rfl | exact (Nat.add_zero _).symm) rfl rfl ?_
     refine q_neS rfl rfl rfl rfl rfl (by kernel_rfl) (eqc_struct Try.underlying56 (by kernel_rfl) (eqf_cons rfl Try.isAgg3 rfl rfl (eqc_int Try.underlying3) (eqf_cons rfl Try.isAgg3 rfl rfl (eqc_int Try.underlying3) (eqf_last rfl Try.isAgg3 rfl rfl (eqc_int Try.underlying3))))) ?_
     refine s_eq 101 rfl (v' := .bool false) (by simp) ?_
     refine q_pick_f rfl rfl rfl rfl rfl ?_
     refine r_done ?_
     refine s_keep [1, 2, 5, 6, 8, 12, 62, 63, 64, 67, 68, 69, 72, 73, 74, 75, 99, 100, 101, 102] (e' := [(1, _), (2, _), (5, _), (6, _), (8, _), (12, _), (62, _), (63, _), (64, _), (67, _), (68, _), (69, _), (72, _), (73, _), (74, _), (75, _), (99, _), (100, _), (101, _), (102, _)]) rfl ?_
     refine k_then_n ?_
     refine c_cond_f rfl ?_
     refine c_skip ?_
     refine k_then_n ?_
     refine c_seq ?_
     refine c_plain (.q 0 (.q 1 ((.l 2 [] (.q 3 (.done)))))) (by kernel_rfl) ?_
     refine q_move rfl rfl rfl rfl ?_
     refine q_move rfl rfl rfl rfl ?_
     have sp_12 := races_spec ob (es.take i) (rnds (newF th va vo lk pl) (es.take i)) (by rw [List.length_take]; omega) ((j : Nat) : Int)
     refine l_call rfl rfl rfl rfl rfl rfl Try.call23 (sp_12) Ts ?_
     rintro ⟨qa, qc⟩ -
     try simp only [List.cons_append, List.nil_append]
     refine ag_nil ?_
     refine q_assign rfl rfl rfl rfl ?_
     refine r_done ?_
     refine s_keep [1, 2, 5, 6, 8, 12, 17, 62, 63, 64, 67, 68, 69, 72, 73, 74, 75, 99, 100, 101] (e' := [(1, _), (2, _), (5, _), (6, _), (8, _), (12, _), (17, _), (62, _), (63, _), (64, _), (67, _), (68, _), (69, _), (72, _), (73, _), (74, _), (75, _), (99, _), (100, _), (101, _)]) rfl ?_
     refine k_then_n ?_
     refine c_seq ?_
     refine c_plain (.q 0 (.q 1 ((.l 2 [] (.q 3 (.q 4 (.q 5 ((.l 6 [] ((.l 7 [] (.q 8 (.done))))))))))))) (by kernel_rfl) ?_
     refine q_move rfl rfl rfl rfl ?_
     refine q_move rfl rfl rfl rfl ?_
     have sp_13 := Hi.latest_spec dpa dpc dpo dpoc d Y hYi ((j : Nat) : Int)
     refine l_call rfl rfl rfl rfl rfl rfl Try.call24 (sp_13) Ts ?_
     rintro ⟨⟩ -
     try simp only [List.cons_append, List.nil_append]
     refine ag_nil ?_
     refine q_move rfl rfl rfl rfl ?_
     refine q_extract rfl rfl rfl rfl rfl ?_
     refine q_extract rfl rfl rfl rfl rfl ?_
     refine l_alloc rfl rfl rfl Try.zeroValue56 (zs := [.int .i64 0, .int .i64 0, .int .i64 0]) rfl ?_
     intro b18
     refine ag_nil ?_
     refine l_store (j := 0) rfl rfl rfl rfl Try.sizeOf56 (us := [_, _, _]) rfl rfl rfl Tk (by first | rfl | exact (Nat.add_zero _).symm) (by first | decide | (simp; done) | omega) ?_
     simp only [setL, List.set]
     refine ag_nil ?_
     refine q_assign rfl rfl rfl rfl ?_
     refine r_done ?_
     refine s_keep [1, 2, 5, 6, 8, 12, 17, 18, 19, 62, 63, 64, 67, 68, 69, 72, 73, 74, 75, 99, 100, 101] (e' := [(1, _), (2, _), (5, _), (6, _), (8, _), (12, _), (17, _), (18, _), (19, _), (62, _), (63, _), (64, _), (67, _), (68, _), (69, _), (72, _), (73, _), (74, _), (75, _), (99, _), (100, _), (101, _)]) rfl ?_
     refine k_then_n ?_
     refine c_seq ?_
     refine c_draw rfl (.q 0 (.q 1 (.q 2 (.q 3 (.q 4 (.q 5 (.q 6 (.q 7 (.q 8 (.q 9 (.q 10 (.q 11 (.q 12 (.q 13 (.q 14 (.q 15 (.q 16 (.q 17 (.done))))))))))))))))))) (by kernel_rfl) ?_
     rcases Classical.em ((rcV (es.take i) (rf (rnds (newF th va vo lk pl) (es.take i))) ((j : Nat) : Int) (es.take i).length) = []) with hle | hle
     ·
      have hl0 : (rcV (es.take i) (rf (rnds (newF th va vo lk pl) (es.take i))) ((j : Nat) : Int) (es.take i).length).length = 0 := by rw [hle]; rfl
      have hw0 := hPI2 hle
      refine q_move rfl rfl rfl rfl ?_
      refine s_eq 112 rfl (v' := .bool false) (by rw [hw0]) ?_
      refine q_move rfl rfl rfl rfl ?_
      refine q_len rfl rfl rfl rfl Try.underlying60 ?_
      refine q_int rfl rfl rfl rfl rfl (b_gtr _ _ _ _) ?_
      refine s_eq 115 rfl (v' := .bool false) (by rw [decide_eq_false (by omega)]) ?_
      refine q_neb rfl rfl rfl rfl rfl Try.underlying4 ?_
      refine s_eq 116 rfl (v' := .bool false) rfl ?_
      refine q_move rfl rfl rfl rfl ?_
      refine q_move rfl rfl rfl rfl ?_
      refine s_eq 118 rfl (v' := .bool false) (by rw [hw0]) ?_
      refine q_move rfl rfl rfl rfl ?_
      refine q_skip rfl rfl rfl rfl ?_
      refine q_skip rfl rfl rfl rfl ?_
      refine q_skip rfl rfl rfl rfl ?_
      refine q_skip rfl rfl rfl rfl ?_
      refine q_skip rfl rfl rfl rfl ?_
      refine q_skip rfl rfl rfl rfl ?_
      refine q_skip rfl rfl rfl rfl ?_
      refine q_skip rfl rfl rfl rfl ?_
      refine q_pick_f rfl rfl rfl rfl rfl ?_
      refine q_pick_f rfl rfl rfl rfl rfl ?_
      refine r_done ?_
      refine s_keep [1, 2, 5, 6, 8, 12, 62, 63, 64, 67, 68, 69, 72, 73, 74, 75, 99, 100, 101, 118, 119, 120, 121, 122, 123, 124, 125, 126, 127, 128, 129] (e' := [(1, _), (2, _), (5, _), (6, _), (8, _), (12, _), (62, _), (63, _), (64, _), (67, _), (68, _), (69, _), (72, _), (73, _), (74, _), (75, _), (99, _), (100, _), (101, _), (118, _), (119, _), (120, _), (121, _), (122, _), (123, _), (124, _), (125, _), (126, _), (127, _), (128, _), (129, _)]) rfl ?_
      refine k_then_n ?_
      refine c_cond_f rfl ?_
      refine c_skip ?_
      refine k_blk_n ?_
      refine k_then_n ?_
      refine c_plain (.q 0 (.q 1 (.q 2 (.done)))) (by kernel_rfl) ?_
      refine q_move rfl rfl rfl rfl ?_
      refine q_int rfl rfl rfl rfl rfl (b_add' _ (by exact fits_i64 (by omega) (by omega))) ?_
      refine q_assign rfl rfl rfl rfl ?_
      refine r_done ?_
      refine k_then_n ?_
      refine loop_next (x := j) (j + 1) ?_ ?_ ?_ ?_
      · exact by show j + 1 ≤ va.toNat; omega
      · show va.toNat - (j + 1) < va.toNat - j; omega
      · exact ⟨rfl, rfl, rfl, rfl, rfl, rfl, rfl, rfl, rfl, rfl, rfl, rfl, rfl, rfl, rfl, rfl, trivial⟩
      · (try simp only [List.cons_append, List.nil_append]); exact Tf
     ·
      have hl0 : 0 < (rcV (es.take i) (rf (rnds (newF th va vo lk pl) (es.take i))) ((j : Nat) : Int) (es.take i).length).length := List.length_pos_iff.2 hle
      obtain ⟨hw0, hz9⟩ := hPI3 hle
      refine q_move rfl rfl rfl rfl ?_
      refine s_eq 112 rfl (v' := .bool true) (by rw [hw0]) ?_
      refine q_move rfl rfl rfl rfl ?_
      refine q_len rfl rfl rfl rfl Try.underlying60 ?_
      refine q_int rfl rfl rfl rfl rfl (b_gtr _ _ _ _) ?_
      refine s_eq 115 rfl (v' := .bool true) (by rw [decide_eq_true (by omega)]) ?_
      refine q_neb rfl rfl rfl rfl rfl Try.underlying4 ?_
      refine s_eq 116 rfl (v' := .bool false) rfl ?_
      refine q_move rfl rfl rfl rfl ?_
      refine q_move rfl rfl rfl rfl ?_
      refine s_eq 118 rfl (v' := .bool true) (by rw [hw0]) ?_
      refine q_move rfl rfl rfl rfl ?_
      refine q_loadN_c rfl rfl rfl rfl Try.isAgg56 Try.sizeOf56 Tk 0 (us := [_, _, _]) (by first | rfl | exact (Nat.add_zero _).symm) rfl rfl ?_
      refine q_move rfl rfl rfl rfl ?_
      refine q_move rfl rfl rfl rfl ?_
      refine q_len rfl rfl rfl rfl Try.underlying60 ?_
      refine q_int rfl rfl rfl rfl rfl (b_sub' _ (by exact fits_i64 (by omega) (by omega))) ?_
      refine q_idxO (sz := 2) (k := ((rcV (es.take i) (rf (rnds (newF th va vo lk pl) (es.take i))) ((j : Nat) : Int) (es.take i).length).length - 1)) (enc := enc3) (xs := (rcV (es.take i) (rf (rnds (newF th va vo lk pl) (es.take i))) ((j : Nat) : Int) (es.take i).length)) rfl rfl rfl rfl rfl Try.underlying60 Try.sizeOf56 hz9 (by first | rfl | omega) (by omega) Tk ?_
      intro ib125 io125 ha125 hl125 hc125
      refine q_loadN_O (j := 0) (k' := ((rcV (es.take i) (rf (rnds (newF th va vo lk pl) (es.take i))) ((j : Nat) : Int) (es.take i).length).length - 1)) (us := [_, _, _]) (enc := enc3) (off := io125) rfl rfl rfl rfl Try.isAgg56 Try.sizeOf56 ha125 enc3_len hz9 Tk (by first | rfl | exact (Nat.add_zero _).symm | omega) (by rfl) rfl ?_
      refine q_neS rfl rfl rfl rfl rfl (by kernel_rfl) (eqc_struct Try.underlying56 (by kernel_rfl) (eqf_cons rfl Try.isAgg3 rfl rfl (eqc_int Try.underlying3) (eqf_cons rfl Try.isAgg3 rfl rfl (eqc_int Try.underlying3) (eqf_last rfl Try.isAgg3 rfl rfl (eqc_int Try.underlying3))))) ?_
      refine s_eq 127 rfl (v' := .bool (decide (((wH Y ((j : Nat) : Int)).2.1.1, (wH Y ((j : Nat) : Int)).2.1.2.1, (wH Y ((j : Nat) : Int)).2.1.2.2) ≠ ((wH Y ((j : Nat) : Int)).2.1)))) (by first | (congr 1; done) | (congr 1; rw [Bool.eq_iff_iff]; simp [Prod.ext_iff, and_assoc])) ?_
      refine s_eq 127 rfl (v' := .bool false) (by simp) ?_
      refine q_pick_t rfl rfl rfl rfl rfl ?_
      refine q_pick_f rfl rfl rfl rfl rfl ?_
      refine r_done ?_
      refine s_keep [1, 2, 5, 6, 8, 12, 62, 63, 64, 67, 68, 69, 72, 73, 74, 75, 99, 100, 101, 118, 119, 120, 121, 122, 123, 124, 125, 126, 127, 128, 129] (e' := [(1, _), (2, _), (5, _), (6, _), (8, _), (12, _), (62, _), (63, _), (64, _), (67, _), (68, _), (69, _), (72, _), (73, _), (74, _), (75, _), (99, _), (100, _), (101, _), (118, _), (119, _), (120, _), (121, _), (122, _), (123, _), (124, _), (125, _), (126, _), (127, _), (128, _), (129, _)]) rfl ?_
      refine k_then_n ?_
      refine c_cond_f rfl ?_
      refine c_skip ?_
      refine k_blk_n ?_
      refine k_then_n ?_
      refine c_plain (.q 0 (.q 1 (.q 2 (.done)))) (by kernel_rfl) ?_
      refine q_move rfl rfl rfl rfl ?_
      refine q_int rfl rfl rfl rfl rfl (b_add' _ (by exact fits_i64 (by omega) (by omega))) ?_
      refine q_assign rfl rfl rfl rfl ?_
      refine r_done ?_
      refine k_then_n ?_
      refine loop_next (x := j) (j + 1) ?_ ?_ ?_ ?_
      · exact by show j + 1 ≤ va.toNat; omega
      · show va.toNat - (j + 1) < va.toNat - j; omega
      · exact ⟨rfl, rfl, rfl, rfl, rfl, rfl, rfl, rfl, rfl, rfl, rfl, rfl, rfl, rfl, rfl, rfl, trivial⟩
      · (try simp only [List.cons_append, List.nil_append]); exact Tf
    ·
     refine c_exit ?_
     refine k_then_exit ?_
     refine k_then_exit ?_
     refine k_blk_here ?_
     refine k_blk_n ?_
     refine k_then_n ?_
     refine c_plain (.q 0 (.q 1 (.q 2 (.done)))) (by kernel_rfl) ?_
     refine q_move rfl rfl rfl rfl ?_
     refine q_int rfl rfl rfl rfl rfl (b_add' _ (by exact fits_i64 (by omega) (by omega))) ?_
     refine q_assign rfl rfl rfl rfl ?_
     refine r_done ?_
     refine s_keep [1, 2, 5, 62, 63, 64, 67, 68, 69, 72, 73, 74, 75] (e' := [(1, _), (2, _), (5, _), (62, _), (63, _), (64, _), (67, _), (68, _), (69, _), (72, _), (73, _), (74, _), (75, _)]) rfl ?_
     refine k_then_n ?_
     refine loop_next (x := i) (i + 1) ?_ ?_ ?_ ?_
     · exact by show i + 1 ≤ m + 1; omega
     · show m + 1 - (i + 1) < m + 1 - i; omega
     · exact ⟨rfl, rfl, rfl, trivial⟩
     · (try simp only [List.cons_append, List.nil_append]); exact Tf
   ·
    have sp_14 := onewbad1_spec th va vo lk pl ao n c A (hr) (by first | rfl | assumption | omega | (simp; done) | (simp; omega)) (by omega) (es.take i) eo i ec (rds_take (he) enc3_len i) (by rw [List.length_take]; omega) (by omega) hok (fun h => hg2 h.2)
    refine l_call rfl rfl rfl rfl rfl rfl Try.call14 (sp_14) Ts ?_
    rintro oe hoe
    try simp only [List.cons_append, List.nil_append]
    refine ag_nil ?_
    refine q_move rfl rfl rfl rfl ?_
    refine q_extract rfl rfl rfl rfl rfl ?_
    refine q_extract rfl rfl rfl rfl rfl ?_
    refine q_assign rfl rfl rfl rfl ?_
    refine q_assign rfl rfl rfl rfl ?_
    refine r_done ?_
    refine s_keep [1, 2, 5, 6, 7] (e' := [(1, _), (2, _), (5, _), (6, _), (7, _)]) rfl ?_
    refine k_then_n ?_
    refine c_seq ?_
    refine c_seq ?_
    refine c_plain (.q 0 (.q 1 (.done))) (by kernel_rfl) ?_
    refine q_move rfl rfl rfl rfl ?_
    refine q_int rfl rfl rfl rfl rfl (b_neq _ _ _ _) ?_
    refine r_done ?_
    refine k_then_n ?_
    refine c_cond_p rfl (fun hg => ?_) (fun hg => by exfalso; exact hoe (Classical.byContradiction hg))
    refine c_seq ?_
    refine c_plain (.q 0 (.done)) (by kernel_rfl) ?_
    refine q_assign rfl rfl rfl rfl ?_
    refine r_done ?_
    refine s_keep [4] (e' := [(4, _)]) rfl ?_
    refine k_then_n ?_
    refine c_ret ?_
    refine k_then_ret ?_
    refine k_blk_ret ?_
    refine k_then_ret ?_
    refine k_then_ret ?_
    refine k_blk_ret ?_
    refine k_then_ret ?_
    refine ret1 rfl rfl (()) (by first | rfl | (first | rfl | (congr 1; done) | (congr 1 <;> first | rfl | omega | (simp; done) | (simp; omega)))) (by trivial) ?_
    exact Tf
  ·
   refine c_exit ?_
   refine k_then_exit ?_
   refine k_then_exit ?_
   refine k_blk_here ?_
   refine k_then_n ?_
   refine c_seq ?_
   refine c_plain (.q 0 (.done)) (by kernel_rfl) ?_
   refine q_assign rfl rfl rfl rfl ?_
   refine r_done ?_
   refine s_keep [4] (e' := [(4, _)]) rfl ?_
   refine k_then_n ?_
   refine c_ret ?_
   refine ret1 rfl rfl (()) (by first | rfl | (first | rfl | (congr 1; done) | (congr 1 <;> first | rfl | omega | (simp; done) | (simp; omega)))) (by trivial) ?_
   exact Tf
theorem pairslaw_bad (th va vo lk : Int) (pl : List Int) (ao : Option Addr) (n c : Nat) (A : HProp) (hr : RdS A ao (pl.flatMap encZ)) (hn : pl.length = n) (hb : n ≤ 4000000) (es : List T3) (eo : Option Addr) (m ec : Nat) (he : RdS A eo (es.flatMap enc3)) (hm : es.length = m) (hmb : m ≤ 4000000) (hec : m ≤ ec) (hok : ¬ OkS th va vo lk pl) : Spec Try.prog 6 [.agg #[.int .i64 th, .int .i64 va, .int .i64 vo, .int .i64 lk, .slice ao n c], .slice eo m ec] [A] (fun (_ : Unit) => .bool true) (fun _ => True) (fun _ => [A]) := by
 refine spec_mk (n := 130) Try.func6 rfl rfl rfl ?_
 intro Γ w0
 simp only [argE, List.cons_append, List.nil_append, Nat.zero_add, Nat.reduceAdd]
 refine c_seq ?_
 refine c_plain ((.l 0 [] (.q 1 (.done)))) (by kernel_rfl) ?_
 refine l_box rfl rfl rfl rfl (us := [_, _, _, _, _]) rfl ?_
 intro b2
 refine ag_nil ?_
 refine q_assign rfl rfl rfl rfl ?_
 refine r_done ?_
 refine k_then_n ?_
 refine c_seq ?_
 refine c_seq ?_
 refine c_plain ((.l 0 [] (.q 1 (.q 2 (.q 3 (.q 4 ((.l 5 [] (.q 6 (.q 7 (.done))))))))))) (by kernel_rfl) ?_
 have sp_1 := works_spec
 refine l_call rfl rfl rfl rfl rfl rfl Try.call7 (sp_1) Ts ?_
 rintro ⟨⟩ -
 try simp only [List.cons_append, List.nil_append]
 refine ag_nil ?_
 refine q_not rfl rfl rfl rfl ?_
 refine s_eq 21 rfl (v' := .bool false) rfl ?_
 refine q_move rfl rfl rfl rfl ?_
 refine q_loadN_c rfl rfl rfl rfl Try.isAgg25 Try.sizeOf25 Tk 0 (us := [_, _, _, _, _]) (by first | rfl | exact (Nat.add_zero _).symm) rfl rfl ?_
 refine q_move rfl rfl rfl rfl ?_
 have sp_2 := small_spec th va vo lk ao n c eo m ec
 refine l_call rfl rfl rfl rfl rfl rfl Try.call8 (sp_2) Ts ?_
 rintro ⟨⟩ -
 try simp only [List.cons_append, List.nil_append]
 refine ag_nil ?_
 refine q_not rfl rfl rfl rfl ?_
 refine q_pick_f rfl rfl rfl rfl rfl ?_
 refine r_done ?_
 refine s_keep [1, 2, 27] (e' := [(1, _), (2, _), (27, _)]) rfl ?_
 refine k_then_n ?_
 refine c_cond_np rfl (fun hsm => ?_) (fun hsm => ?_)
 ·
  refine c_seq ?_
  refine c_plain ((.l 0 [] (.q 1 (.done)))) (by kernel_rfl) ?_
  have sp_3 := works_spec
  refine l_call rfl rfl rfl rfl rfl rfl Try.call7 (sp_3) Ts ?_
  rintro ⟨⟩ -
  try simp only [List.cons_append, List.nil_append]
  refine ag_nil ?_
  refine q_assign rfl rfl rfl rfl ?_
  refine r_done ?_
  refine s_keep [4] (e' := [(4, _)]) rfl ?_
  refine k_then_n ?_
  refine c_ret ?_
  refine k_then_ret ?_
  refine ret1 rfl rfl (()) (by first | rfl | (first | rfl | (congr 1; done) | (congr 1 <;> first | rfl | omega | (simp; done) | (simp; omega)))) (by trivial) ?_
  exact Tf
 ·
  refine c_skip ?_
  refine k_then_n ?_
  refine c_seq ?_
  refine c_seq ?_
  refine c_plain (.q 0 (.done)) (by kernel_rfl) ?_
  refine q_assign rfl rfl rfl rfl ?_
  refine r_done ?_
  refine k_then_n ?_
  refine c_block ?_
  refine c_loop2 (α := Nat) (fun (i : Nat) => i ≤ m + 1) (fun (i : Nat) => [(5, .int .i64 ((i : Nat) : Int))]) (fun (i : Nat) => []) (fun (i : Nat) => m + 1 - i) [1, 2] (er := [(1, _), (2, _)]) rfl (0) ?_ (by exact ⟨rfl, trivial⟩) (by (try dsimp only); (try simp only [Nat.add_zero, Nat.zero_add]); (repeat ((with_reducible apply Z2); focus (first | (with_reducible (repeat (first | exact Z0 | apply Z1)); done) | (repeat (first | exact Z0 | apply Z1))))); exact Z3) ?_
  · exact Nat.zero_le _
  rintro i hle_i
  try simp only [List.cons_append, List.nil_append]
  refine c_seq ?_
  refine c_seq ?_
  refine c_plain (.q 0 (.q 1 (.q 2 (.q 3 (.done))))) (by kernel_rfl) ?_
  refine q_move rfl rfl rfl rfl ?_
  refine q_move rfl rfl rfl rfl ?_
  refine q_len rfl rfl rfl rfl Try.underlying26 ?_
  refine q_int rfl rfl rfl rfl rfl (b_leq _ _ _ _) ?_
  refine r_done ?_
  refine k_then_n ?_
  refine c_cond_p rfl (fun hlt => ?_) (fun hlt => ?_)
  ·
   refine c_skip ?_
   refine k_then_n ?_
   refine c_seq ?_
   refine c_block ?_
   refine c_seq ?_
   refine c_draw rfl (.q 0 (.q 1 (.q 2 (.q 3 ((.l 4 [] (.q 5 (.q 6 (.q 7 (.q 8 (.q 9 (.done)))))))))))) (by kernel_rfl) ?_
   refine q_loadN_c rfl rfl rfl rfl Try.isAgg25 Try.sizeOf25 Tk 0 (us := [_, _, _, _, _]) (by first | rfl | exact (Nat.add_zero _).symm) rfl rfl ?_
   refine q_move rfl rfl rfl rfl ?_
   refine q_move rfl rfl rfl rfl ?_
   refine q_cut_hi (h' := i) rfl rfl rfl rfl rfl Try.underlying26 Try.sizeOf36 (by first | rfl | omega) (by omega) ?_
   have sp_4 := onewbad2_spec th va vo lk pl ao n c A (hr) (by first | rfl | assumption | omega | (simp; done) | (simp; omega)) (by omega) (es.take i) eo i ec (rds_take (he) enc3_len i) (by rw [List.length_take]; omega) (by omega) hok
   refine l_call rfl rfl rfl rfl rfl rfl Try.call14 (sp_4) Ts ?_
   rintro oe hoe
   try simp only [List.cons_append, List.nil_append]
   refine ag_nil ?_
   refine q_move rfl rfl rfl rfl ?_
   refine q_extract rfl rfl rfl rfl rfl ?_
   refine q_extract rfl rfl rfl rfl rfl ?_
   refine q_assign rfl rfl rfl rfl ?_
   refine q_assign rfl rfl rfl rfl ?_
   refine r_done ?_
   refine s_keep [1, 2, 5, 6, 7] (e' := [(1, _), (2, _), (5, _), (6, _), (7, _)]) rfl ?_
   refine k_then_n ?_
   refine c_seq ?_
   refine c_seq ?_
   refine c_plain (.q 0 (.q 1 (.done))) (by kernel_rfl) ?_
   refine q_move rfl rfl rfl rfl ?_
   refine q_int rfl rfl rfl rfl rfl (b_neq _ _ _ _) ?_
   refine r_done ?_
   refine k_then_n ?_
   refine c_cond_p rfl (fun hg => ?_) (fun hg => by exfalso; exact hoe (Classical.byContradiction hg))
   refine c_seq ?_
   refine c_plain (.q 0 (.done)) (by kernel_rfl) ?_
   refine q_assign rfl rfl rfl rfl ?_
   refine r_done ?_
   refine s_keep [4] (e' := [(4, _)]) rfl ?_
   refine k_then_n ?_
   refine c_ret ?_
   refine k_then_ret ?_
   refine k_blk_ret ?_
   refine k_then_ret ?_
   refine k_then_ret ?_
   refine k_blk_ret ?_
   refine k_then_ret ?_
   refine ret1 rfl rfl (()) (by first | rfl | (first | rfl | (congr 1; done) | (congr 1 <;> first | rfl | omega | (simp; done) | (simp; omega)))) (by trivial) ?_
   exact Tf
  ·
   refine c_exit ?_
   refine k_then_exit ?_
   refine k_then_exit ?_
   refine k_blk_here ?_
   refine k_then_n ?_
   refine c_seq ?_
   refine c_plain (.q 0 (.done)) (by kernel_rfl) ?_
   refine q_assign rfl rfl rfl rfl ?_
   refine r_done ?_
   refine s_keep [4] (e' := [(4, _)]) rfl ?_
   refine k_then_n ?_
   refine c_ret ?_
   refine ret1 rfl rfl (()) (by first | rfl | (first | rfl | (congr 1; done) | (congr 1 <;> first | rfl | omega | (simp; done) | (simp; omega)))) (by trivial) ?_
   exact Tf
theorem pairslaw_spec (th va vo lk : Int) (pl : List Int) (ao : Option Addr) (n c : Nat) (A : HProp) (hr : RdS A ao (pl.flatMap encZ)) (hn : pl.length = n) (hb : n ≤ 4000000) (es : List T3) (eo : Option Addr) (m ec : Nat) (he : RdS A eo (es.flatMap enc3)) (hm : es.length = m) (hmb : m ≤ 4000000) (hec : m ≤ ec) : Spec Try.prog 6 [.agg #[.int .i64 th, .int .i64 va, .int .i64 vo, .int .i64 lk, .slice ao n c], .slice eo m ec] [A] (fun (_ : Unit) => .bool true) (fun _ => True) (fun _ => [A]) := by
  by_cases hok : OkS th va vo lk pl
  · exact pairslaw_ok th va vo lk pl ao n c A hr hn hb es eo m ec he hm hmb hec hok
  · exact pairslaw_bad th va vo lk pl ao n c A hr hn hb es eo m ec he hm hmb hec hok
end Go.Ab.Hi
set_option linter.unusedVariables false
set_option linter.unusedSimpArgs false
namespace Go.Proofs.Ytiefkbajaffgcaa.frame
open Go Go.Ab Go.ChangeShapes Go.WideShapes Go.ChangeAt Go.RowKit
/-! The bound. -/
theorem one_le {H : Type} (d : DataW H) : 1 ≤ Rows.uptoBulk d := by
  cases d with
  | lit l => cases l <;> simp [Rows.uptoBulk]
  | nil => simp [Rows.uptoBulk]
  | ptr d => simp [Rows.uptoBulk]
  | slice elems spare => simp [Rows.uptoBulk]
  | agg parts => simp [Rows.uptoBulk]
  | iface t d => simp [Rows.uptoBulk]
  | map entries => simp [Rows.uptoBulk]
  | held h => simp [Rows.uptoBulk]
theorem part_le {H : Type} {d : DataW H} {l : List (DataW H)} (h : d ∈ l) : Rows.uptoBulk d ≤ Rows.uptoBulkAll l := by
  induction l with
  | nil => cases h
  | cons x r ih =>
    simp only [Rows.uptoBulkAll]
    cases List.mem_cons.1 h with
    | inl e => subst e; omega
    | inr e => have := ih e; omega
theorem length_le {H : Type} (l : List (DataW H)) : l.length ≤ Rows.uptoBulkAll l := by
  induction l with
  | nil => simp [Rows.uptoBulkAll]
  | cons x r ih => have := one_le x; simp only [Rows.uptoBulkAll, List.length_cons]; omega
theorem bound {H : Type} {l : List (DataW H)} (hk : Rows.uptoSmall H l = true) : Rows.uptoBulkAll l ≤ 1048576 := of_decide_eq_true hk
theorem bound_mem {H : Type} {l : List (DataW H)} {d : DataW H} (hk : Rows.uptoSmall H l = true) (h : d ∈ l) : Rows.uptoBulk d ≤ 1048576 := Nat.le_trans (part_le h) (bound hk)
theorem bulk_slice {H : Type} {es rs : List (DataW H)} {d : DataW H} (h : d ∈ es) : Rows.uptoBulk d ≤ Rows.uptoBulk (.slice es rs) := by
  have := part_le h
  simp only [Rows.uptoBulk]; omega
theorem bulk_len {H : Type} (es rs : List (DataW H)) : es.length ≤ Rows.uptoBulk (.slice es rs) := by
  have := length_le es
  simp only [Rows.uptoBulk]; omega
/-! The arguments read behind the call as before. -/
theorem trodAll_below {H : Type} {enc : TypeId × Value → H} {P : Program} (hl : laidOutB P = true) {W W' : World} (hb : Below W.heap.size W W') : ∀ {ts : List TypeId} {vs : List Value} {ds : List (DataW H)} {ps : List MemPlace}, (∀ t ∈ ts, P.readableRec t = true ∧ t < P.types.size) →
    DataW.TrodAll enc P W 0 (fun _ => true) true ts vs ds ps → (∀ x ∈ ps, x.block < W.heap.size) → DataW.TrodAll enc P W' 0 (fun b => decide (b < W.heap.size)) true ts vs ds ps
  | [], [], [], _, _, h, _ => h
  | t :: ts, v :: vs, d :: ds, ps, hr, ⟨p, q, h, hs, e⟩, hlt => by
    subst e
    exact ⟨p, q, Below.trod hl (hr t (by simp)).1 (hr t (by simp)).2 h hb (fun x hx => hlt x (List.mem_append_left _ hx)), trodAll_below hl hb (fun t ht => hr t (List.mem_cons_of_mem _ ht)) hs (fun x hx => hlt x (List.mem_append_right _ hx)), rfl⟩
theorem law_post {H : Type} {enc : TypeId × Value → H} {P : Program} {f : Func} {s : ChangeSpec} {W W' : World} {args : Array Value} {ds gs : List (DataW H)} {before : List MemPlace} {tb : TypeId}
    (hl : laidOutB P = true) (hr : ∀ t ∈ f.params.toList, P.readableRec t = true ∧ t < P.types.size) (hvars : s.vars = []) (hres : f.resultTypes = #[tb]) (hb : P.underlying tb = some .bool)
    (hf : s.fn H (ds ++ gs) = { results := [.lit (.bool true)], args := ds, vars := [] }) (hW : DataW.Whole enc P f.params.toList s.vars false W args.toList ds gs before) (bel : Below W.heap.size W W') : s.post enc P f false true false false W args (.bool true) W' := by
  have hW' := hW
  obtain ⟨p, q, hA, hV, rfl, hfz, hnd⟩ := hW
  rw [hvars] at hV
  obtain ⟨rfl, rfl⟩ := trodVars_none hV
  have hA' : DataW.TrodAll enc P W 0 (fun _ => true) true f.params.toList args.toList ds p := hA
  refine ⟨ds, [], p ++ [], [], p, [], hW', ?_, ?_, ?_, bel.frame _, fun h => by cases h⟩
  · rw [hf, hres]
    exact trodAll_mk1 (shut_bool hb true)
  · rw [hf]
    exact trodAll_below hl bel hr hA' (fun x hx => hW'.lt x (List.mem_append_left _ hx))
  · rw [hf, hvars]
    exact rfl
theorem spec_calls {P : Program} {f : FuncId} {args : List Value} {W : World} (h : Ab.Spec P f args [base W] (fun (_ : Unit) => .bool true) (fun _ => True) (fun _ => [base W])) : Calls P f args.toArray W fun e W' => e = .returned (.bool true) ∧ Below W.heap.size W W' :=
  (h [] W (base_self W)).mono fun e w' ⟨_, e1, _, s, a⟩ => ⟨e1, below_of_base s a⟩
/-! Arguments are opened. -/
theorem spot_of_cell {W : World} {a : Addr} {v : Value} (h : W.cell? a = some v) : a.spot = none := by
  unfold World.cell? at h
  split at h
  · split at h
    · cases h
    · rename_i hs; simpa using hs
  · cases h
theorem choose_list {α : Type} : ∀ (n : Nat) (Q : Nat → α → Prop), (∀ i, i < n → ∃ x, Q i x) → ∃ xs : List α, xs.length = n ∧ ∀ i x, xs[i]? = some x → Q i x
  | 0, Q, _ => ⟨[], rfl, fun i x h => by simp at h⟩
  | n + 1, Q, h => by
    obtain ⟨xs, h1, h2⟩ := choose_list n Q (fun i hi => h i (by omega))
    obtain ⟨x, hx⟩ := h n (by omega)
    refine ⟨xs ++ [x], by simp [h1], fun i y hy => ?_⟩
    rcases Nat.lt_trichotomy i n with hi | hi | hi
    · rw [List.getElem?_append_left (by omega)] at hy; exact h2 i y hy
    · subst hi; rw [List.getElem?_append_right (by omega), h1, Nat.sub_self] at hy; simp at hy; subst hy; exact hx
    · rw [List.getElem?_eq_none (by simp; omega)] at hy; cases hy
theorem rdn_flat_mk {α : Type} {A : HProp} {b sz : Nat} {enc : α → List Value} (hsz : ∀ x, (enc x).length = sz) : ∀ (xs : List α) (o : Nat), (∀ i x, xs[i]? = some x → RdN A b (o + i * sz) (enc x)) → RdN A b o (xs.flatMap enc)
  | [], o, _ => fun i v h => by simp at h
  | x :: xs, o, h => fun i v hv => by
    rw [List.flatMap_cons] at hv
    by_cases hi : i < (enc x).length
    · rw [List.getElem?_append_left hi] at hv
      have := h 0 x rfl i v hv
      rwa [Nat.zero_mul, Nat.add_zero] at this
    · rw [List.getElem?_append_right (by omega), hsz] at hv
      rw [hsz] at hi
      have ih := rdn_flat_mk hsz xs (o + sz) (fun i y hy => by
        have := h (i + 1) y (by simpa using hy)
        rw [Nat.succ_mul] at this
        rwa [show o + sz + i * sz = o + (i * sz + sz) from by omega])
      have := ih (i - sz) v hv
      rwa [show o + sz + (i - sz) = o + i from by omega] at this
/-- A slice among what is read: its elements are opened by 'hel'. -/
theorem open_sl {α H : Type} {enc : TypeId × Value → H} {P : Program} {W : World} {t e : TypeId} {ao : Option Addr} {len cap sz fuel : Nat} {y : DataW H × List MemPlace} {enc' : α → List Value} {Q : α → DataW H → Prop} (ht : P.underlying t = some (.slice e)) (hc : P.cellsOf e = sz + 1) (hsz : ∀ x, (enc' x).length = sz + 1)
    (hel : ∀ n cs y, DataW.trod enc P W 0 (fun _ => true) true n e cs = some y → cs.length = sz + 1 → ∃ x : α, enc' x = cs ∧ Q x y.1)
    (h : DataW.trod enc P W 0 (fun _ => true) true fuel t [.slice ao len cap] = some y) :
    ∃ xs : List α, xs.length = len ∧ RdS (base W) ao (xs.flatMap enc') ∧ len ≤ cap ∧ cap ≤ maxLen ∧ xs.length ≤ Rows.uptoBulk y.1 ∧ (∀ x ∈ xs, ∃ d, Q x d ∧ Rows.uptoBulk d ≤ Rows.uptoBulk y.1) ∧ (ao = none → cap = 0) := by
  rcases DataW.trod_slice ht h with ⟨h1, h2⟩ | ⟨a, len', cap', elems, rest, n, -, h1, h2, -, hl, hm, hlen, hel', -⟩
  · simp only [List.cons.injEq, Value.slice.injEq, and_true] at h1
    obtain ⟨rfl, rfl, rfl⟩ := h1
    exact ⟨[], rfl, .inl rfl, Nat.le_refl _, Nat.zero_le _, Nat.zero_le _, fun _ h => (by cases h), fun _ => rfl⟩
  · simp only [List.cons.injEq, Value.slice.injEq, and_true] at h1
    obtain ⟨rfl, rfl, rfl⟩ := h1
    subst h2
    have key : ∀ i, i < len → ∃ x : α, ∃ cs y, W.cells? 0 (a.add (i * (sz + 1))) (sz + 1) = some cs ∧ elems[i]? = some y ∧ enc' x = cs ∧ Q x y.1 := by
      intro i hi
      have h3 := hel' i hi
      rw [List.getElem?_eq_getElem (by omega), hc, Option.bind_eq_some_iff] at h3
      obtain ⟨cs, h4, h5⟩ := h3
      have h6 := World.cells?_some h4
      obtain ⟨x, hx, hq⟩ := hel n cs _ h5 (by have := mapM_some_length (by unfold World.cells? at h4; rwa [if_pos (Nat.zero_le _)] at h4); simpa using this)
      exact ⟨x, cs, _, h4, List.getElem?_eq_getElem (by omega), hx, hq⟩
    obtain ⟨xs, hx1, hx2⟩ := choose_list len _ key
    have hcell : ∀ i x, xs[i]? = some x → ∀ j v, (enc' x)[j]? = some v → W.cell? ((a.add (i * (sz + 1))).add j) = some v := by
      intro i x hx j v hv
      obtain ⟨cs, y, h4, -, h5, -⟩ := hx2 i x hx
      subst h5
      unfold World.cells? at h4
      rw [if_pos (Nat.zero_le _)] at h4
      have hj : j < sz + 1 := by rw [← hsz x]; exact (List.getElem?_eq_some_iff.1 hv).1
      have := mapM_some_get h4 j j (by simp [hj])
      rw [this, hv]
    refine ⟨xs, hx1, ?_, hl, hm, ?_, ?_, fun h => by cases h⟩
    · cases hxs : xs with
      | nil => exact .inl rfl
      | cons x0 xs' =>
        obtain ⟨v0, hv0⟩ := get_lt (l := enc' x0) (i := 0) (by rw [hsz]; omega)
        have h6 := hcell 0 x0 (by rw [hxs]; rfl) 0 v0 hv0
        rw [Nat.zero_mul] at h6
        have hsp : a.spot = none := spot_of_cell (by simpa [Addr.add] using h6)
        obtain ⟨b, o, sp⟩ := a
        simp only at hsp
        subst hsp
        refine .inr ⟨b, o, rfl, ?_⟩
        rw [← hxs]
        refine rdn_flat_mk hsz xs o fun i x hx j v hv => rd_base ?_
        have := hcell i x hx j v hv
        rwa [add_none, add_none] at this
    · have := bulk_len (elems.map (·.1)) (rest.map (·.1))
      rw [List.length_map, hlen] at this
      rw [hx1]; exact this
    · intro x hx
      obtain ⟨i, hi⟩ := List.getElem?_of_mem hx
      obtain ⟨cs, y, -, h5, -, h7⟩ := hx2 i x hi
      exact ⟨y.1, h7, bulk_slice (List.mem_map_of_mem (List.mem_of_getElem? h5))⟩
/-- Whole arguments. -/
theorem arg_sl {α H : Type} {enc : TypeId × Value → H} {P : Program} {W : World} {t e : TypeId} {v : Value} {d : DataW H} {ps : List MemPlace} {bs sz : Nat} {enc' : α → List Value} {Q : α → DataW H → Prop} (ht : P.underlying t = some (.slice e)) (hc : P.cellsOf e = sz + 1) (hsz : ∀ x, (enc' x).length = sz + 1)
    (hel : ∀ n cs y, DataW.trod enc P W 0 (fun _ => true) true n e cs = some y → cs.length = sz + 1 → ∃ x : α, enc' x = cs ∧ Q x y.1)
    (hval : Value.okWide P W .any bs t v) (h : DataW.Trod enc P W 0 (fun _ => true) true t v d ps) :
    ∃ (xs : List α) (ao : Option Addr) (cap : Nat), v = .slice ao xs.length cap ∧ RdS (base W) ao (xs.flatMap enc') ∧ xs.length ≤ cap ∧ cap ≤ maxLen ∧ xs.length ≤ Rows.uptoBulk d ∧ (∀ x ∈ xs, ∃ y, Q x y ∧ Rows.uptoBulk y ≤ Rows.uptoBulk d) ∧ (ao = none → cap = 0) := by
  obtain ⟨ao, len, cap, rfl⟩ := okWide_slice ht hval
  obtain ⟨n, hn⟩ := h
  obtain ⟨xs, h1, h2, h3, h4, h5, h6, h7⟩ := open_sl ht hc hsz hel (y := (d, ps)) (by simpa [Value.cells] using hn)
  subst h1
  exact ⟨xs, ao, cap, rfl, h2, h3, h4, h5, h6, h7⟩
/-- A slice of an element of a slice. -/
theorem el_sl {α H : Type} {enc : TypeId × Value → H} {P : Program} {W : World} {t e : TypeId} {sz : Nat} {enc' : α → List Value} {Q : α → DataW H → Prop} (ht : P.underlying t = some (.slice e)) (hc : P.cellsOf e = sz + 1) (hsz : ∀ x, (enc' x).length = sz + 1)
    (hel : ∀ n cs y, DataW.trod enc P W 0 (fun _ => true) true n e cs = some y → cs.length = sz + 1 → ∃ x : α, enc' x = cs ∧ Q x y.1)
    (n : Nat) (cs : List Value) (y : DataW H × List MemPlace) (h : DataW.trod enc P W 0 (fun _ => true) true n t cs = some y) (hl : cs.length = 0 + 1) :
    ∃ x : LstA α, encH x = cs ∧ (RdS (base W) x.1 (x.2.2.flatMap enc') ∧ x.2.2.length ≤ Rows.uptoBulk y.1 ∧ (∀ z ∈ x.2.2, ∃ d, Q z d ∧ Rows.uptoBulk d ≤ Rows.uptoBulk y.1) ∧ x.2.2.length ≤ x.2.1) := by
  have h0 : ∃ ao len cap, cs = [.slice ao len cap] := by
    rcases DataW.trod_slice ht h with ⟨h1, -⟩ | ⟨a, len', cap', elems, rest, n, -, h1, -⟩
    · exact ⟨_, _, _, h1⟩
    · exact ⟨_, _, _, h1⟩
  obtain ⟨ao, len, cap, rfl⟩ := h0
  obtain ⟨xs, h1, h2, h3, h4, h5, h6, h7⟩ := open_sl ht hc hsz hel h
  subst h1
  exact ⟨(ao, cap, xs), rfl, h2, h5, h6, h3⟩
/-- An integer. -/
theorem el_int {H : Type} {enc : TypeId × Value → H} {P : Program} {W : World} {e : TypeId} {k : IntKind} (he : P.underlying e = some (.int k)) (n : Nat) (cs : List Value) (y : DataW H × List MemPlace) (h : DataW.trod enc P W 0 (fun _ => true) true n e cs = some y) (hl : cs.length = 0 + 1) : ∃ x : Int, [Value.int k x] = cs ∧ (Lit.int k x).wf = true := by
  obtain ⟨m, rfl, rfl, hw⟩ := DataW.trod_int he h
  exact ⟨m, rfl, hw⟩
end Go.Proofs.Ytiefkbajaffgcaa.frame
set_option linter.unusedVariables false
set_option linter.unusedSimpArgs false
namespace Go.Proofs.Ytiefkbajaffgcaa.frame
open Go Go.Ab Go.ChangeShapes Go.WideShapes Go.ChangeAt Go.RowKit
variable {α β H : Type} {enc : TypeId × Value → H} {P : Program} {W : World} {e : TypeId} {fs : Array Field} {m : Nat} {cs : List Value} {B : Nat}
/-- How an element of type e is opened. -/
abbrev El (enc : TypeId × Value → H) (P : Program) (W : World) (e : TypeId) (sz : Nat) (encA : α → List Value) (Q : α → DataW H → Prop) : Prop :=
  ∀ n cs y, DataW.trod enc P W 0 (fun _ => true) true n e cs = some y → cs.length = sz → ∃ x : α, encA x = cs ∧ Q x y.1
/-- What is known of the fields from i on. -/
def FR (enc : TypeId × Value → H) (P : Program) (W : World) (fs : Array Field) (m i : Nat) (cs : List Value) (B : Nat) : Prop :=
  ∀ j f, i ≤ j → fs[j]? = some f → ∃ y : DataW H × List MemPlace, DataW.trod enc P W 0 (fun _ => true) true m f.type ((cs.drop f.offset).take (P.cellsOf f.type)) = some y ∧ Rows.uptoBulk y.1 ≤ B
theorem fr_start {n : Nat} {y : DataW H × List MemPlace} (he : P.underlying e = some (.struct fs)) (h : DataW.trod enc P W 0 (fun _ => true) true n e cs = some y) : ∃ m, FR enc P W fs m 0 cs (Rows.uptoBulk y.1) := by
  obtain ⟨xs, m, -, hy, -, hxs, hf⟩ := DataW.trod_struct he h
  refine ⟨m, fun j f _ hj => ?_⟩
  have hlt : j < xs.length := by rw [hxs]; exact (Array.getElem?_eq_some_iff.1 hj).1
  have := hf j f hj
  rw [List.getElem?_eq_getElem hlt] at this
  refine ⟨_, this, ?_⟩
  rw [hy]
  have hp := part_le (l := xs.map (·.1)) (d := xs[j].1) (List.mem_map_of_mem (List.getElem_mem hlt))
  simp only [Rows.uptoBulk]
  omega
/-- Fields from i on, opened. -/
abbrev Fo (enc : TypeId × Value → H) (P : Program) (W : World) (fs : Array Field) (i off sz : Nat) (encA : α → List Value) (Q : α → Nat → Prop) : Prop :=
  ∀ m cs B, FR enc P W fs m i cs B → cs.length = off + sz → ∃ x : α, encA x = cs.drop off ∧ Q x B
theorem fo_last {i off sz : Nat} {f : Field} {encA : α → List Value} {Q : α → DataW H → Prop} (hf : fs[i]? = some f) (ho : f.offset = off) (hc : P.cellsOf f.type = sz) (el : El enc P W f.type sz encA Q) :
    Fo enc P W fs i off sz encA (fun x B => ∃ d, Q x d ∧ Rows.uptoBulk d ≤ B) := by
  intro m cs B h hl
  obtain ⟨y, hy, hb⟩ := h i f (Nat.le_refl _) hf
  rw [ho, hc, List.take_of_length_le (by rw [List.length_drop]; omega)] at hy
  obtain ⟨x, hx, hq⟩ := el m _ y hy (by rw [List.length_drop]; omega)
  exact ⟨x, hx, y.1, hq, hb⟩
theorem fo_cons {i off sz n : Nat} {f : Field} {encA : α → List Value} {Q : α → DataW H → Prop} {encB : β → List Value} {R : β → Nat → Prop} (hf : fs[i]? = some f) (ho : f.offset = off) (hc : P.cellsOf f.type = sz) (el : El enc P W f.type sz encA Q)
    (rest : Fo enc P W fs (i + 1) (off + sz) n encB R) : Fo enc P W fs i off (sz + n) (fun x : α × β => encA x.1 ++ encB x.2) (fun x B => (∃ d, Q x.1 d ∧ Rows.uptoBulk d ≤ B) ∧ R x.2 B) := by
  intro m cs B h hl
  obtain ⟨y, hy, hb⟩ := h i f (Nat.le_refl _) hf
  rw [ho, hc] at hy
  obtain ⟨x, hx, hq⟩ := el m _ y hy (by rw [List.length_take, List.length_drop]; omega)
  obtain ⟨z, hz, hr⟩ := rest m cs B (fun j g hj hg => h j g (by omega) hg) (by omega)
  refine ⟨(x, z), ?_, ⟨y.1, hq, hb⟩, hr⟩
  show encA x ++ encB z = _
  rw [hx, hz, ← List.drop_drop, List.take_append_drop]
theorem el_struct {sz : Nat} {encA : α → List Value} {Q : α → Nat → Prop} (he : P.underlying e = some (.struct fs)) (fo : Fo enc P W fs 0 0 sz encA Q) : El enc P W e sz encA (fun x d => Q x (Rows.uptoBulk d)) := by
  intro n cs y h hl
  obtain ⟨m, hm⟩ := fr_start he h
  obtain ⟨x, hx, hq⟩ := fo m cs _ hm (by omega)
  exact ⟨x, hx, hq⟩
/-- A struct handed in. -/
theorem arg_struct {t : TypeId} {v : Value} {d : DataW H} {ps : List MemPlace} {bs sz : Nat} {encA : α → List Value} {Q : α → DataW H → Prop} (ht : P.underlying t = some (.struct fs)) (hc : P.cellsOf t = sz) (el : El enc P W t sz encA Q)
    (hval : Value.okWide P W .any bs t v) (h : DataW.Trod enc P W 0 (fun _ => true) true t v d ps) : ∃ x : α, v = .agg (encA x).toArray ∧ Q x d := by
  obtain ⟨cs, rfl, hs⟩ := okWide_struct ht hval
  obtain ⟨n, hn⟩ := h
  obtain ⟨x, hx, hq⟩ := el n cs.toList (d, ps) (by simpa [Value.cells] using hn) (by simpa [hc] using hs)
  exact ⟨x, by rw [hx], hq⟩
end Go.Proofs.Ytiefkbajaffgcaa.frame
