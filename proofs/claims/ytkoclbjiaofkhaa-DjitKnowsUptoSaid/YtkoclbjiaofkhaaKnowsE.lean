/- What the law Knows rests on, part 5 of 5. -/
import Derived.Test.YtkoclbjiaofkhaaKnowsD
import Derived.Test.YtkoclbjiaofkhaaRows
import Derived.WalkKit
import Derived.ProofKit
import Derived.OpenShut
import Derived.JoinedCond
import Derived.Carry
set_option linter.unusedVariables false
set_option linter.unusedSimpArgs false
set_option maxRecDepth 100000
namespace Go.Ab.Ord
open Go Go.Proofs Go.Ab Go.Ab.Fe
def rndT (x : CS) (e : T3) : Int := if e.1 = 9 then (opF x e.2.2).1 else if e.1 = 10 then (stF x e.2.1).2.2 else 0
/-- The round of event q. -/
def rnE (x : CS) (es : List T3) (q : Nat) : Int := rndT (sN x es q) (es.getD q (0, 0, 0))
def rnds (x : CS) (es : List T3) : List Int := mks (rnE x es) es.length
theorem rnE_at {x : CS} {es : List T3} {q : Nat} {e : T3} (h : es[q]? = some e) : rnE x es q = rndT (sN x es q) e := by rw [rnE, getD_some h]
theorem oclose_spec (b n ec rc : Nat) (ea ra : Option Addr) (es : List T3) (rs : List Int) (hn : es.length = n) (hr : rs.length = n) (hb : n ≤ 4000000) : Spec Try.prog 37 [.pointer (some ⟨b, 0, none⟩)] [cells b 0 [.slice ea n ec, .slice ra n rc, .slice none 0 0], own 3 enc3 ea ec es, own 1 encZ ra rc rs] (fun (_ : Unit) => .tuple #[]) (fun _ => True) (fun _ => [ordR b es rs]) := by
 refine spec_mk (n := 79) Try.func37 rfl rfl rfl ?_
 intro Γ w0
 simp only [argE, List.cons_append, List.nil_append, Nat.zero_add, Nat.reduceAdd]
 refine c_seq ?_
 refine c_plain (.q 0 (.q 1 (.q 2 (.q 3 (.q 4 (.q 5 (.done))))))) (by kernel_rfl) ?_
 refine q_move rfl rfl rfl rfl ?_
 refine q_nil_p rfl rfl rfl rfl ?_
 refine q_field (k := 0) rfl rfl rfl rfl Try.underlying71 rfl Try.sizeOf25 rfl ?_
 refine q_load_c (j := 0) rfl rfl rfl rfl Try.isAgg25 Tk (by first | rfl | exact (Nat.add_zero _).symm) (by rfl) ?_
 refine q_len rfl rfl rfl rfl Try.underlying25 ?_
 refine q_assign rfl rfl rfl rfl ?_
 refine r_done ?_
 refine s_keep [0, 2] (e' := [(0, _), (2, _)]) rfl ?_
 refine k_then_n ?_
 refine c_seq ?_
 refine c_plain (.q 0 (.q 1 ((.l 2 [] (.q 3 (.q 4 ((.l 5 [] (.done))))))))) (by kernel_rfl) ?_
 refine q_move rfl rfl rfl rfl ?_
 refine q_move rfl rfl rfl rfl ?_
 refine l_make (sz := 1) (enc := encH) (len := n) (cap := n) (((none, 0, []) : RowB)) rfl rfl rfl rfl rfl (by first | rfl | omega) (by first | rfl | omega) Try.underlying69 Try.typeInfo94 rfl rfl rfl (by decide) (by omega) (by omega) (by show 24 * _ ≤ _; omega) (by rfl) (encH_len) ?_
 intro b14
 refine ag_nil ?_
 refine q_nil_p rfl rfl rfl rfl ?_
 refine q_field (k := 2) rfl rfl rfl rfl Try.underlying71 rfl Try.sizeOf69 rfl ?_
 refine l_store (j := 2) rfl rfl rfl rfl Try.sizeOf69 (us := [_]) rfl rfl rfl Tk (by first | rfl | exact (Nat.add_zero _).symm) (by first | decide | (simp; done) | omega) ?_
 simp only [setL, List.set]
 refine ag_nil ?_
 refine r_done ?_
 refine s_big_rep (sz := 1) (enc := encB) n ?_
 refine s_keep [0, 2] (e' := [(0, _), (2, _)]) rfl ?_
 refine k_then_n ?_
 refine c_seq ?_
 refine c_plain (.q 0 (.q 1 (.q 2 (.done)))) (by kernel_rfl) ?_
 refine q_move rfl rfl rfl rfl ?_
 refine q_int rfl rfl rfl rfl rfl (b_sub' _ (by exact fits_i64 (by omega) (by omega))) ?_
 refine q_assign rfl rfl rfl rfl ?_
 refine r_done ?_
 refine k_then_n ?_
 refine c_block ?_
 refine c_loop2 (α := Nat × List RowB) (fun (x_ : Nat × List RowB) => match x_ with | (k, G) => k ≤ n ∧ G.length = n ∧ (∀ (q : Nat) (x : RowB), k ≤ q → G[q]? = some x → x.2.2 = mks (hbF es (rf rs) q) n)) (fun (x_ : Nat × List RowB) => match x_ with | (k, G) => [(3, .int .i64 (((k : Nat) : Int) - 1))]) (fun (x_ : Nat × List RowB) => match x_ with | (k, G) => [bigS (owA 1 encB) G, cells b 0 [.slice ea n ec, .slice ra n rc, .slice (some ⟨b14, 0, none⟩) n n], own 3 enc3 ea ec es, own 1 encZ ra rc rs, own 1 encH (some ⟨b14, 0, none⟩) n G]) (fun (x_ : Nat × List RowB) => match x_ with | (k, G) => k) [0, 2] (er := [(0, _), (2, _)]) rfl (n, List.replicate n ((none, 0, []) : RowB)) ?_ (by exact ⟨rfl, trivial⟩) (by (try dsimp only); (try simp only [Nat.add_zero, Nat.zero_add]); (repeat ((with_reducible apply Z2); focus (first | (with_reducible (repeat (first | exact Z0 | apply Z1)); done) | (repeat (first | exact Z0 | apply Z1))))); exact Z3) ?_
 · exact ⟨Nat.le_refl _, List.length_replicate, fun q x h1 h2 => by have := (List.getElem?_eq_some_iff.1 h2).1; simp at this; omega⟩
 rintro ⟨k, G⟩ ⟨hkn, hGl, hGq⟩
 try simp only [List.cons_append, List.nil_append]
 refine c_seq ?_
 refine c_seq ?_
 refine c_plain (.q 0 (.q 1 (.done))) (by kernel_rfl) ?_
 refine q_move rfl rfl rfl rfl ?_
 refine q_int rfl rfl rfl rfl rfl (b_geq _ _ _ _) ?_
 refine r_done ?_
 refine k_then_n ?_
 refine c_cond_p rfl (fun hk0 => ?_) (fun hk0 => ?_)
 ·
  obtain ⟨i, rfl⟩ : ∃ i, k = i + 1 := ⟨k - 1, by omega⟩
  refine s_eq 3 rfl (v' := .int .i64 ((i : Nat) : Int)) (by congr 1; omega) ?_
  obtain ⟨x, hx⟩ := get_lt (l := es) (i := i) (by omega)
  obtain ⟨p, hp⟩ := get_lt (l := rs) (i := i) (by omega)
  obtain ⟨g0, hg0⟩ := get_lt (l := G) (i := i) (by omega)
  refine c_skip ?_
  refine k_then_n ?_
  refine c_seq ?_
  refine c_block ?_
  refine c_seq ?_
  refine c_plain (.q 0 ((.l 1 [] (.q 2 (.done))))) (by kernel_rfl) ?_
  refine q_move rfl rfl rfl rfl ?_
  refine l_make (sz := 1) (enc := encB) (len := n) (cap := n) (false) rfl rfl rfl rfl rfl (by first | rfl | omega) (by first | rfl | omega) Try.underlying94 Try.typeInfo4 rfl rfl rfl (by decide) (by omega) (by omega) (by show 1 * _ ≤ _; omega) (by rfl) (encB_len) ?_
  intro b24
  refine ag_nil ?_
  refine q_assign rfl rfl rfl rfl ?_
  refine r_done ?_
  rw [rep_mks (f := rowF es (rf rs) i (i + 1)) (v := false) (n := n) (fun q _ => rowF_start)]
  refine s_keep [0, 2, 3, 4] (e' := [(0, _), (2, _), (3, _), (4, _)]) rfl ?_
  refine k_then_n ?_
  refine c_seq ?_
  refine c_seq ?_
  refine c_plain (.q 0 (.q 1 (.q 2 (.done)))) (by kernel_rfl) ?_
  refine q_move rfl rfl rfl rfl ?_
  refine q_int rfl rfl rfl rfl rfl (b_add' _ (by exact fits_i64 (by omega) (by omega))) ?_
  refine q_assign rfl rfl rfl rfl ?_
  refine r_done ?_
  refine k_then_n ?_
  refine c_block ?_
  refine c_loop2 (α := Nat) (fun (j : Nat) => i < j ∧ j ≤ n) (fun (j : Nat) => [(5, .int .i64 ((j : Nat) : Int))]) (fun (j : Nat) => [own 1 encB (some ⟨b24, 0, none⟩) n (mks (rowF es (rf rs) i j) n)]) (fun (j : Nat) => n - j) [0, 2, 3, 4] (er := [(0, _), (2, _), (3, _), (4, _)]) rfl (i + 1) ?_ (by exact ⟨rfl, trivial⟩) (by (try dsimp only); (try simp only [Nat.add_zero, Nat.zero_add]); (repeat ((with_reducible apply Z2); focus (first | (with_reducible (repeat (first | exact Z0 | apply Z1)); done) | (repeat (first | exact Z0 | apply Z1))))); exact Z3) ?_
  · exact ⟨Nat.lt_succ_self _, by omega⟩
  rintro j ⟨hij, hjn⟩
  try simp only [List.cons_append, List.nil_append]
  refine c_seq ?_
  refine c_seq ?_
  refine c_plain (.q 0 (.q 1 (.q 2 (.done)))) (by kernel_rfl) ?_
  refine q_move rfl rfl rfl rfl ?_
  refine q_move rfl rfl rfl rfl ?_
  refine q_int rfl rfl rfl rfl rfl (b_lss _ _ _ _) ?_
  refine r_done ?_
  refine k_then_n ?_
  refine c_cond_p rfl (fun hjlt => ?_) (fun hjlt => ?_)
  ·
   obtain ⟨y, hy⟩ := get_lt (l := es) (i := j) (by omega)
   obtain ⟨q, hq⟩ := get_lt (l := rs) (i := j) (by omega)
   have hE := edgeB_at (R := rf rs) hx hy hij
   rw [rf_at hp, rf_at hq] at hE
   refine c_skip ?_
   refine k_then_n ?_
   refine c_seq ?_
   refine c_block ?_
   refine c_seq ?_
   refine c_seq ?_
   refine c_plain (.q 0 (.q 1 (.q 2 (.q 3 (.q 4 (.q 5 (.q 6 (.q 7 ((.l 8 [] (.q 9 (.q 10 (.done))))))))))))) (by kernel_rfl) ?_
   refine q_move rfl rfl rfl rfl ?_
   refine q_move rfl rfl rfl rfl ?_
   have hk_1 : (mks (rowF es (rf rs) i j) n)[j]? = some (rowF es (rf rs) i j j) := (mks_get _ (by omega))
   refine q_idxO (sz := 0) (k := j) (enc := encB) (xs := mks (rowF es (rf rs) i j) n) rfl rfl rfl rfl rfl Try.underlying94 Try.sizeOf4 hk_1 (by first | rfl | omega) (by omega) Tk ?_
   intro ib34 io34 ha34 hl34 hc34
   refine q_load_O (v := (.bool (rowF es (rf rs) i j j))) (j := 0) (k' := j) (enc := encB) (off := io34) rfl rfl rfl rfl Try.isAgg4 ha34 encB_len hk_1 Tk (by first | rfl | exact (Nat.add_zero _).symm | omega) (by rfl) ?_
   refine q_move rfl rfl rfl rfl ?_
   refine s_bool 36 rfl (fun hr => ?_) (fun hr => ?_)
   ·
    try simp only [Bool.and_eq_true, Bool.or_eq_true, Bool.not_eq_true', Bool.not_eq_false', Bool.and_eq_false_iff, Bool.or_eq_false_iff, decide_eq_true_eq, decide_eq_false_iff_not] at hr
    have hskip : rowF es (rf rs) i j j = true ∨ edgeB es (rf rs) i j = false := .inl hr
    refine q_skip rfl rfl rfl rfl ?_
    refine q_skip rfl rfl rfl rfl ?_
    refine q_skip rfl rfl rfl rfl ?_
    refine l_skip rfl rfl rfl rfl ?_
    refine q_skip rfl rfl rfl rfl ?_
    refine q_pick_t rfl rfl rfl rfl rfl ?_
    refine r_done ?_
    refine s_keep [0, 2, 3, 4, 5, 37, 38, 39, 40, 41, 42] (e' := [(0, _), (2, _), (3, _), (4, _), (5, _), (37, _), (38, _), (39, _), (40, _), (41, _), (42, _)]) rfl ?_
    refine k_then_n ?_
    refine c_cond_t rfl ?_
    refine c_exit ?_
    refine k_then_exit ?_
    refine k_blk_here ?_
    refine k_then_n ?_
    refine c_plain (.q 0 (.q 1 (.q 2 (.done)))) (by kernel_rfl) ?_
    refine q_move rfl rfl rfl rfl ?_
    refine q_int rfl rfl rfl rfl rfl (b_add' _ (by exact fits_i64 (by omega) (by omega))) ?_
    refine q_assign rfl rfl rfl rfl ?_
    refine r_done ?_
    refine k_then_n ?_
    rw [mks_ext (f := rowF es (rf rs) i j) (g := rowF es (rf rs) i (j + 1)) (fun q _ => (rowF_skip hskip).symm)]
    refine loop_next (x := j) (j + 1) ?_ ?_ ?_ ?_
    · exact ⟨by omega, by omega⟩
    · show n - (j + 1) < n - j; omega
    · exact ⟨rfl, rfl, rfl, rfl, rfl, trivial⟩
    · (try simp only [List.cons_append, List.nil_append]); exact Tf
   ·
    try simp only [Bool.and_eq_true, Bool.or_eq_true, Bool.not_eq_true', Bool.not_eq_false', Bool.and_eq_false_iff, Bool.or_eq_false_iff, decide_eq_true_eq, decide_eq_false_iff_not] at hr
    refine q_move rfl rfl rfl rfl ?_
    refine q_move rfl rfl rfl rfl ?_
    refine q_move rfl rfl rfl rfl ?_
    have sp_2 := owhy_spec b n ec rc ea ra (.slice (some ⟨b14, 0, none⟩) n n) es rs (by first | rfl | assumption | omega | (simp; done) | (simp; omega)) (by first | rfl | assumption | omega | (simp; done) | (simp; omega)) (by omega) i j (by omega) (by omega) x y p q hx hy hp hq
    refine l_call rfl rfl rfl rfl rfl rfl Try.call54 (sp_2) Ts ?_
    rintro ⟨⟩ -
    try simp only [List.cons_append, List.nil_append]
    refine ag_nil ?_
    refine q_int rfl rfl rfl rfl rfl (b_eql _ _ _ _) ?_
    refine q_pick_f rfl rfl rfl rfl rfl ?_
    refine r_done ?_
    refine s_keep [0, 2, 3, 4, 5, 37, 38, 39, 40, 41, 42] (e' := [(0, _), (2, _), (3, _), (4, _), (5, _), (37, _), (38, _), (39, _), (40, _), (41, _), (42, _)]) rfl ?_
    refine k_then_n ?_
    refine c_cond_p rfl (fun hw => ?_) (fun hw => ?_)
    ·
     have hskip : rowF es (rf rs) i j j = true ∨ edgeB es (rf rs) i j = false := .inr (by rw [hE, decide_eq_false (whyC_zero.1 hw)])
     refine c_exit ?_
     refine k_then_exit ?_
     refine k_blk_here ?_
     refine k_then_n ?_
     refine c_plain (.q 0 (.q 1 (.q 2 (.done)))) (by kernel_rfl) ?_
     refine q_move rfl rfl rfl rfl ?_
     refine q_int rfl rfl rfl rfl rfl (b_add' _ (by exact fits_i64 (by omega) (by omega))) ?_
     refine q_assign rfl rfl rfl rfl ?_
     refine r_done ?_
     refine k_then_n ?_
     rw [mks_ext (f := rowF es (rf rs) i j) (g := rowF es (rf rs) i (j + 1)) (fun q _ => (rowF_skip hskip).symm)]
     refine loop_next (x := j) (j + 1) ?_ ?_ ?_ ?_
     · exact ⟨by omega, by omega⟩
     · show n - (j + 1) < n - j; omega
     · exact ⟨rfl, rfl, rfl, rfl, rfl, trivial⟩
     · (try simp only [List.cons_append, List.nil_append]); exact Tf
    ·
     have hed : edgeB es (rf rs) i j = true := by rw [hE, decide_eq_true_eq]; exact Classical.byContradiction fun h => hw (whyC_zero.2 h)
     refine c_skip ?_
     refine k_then_n ?_
     refine c_seq ?_
     refine c_plain (.q 0 (.q 1 (.q 2 ((.l 3 [] (.done)))))) (by kernel_rfl) ?_
     refine q_move rfl rfl rfl rfl ?_
     refine q_move rfl rfl rfl rfl ?_
     refine q_idxO (sz := 0) (k := j) (enc := encB) (xs := mks (rowF es (rf rs) i j) n) rfl rfl rfl rfl rfl Try.underlying94 Try.sizeOf4 hk_1 (by first | rfl | omega) (by omega) Tk ?_
     intro ib45 io45 ha45 hl45 hc45
     refine l_store_O (j := 0) (k := j) (q := true) (enc := encB) (off := io45) rfl rfl rfl rfl Try.sizeOf4 (us := [_]) rfl rfl rfl ha45 encB_len hk_1 Tk (by first | rfl | exact (Nat.add_zero _).symm | omega) (by first | decide | exact Nat.le_of_ble_eq_true rfl) (by rfl) ?_
     refine ag_nil ?_
     refine r_done ?_
     rw [mid_start hed (by omega)]
     obtain ⟨gj, hgj⟩ := get_lt (l := G) (i := j) (by omega)
     have hgv := hGq j gj (by omega) hgj
     refine s_owA (sz := 1) (enc := encB) (T := G) Tk hgj fun ho1 ho2 => ?_
     have hrj : RdS (bigS (owA 1 encB) G) gj.1 ((mks (hbF es (rf rs) j) n).flatMap encB) := rds_big (f := owA 1 encB) (List.mem_of_getElem? hgj) (by rw [← hgv]; exact rds_own encB_len ho1 ho2)
     refine s_keep [0, 2, 3, 4, 5, 37, 38, 39, 40, 41] (e' := [(0, _), (2, _), (3, _), (4, _), (5, _), (37, _), (38, _), (39, _), (40, _), (41, _)]) rfl ?_
     refine k_then_n ?_
     refine c_seq ?_
     refine c_plain (.q 0 (.q 1 (.q 2 (.done)))) (by kernel_rfl) ?_
     refine q_move rfl rfl rfl rfl ?_
     refine q_int rfl rfl rfl rfl rfl (b_add' _ (by exact fits_i64 (by omega) (by omega))) ?_
     refine q_assign rfl rfl rfl rfl ?_
     refine r_done ?_
     refine k_then_n ?_
     refine c_block ?_
     refine c_loop2 (α := Nat) (fun (k : Nat) => j < k ∧ k ≤ n) (fun (k : Nat) => [(6, .int .i64 ((k : Nat) : Int))]) (fun (k : Nat) => [own 1 encB (some ⟨b24, 0, none⟩) n (mks (midF es (rf rs) i j k) n)]) (fun (k : Nat) => n - k) [0, 2, 3, 4, 5, 37, 38, 39, 40, 41] (er := [(0, _), (2, _), (3, _), (4, _), (5, _), (37, _), (38, _), (39, _), (40, _), (41, _)]) rfl (j + 1) ?_ (by exact ⟨rfl, trivial⟩) (by (try dsimp only); (try simp only [Nat.add_zero, Nat.zero_add]); (repeat ((with_reducible apply Z2); focus (first | (with_reducible (repeat (first | exact Z0 | apply Z1)); done) | (repeat (first | exact Z0 | apply Z1))))); exact Z3) ?_
     · exact ⟨Nat.lt_succ_self _, by omega⟩
     rintro k ⟨hjk, hkn2⟩
     try simp only [List.cons_append, List.nil_append]
     refine c_seq ?_
     refine c_seq ?_
     refine c_plain (.q 0 (.q 1 (.q 2 (.done)))) (by kernel_rfl) ?_
     refine q_move rfl rfl rfl rfl ?_
     refine q_move rfl rfl rfl rfl ?_
     refine q_int rfl rfl rfl rfl rfl (b_lss _ _ _ _) ?_
     refine r_done ?_
     refine k_then_n ?_
     refine c_cond_p rfl (fun hklt => ?_) (fun hklt => ?_)
     ·
      refine c_skip ?_
      refine k_then_n ?_
      refine c_seq ?_
      refine c_block ?_
      refine c_plain (.q 0 (.q 1 (.q 2 (.q 3 (.q 4 (.q 5 (.q 6 (.q 7 (.q 8 (.q 9 (.q 10 (.q 11 (.q 12 (.q 13 (.q 14 (.q 15 (.q 16 (.q 17 (.q 18 ((.l 19 [] (.done)))))))))))))))))))))) (by kernel_rfl) ?_
      refine q_move rfl rfl rfl rfl ?_
      refine q_move rfl rfl rfl rfl ?_
      refine q_move rfl rfl rfl rfl ?_
      refine q_move rfl rfl rfl rfl ?_
      have hk_3 : (mks (midF es (rf rs) i j k) n)[k]? = some (rowF es (rf rs) i j k) := ((mks_get _ (by omega)).trans (by rw [mid_at]))
      refine q_idxO (sz := 0) (k := k) (enc := encB) (xs := mks (midF es (rf rs) i j k) n) rfl rfl rfl rfl rfl Try.underlying94 Try.sizeOf4 hk_3 (by first | rfl | omega) (by omega) Tk ?_
      intro ib57 io57 ha57 hl57 hc57
      refine q_load_O (v := (.bool (rowF es (rf rs) i j k))) (j := 0) (k' := k) (enc := encB) (off := io57) rfl rfl rfl rfl Try.isAgg4 ha57 encB_len hk_3 Tk (by first | rfl | exact (Nat.add_zero _).symm | omega) (by rfl) ?_
      refine q_move rfl rfl rfl rfl ?_
      refine s_bool 59 rfl (fun hrk => ?_) (fun hrk => ?_)
      ·
       try simp only [Bool.and_eq_true, Bool.or_eq_true, Bool.not_eq_true', Bool.not_eq_false', Bool.and_eq_false_iff, Bool.or_eq_false_iff, decide_eq_true_eq, decide_eq_false_iff_not] at hrk
       refine q_skip rfl rfl rfl rfl ?_
       refine q_skip rfl rfl rfl rfl ?_
       refine q_skip rfl rfl rfl rfl ?_
       refine q_skip rfl rfl rfl rfl ?_
       refine q_skip rfl rfl rfl rfl ?_
       refine q_skip rfl rfl rfl rfl ?_
       refine q_skip rfl rfl rfl rfl ?_
       refine q_skip rfl rfl rfl rfl ?_
       refine q_skip rfl rfl rfl rfl ?_
       refine q_skip rfl rfl rfl rfl ?_
       refine q_pick_t rfl rfl rfl rfl rfl ?_
       refine q_idxO (sz := 0) (k := k) (enc := encB) (xs := mks (midF es (rf rs) i j k) n) rfl rfl rfl rfl rfl Try.underlying94 Try.sizeOf4 hk_3 (by first | rfl | omega) (by omega) Tk ?_
       intro ib71 io71 ha71 hl71 hc71
       refine l_store_O (j := 0) (k := k) (q := true) (enc := encB) (off := io71) rfl rfl rfl rfl Try.sizeOf4 (us := [_]) rfl rfl rfl ha71 encB_len hk_3 Tk (by first | rfl | exact (Nat.add_zero _).symm | omega) (by first | decide | exact Nat.le_of_ble_eq_true rfl) (by rfl) ?_
       refine ag_nil ?_
       refine r_done ?_
       refine s_keep [0, 2, 3, 4, 5, 6, 37, 38, 39, 40, 41, 60, 61, 62, 63, 64, 65, 66, 67, 68, 69] (e' := [(0, _), (2, _), (3, _), (4, _), (5, _), (6, _), (37, _), (38, _), (39, _), (40, _), (41, _), (60, _), (61, _), (62, _), (63, _), (64, _), (65, _), (66, _), (67, _), (68, _), (69, _)]) rfl ?_
       refine k_blk_n ?_
       refine k_then_n ?_
       refine c_plain (.q 0 (.q 1 (.q 2 (.done)))) (by kernel_rfl) ?_
       refine q_move rfl rfl rfl rfl ?_
       refine q_int rfl rfl rfl rfl rfl (b_add' _ (by exact fits_i64 (by omega) (by omega))) ?_
       refine q_assign rfl rfl rfl rfl ?_
       refine r_done ?_
       refine k_then_n ?_
       rw [show ((mks (midF es (rf rs) i j k) n).set k true) = mks (midF es (rf rs) i j (k + 1)) n from by rw [← mid_next hed hjk (by omega)]; simp [hrk]]
       refine loop_next (x := k) (k + 1) ?_ ?_ ?_ ?_
       · exact ⟨by omega, by omega⟩
       · show n - (k + 1) < n - k; omega
       · exact ⟨rfl, rfl, rfl, rfl, rfl, rfl, rfl, rfl, rfl, rfl, rfl, trivial⟩
       · (try simp only [List.cons_append, List.nil_append]); exact Tf
      ·
       try simp only [Bool.and_eq_true, Bool.or_eq_true, Bool.not_eq_true', Bool.not_eq_false', Bool.and_eq_false_iff, Bool.or_eq_false_iff, decide_eq_true_eq, decide_eq_false_iff_not] at hrk
       refine q_move rfl rfl rfl rfl ?_
       refine q_nil_p rfl rfl rfl rfl ?_
       refine q_field (k := 2) rfl rfl rfl rfl Try.underlying71 rfl Try.sizeOf69 rfl ?_
       refine q_load_c (j := 2) rfl rfl rfl rfl Try.isAgg69 Tk (by first | rfl | exact (Nat.add_zero _).symm) (by rfl) ?_
       refine q_move rfl rfl rfl rfl ?_
       refine q_idxO (sz := 0) (k := j) (enc := encH) (xs := G) rfl rfl rfl rfl rfl Try.underlying69 Try.sizeOf94 hgj (by first | rfl | omega) (by omega) Tk ?_
       intro ib65 io65 ha65 hl65 hc65
       refine q_load_O (v := (.slice gj.1 gj.2.2.length gj.2.1)) (j := 0) (k' := j) (enc := encH) (off := io65) rfl rfl rfl rfl Try.isAgg94 ha65 encH_len hgj Tk (by first | rfl | exact (Nat.add_zero _).symm | omega) (by rfl) ?_
       refine q_move rfl rfl rfl rfl ?_
       have hk_4 : (mks (hbF es (rf rs) j) n)[k]? = some (hbF es (rf rs) j k) := (mks_get _ (by omega))
       refine q_idxR (sz := 0) (k := k) rfl rfl rfl rfl rfl Try.underlying94 Try.sizeOf4 (hrj) hk_4 encB_len (by first | rfl | omega) (by rw [hgv, mks_len]; omega) ?_
       intro ib68 io68 _ hd68
       refine q_load rfl rfl rfl rfl Try.isAgg4 Tk (hd68 0 (.bool (hbF es (rf rs) j k)) rfl) ?_
       refine q_pick_f rfl rfl rfl rfl rfl ?_
       refine q_idxO (sz := 0) (k := k) (enc := encB) (xs := mks (midF es (rf rs) i j k) n) rfl rfl rfl rfl rfl Try.underlying94 Try.sizeOf4 hk_3 (by first | rfl | omega) (by omega) Tk ?_
       intro ib71 io71 ha71 hl71 hc71
       refine l_store_O (j := 0) (k := k) (q := (hbF es (rf rs) j k)) (enc := encB) (off := io71) rfl rfl rfl rfl Try.sizeOf4 (us := [_]) rfl rfl rfl ha71 encB_len hk_3 Tk (by first | rfl | exact (Nat.add_zero _).symm | omega) (by first | decide | exact Nat.le_of_ble_eq_true rfl) (by rfl) ?_
       refine ag_nil ?_
       refine r_done ?_
       refine s_keep [0, 2, 3, 4, 5, 6, 37, 38, 39, 40, 41, 60, 61, 62, 63, 64, 65, 66, 67, 68, 69] (e' := [(0, _), (2, _), (3, _), (4, _), (5, _), (6, _), (37, _), (38, _), (39, _), (40, _), (41, _), (60, _), (61, _), (62, _), (63, _), (64, _), (65, _), (66, _), (67, _), (68, _), (69, _)]) rfl ?_
       refine k_blk_n ?_
       refine k_then_n ?_
       refine c_plain (.q 0 (.q 1 (.q 2 (.done)))) (by kernel_rfl) ?_
       refine q_move rfl rfl rfl rfl ?_
       refine q_int rfl rfl rfl rfl rfl (b_add' _ (by exact fits_i64 (by omega) (by omega))) ?_
       refine q_assign rfl rfl rfl rfl ?_
       refine r_done ?_
       refine k_then_n ?_
       rw [show ((mks (midF es (rf rs) i j k) n).set k (hbF es (rf rs) j k)) = mks (midF es (rf rs) i j (k + 1)) n from by rw [← mid_next hed hjk (by omega)]; simp [hrk]]
       refine loop_next (x := k) (k + 1) ?_ ?_ ?_ ?_
       · exact ⟨by omega, by omega⟩
       · show n - (k + 1) < n - k; omega
       · exact ⟨rfl, rfl, rfl, rfl, rfl, rfl, rfl, rfl, rfl, rfl, rfl, trivial⟩
       · (try simp only [List.cons_append, List.nil_append]); exact Tf
     ·
      obtain rfl : n = k := by omega
      rw [mid_end]
      refine c_exit ?_
      refine k_then_exit ?_
      refine k_then_exit ?_
      refine k_blk_here ?_
      refine k_blk_n ?_
      refine k_then_n ?_
      refine c_plain (.q 0 (.q 1 (.q 2 (.done)))) (by kernel_rfl) ?_
      refine q_move rfl rfl rfl rfl ?_
      refine q_int rfl rfl rfl rfl rfl (b_add' _ (by exact fits_i64 (by omega) (by omega))) ?_
      refine q_assign rfl rfl rfl rfl ?_
      refine r_done ?_
      refine s_keep [0, 2, 3, 4, 5, 37, 38, 39, 40, 41] (e' := [(0, _), (2, _), (3, _), (4, _), (5, _), (37, _), (38, _), (39, _), (40, _), (41, _)]) rfl ?_
      refine k_then_n ?_
      refine loop_next (x := j) (j + 1) ?_ ?_ ?_ ?_
      · exact ⟨by omega, by omega⟩
      · show n - (j + 1) < n - j; omega
      · exact ⟨rfl, rfl, rfl, rfl, rfl, trivial⟩
      · (try simp only [List.cons_append, List.nil_append]); exact Tf
  ·
   obtain rfl : n = j := by omega
   refine c_exit ?_
   refine k_then_exit ?_
   refine k_then_exit ?_
   refine k_blk_here ?_
   refine k_then_n ?_
   rw [mks_ext (f := rowF es (rf rs) i n) (g := hbF es (rf rs) i) (fun q _ => rowF_end (by omega))]
   refine c_plain (.q 0 (.q 1 (.q 2 (.q 3 (.q 4 (.q 5 (.q 6 ((.l 7 [] (.done)))))))))) (by kernel_rfl) ?_
   refine q_move rfl rfl rfl rfl ?_
   refine q_nil_p rfl rfl rfl rfl ?_
   refine q_field (k := 2) rfl rfl rfl rfl Try.underlying71 rfl Try.sizeOf69 rfl ?_
   refine q_load_c (j := 2) rfl rfl rfl rfl Try.isAgg69 Tk (by first | rfl | exact (Nat.add_zero _).symm) (by rfl) ?_
   refine q_move rfl rfl rfl rfl ?_
   refine q_move rfl rfl rfl rfl ?_
   refine q_idxO (sz := 0) (k := i) (enc := encH) (xs := G) rfl rfl rfl rfl rfl Try.underlying69 Try.sizeOf94 hg0 (by first | rfl | omega) (by omega) Tk ?_
   intro ib78 io78 ha78 hl78 hc78
   refine l_store_O (j := 0) (k := i) (q := ((some ⟨b24, 0, none⟩, n, mks (hbF es (rf rs) i) n) : RowB)) (enc := encH) (off := io78) rfl rfl rfl rfl Try.sizeOf94 (us := [_]) rfl rfl rfl ha78 encH_len hg0 Tk (by first | rfl | exact (Nat.add_zero _).symm | omega) (by first | decide | exact Nat.le_of_ble_eq_true rfl) (by simp only [encH, mks_len]; rfl) ?_
   refine ag_nil ?_
   refine r_done ?_
   refine s_keep [0, 2, 3] (e' := [(0, _), (2, _), (3, _)]) rfl ?_
   refine k_blk_n ?_
   refine k_then_n ?_
   refine c_plain (.q 0 (.q 1 (.q 2 (.done)))) (by kernel_rfl) ?_
   refine q_move rfl rfl rfl rfl ?_
   refine q_int rfl rfl rfl rfl rfl (b_sub' _ (by exact fits_i64 (by omega) (by omega))) ?_
   refine q_assign rfl rfl rfl rfl ?_
   refine r_done ?_
   refine k_then_n ?_
   refine s_big_take (f := owA 1 encB) (L := G) (i := i) (x := g0) Tk hg0 ?_
   refine s_big_put (f := owA 1 encB) (L := G) (i := i) (y := ((some ⟨b24, 0, none⟩, n, mks (hbF es (rf rs) i) n) : RowB)) Ts (by omega) ?_
   refine loop_next (x := (i + 1, G)) ((i, (G.set i ((some ⟨b24, 0, none⟩, n, mks (hbF es (rf rs) i) n) : RowB)))) ?_ ?_ ?_ ?_
   · try dsimp only
     refine ⟨by omega, by rw [List.length_set]; exact hGl, fun q x h1 h2 => ?_⟩
     by_cases e : q = i
     · subst e
       rw [List.getElem?_set_self (by omega)] at h2; cases h2; rfl
     · rw [List.getElem?_set_ne (Ne.symm e)] at h2
       exact hGq q x (by omega) h2
   · show i < i + 1; omega
   · exact ⟨rfl, rfl, rfl, trivial⟩
   · (try simp only [List.cons_append, List.nil_append]); exact Tf
 ·
  obtain rfl : k = 0 := by omega
  refine c_exit ?_
  refine k_then_exit ?_
  refine k_then_exit ?_
  refine k_blk_here ?_
  refine ret_end ?_
  refine ord_fold (b := b) (es := es) (rs := rs) Ts hn.symm hn.symm hn.symm (hGl.trans hn.symm) (fun q x hx => by rw [hn]; exact hGq q x (Nat.zero_le _) hx) ?_
  refine ret0 rfl (()) (by first | rfl | (first | rfl | (congr 1; done) | (congr 1 <;> first | rfl | omega | (simp; done) | (simp; omega)))) (by trivial) ?_
  exact Tf
theorem onew_spec (th va vo lk : Int) (pl : List Int) (ao : Option Addr) (n c : Nat) (A : HProp) (hr : RdS A ao (pl.flatMap encZ)) (hn : pl.length = n) (hb : n ≤ 4000000) (es : List T3) (eo : Option Addr) (m ec : Nat) (he : RdS A eo (es.flatMap enc3)) (hem : es.length = m) (hmb : m ≤ 4000000) (hok : OkS th va vo lk pl) (hl : es.length ≤ 2048) (hall : allC (newF th va vo lk pl) es es.length) : Spec Try.prog 9 [.agg #[.int .i64 th, .int .i64 va, .int .i64 vo, .int .i64 lk, .slice ao n c], .slice eo m ec] [A] (fun (r : Nat) => .tuple #[.pointer (some ⟨r, 0, none⟩), .int .i64 0]) (fun r => True) (fun r => [A, ordR r es (rnds (newF th va vo lk pl) es)]) := by
 refine spec_mk (n := 100) Try.func9 rfl rfl rfl ?_
 intro Γ w0
 simp only [argE, List.cons_append, List.nil_append, Nat.zero_add, Nat.reduceAdd]
 refine c_seq ?_
 refine c_plain ((.l 0 [] (.q 1 (.q 2 (.done))))) (by kernel_rfl) ?_
 refine l_box rfl rfl rfl rfl (us := [_, _, _, _, _]) rfl ?_
 intro b2
 refine ag_nil ?_
 refine q_assign rfl rfl rfl rfl ?_
 refine q_assign rfl rfl rfl rfl ?_
 refine r_done ?_
 refine k_then_n ?_
 refine c_seq ?_
 refine c_seq ?_
 refine c_plain (.q 0 ((.l 1 [] (.q 2 (.done))))) (by kernel_rfl) ?_
 refine q_loadN_c rfl rfl rfl rfl Try.isAgg24 Try.sizeOf24 Tk 0 (us := [_, _, _, _, _]) (by first | rfl | exact (Nat.add_zero _).symm) rfl rfl ?_
 have sp_1 := rshape_spec th va vo lk pl ao n c A (hr) (by first | rfl | assumption | omega | (simp; done) | (simp; omega)) (by omega)
 refine l_call rfl rfl rfl rfl rfl rfl Try.call33 (sp_1) Ts ?_
 rintro ⟨⟩ -
 try simp only [List.cons_append, List.nil_append]
 refine ag_nil ?_
 refine s_eq 17 rfl (v' := .int .i64 0) (by rw [if_pos hok]) ?_
 refine q_int rfl rfl rfl rfl rfl (b_neq _ _ _ _) ?_
 refine s_eq 18 rfl (v' := .bool false) (by first | rfl | simp) ?_
 refine r_done ?_
 refine s_keep [1, 2, 18] (e' := [(1, _), (2, _), (18, _)]) rfl ?_
 refine k_then_n ?_
 refine c_cond_f rfl ?_
 refine c_skip ?_
 refine k_then_n ?_
 refine c_seq ?_
 refine c_seq ?_
 refine c_plain (.q 0 (.q 1 (.q 2 (.done)))) (by kernel_rfl) ?_
 refine q_move rfl rfl rfl rfl ?_
 refine q_len rfl rfl rfl rfl Try.underlying25 ?_
 refine q_int rfl rfl rfl rfl rfl (b_gtr _ _ _ _) ?_
 refine r_done ?_
 refine k_then_n ?_
 refine c_cond_p rfl (fun hg => by exfalso; omega) (fun hg => ?_)
 refine c_skip ?_
 refine k_then_n ?_
 refine c_seq ?_
 refine c_plain (.q 0 ((.l 1 [] (.q 2 (.q 3 (.q 4 (.q 5 (.q 6 (.done))))))))) (by kernel_rfl) ?_
 refine q_loadN_c rfl rfl rfl rfl Try.isAgg24 Try.sizeOf24 Tk 0 (us := [_, _, _, _, _]) (by first | rfl | exact (Nat.add_zero _).symm) rfl rfl ?_
 have sp_2 := rnew_spec th va vo lk pl ao n c A (hr) (by first | rfl | assumption | omega | (simp; done) | (simp; omega)) (by omega) hok
 refine l_call rfl rfl rfl rfl rfl rfl Try.call24 (sp_2) Ts ?_
 rintro ⟨kq, kqp, kqc⟩ -
 try simp only [List.cons_append, List.nil_append]
 refine ag_nil ?_
 refine q_move rfl rfl rfl rfl ?_
 refine q_extract rfl rfl rfl rfl rfl ?_
 refine q_extract rfl rfl rfl rfl rfl ?_
 refine q_assign rfl rfl rfl rfl ?_
 refine q_assign rfl rfl rfl rfl ?_
 refine r_done ?_
 refine s_keep [1, 6] (e' := [(1, _), (6, _)]) rfl ?_
 refine k_then_n ?_
 refine c_seq ?_
 refine c_plain (.q 0 ((.l 1 [] (.q 2 (.done))))) (by kernel_rfl) ?_
 refine q_build rfl rfl rfl rfl (vs := [_, _, _]) (run_buildS Try.underlying71 Try.zeroValue71 (ps := [(0, 1), (1, 1), (2, 1)]) ⟨rfl, Try.sizeOf25, rfl, Try.sizeOf22, rfl, Try.sizeOf69, trivial⟩ rfl) ?_
 refine l_box rfl rfl rfl rfl (us := [_, _, _]) rfl ?_
 intro b28
 refine ag_nil ?_
 refine q_assign rfl rfl rfl rfl ?_
 refine r_done ?_
 refine s_heap (fun _ h => own_nil (sz := 3) (enc := enc3) h) ?_
 refine s_heap (fun _ h => own_nil (sz := 1) (enc := encZ) h) ?_
 refine k_then_n ?_
 refine c_seq ?_
 refine c_seq ?_
 refine c_plain (.q 0 (.done)) (by kernel_rfl) ?_
 refine q_assign rfl rfl rfl rfl ?_
 refine r_done ?_
 refine k_then_n ?_
 refine c_block ?_
 refine c_loop2 (α := Nat × Option Addr × Nat × Option Addr × Nat) (fun (x_ : Nat × Option Addr × Nat × Option Addr × Nat) => match x_ with | (i, ga, gc, qa, qc) => i ≤ m ∧ (allC (newF th va vo lk pl) es i)) (fun (x_ : Nat × Option Addr × Nat × Option Addr × Nat) => match x_ with | (i, ga, gc, qa, qc) => [(9, .int .i64 ((i : Nat) : Int))]) (fun (x_ : Nat × Option Addr × Nat × Option Addr × Nat) => match x_ with | (i, ga, gc, qa, qc) => [rk kqp kqc kq (sN (newF th va vo lk pl) es i), own 1 encZ kqp kqc pl, cells b28 0 [.slice ga i gc, .slice qa i qc, .slice none 0 0], own 3 enc3 ga gc (es.take i), own 1 encZ qa qc (mks (rnE (newF th va vo lk pl) es) i)]) (fun (x_ : Nat × Option Addr × Nat × Option Addr × Nat) => match x_ with | (i, ga, gc, qa, qc) => m - i) [1, 6, 8] (er := [(1, _), (6, _), (8, _)]) rfl (0, none, 0, none, 0) ?_ (by exact ⟨rfl, trivial⟩) (by (try dsimp only); rw [sN_zero]; (repeat ((with_reducible apply Z2); focus (first | (with_reducible (repeat (first | exact Z0 | apply Z1)); done) | (repeat (first | exact Z0 | apply Z1))))); exact Z3) ?_
 · exact ⟨Nat.zero_le _, allC_zero _ _⟩
 rintro ⟨i, ga, gc, qa, qc⟩ ⟨hle_i, hI⟩
 try simp only [List.cons_append, List.nil_append]
 have hsn := (sN_n (newF th va vo lk pl) es i).2
 have hz0 : (newF th va vo lk pl).n = 0 := rfl
 refine c_seq ?_
 refine c_seq ?_
 refine c_plain (.q 0 (.q 1 (.q 2 (.q 3 (.done))))) (by kernel_rfl) ?_
 refine q_move rfl rfl rfl rfl ?_
 refine q_move rfl rfl rfl rfl ?_
 refine q_len rfl rfl rfl rfl Try.underlying25 ?_
 refine q_int rfl rfl rfl rfl rfl (b_lss _ _ _ _) ?_
 refine r_done ?_
 refine k_then_n ?_
 refine c_cond_p rfl (fun hlt => ?_) (fun hlt => ?_)
 ·
  obtain ⟨e, he_⟩ := get_lt (l := es) (i := i) (by omega)
  refine c_skip ?_
  refine k_then_n ?_
  refine c_seq ?_
  refine c_block ?_
  refine c_seq ?_
  refine c_plain (.q 0 (.q 1 (.q 2 (.q 3 ((.l 4 [] ((.l 5 [] (.done))))))))) (by kernel_rfl) ?_
  refine q_move rfl rfl rfl rfl ?_
  refine q_move rfl rfl rfl rfl ?_
  refine q_idxR (sz := 2) (k := i) rfl rfl rfl rfl rfl Try.underlying25 Try.sizeOf40 (he) he_ enc3_len (by first | rfl | omega) (by omega) ?_
  intro ib37 io37 _ hd37
  refine q_loadN (vs := [_, _, _]) rfl rfl rfl rfl Try.isAgg40 Try.sizeOf40 Tk (hd37) rfl ?_
  refine l_alloc rfl rfl rfl Try.zeroValue40 (zs := [.int .i64 0, .int .i64 0, .int .i64 0]) rfl ?_
  intro b10
  refine ag_nil ?_
  refine l_store (j := 0) rfl rfl rfl rfl Try.sizeOf40 (us := [_, _, _]) rfl rfl rfl Tk (by first | rfl | exact (Nat.add_zero _).symm) (by first | decide | (simp; done) | omega) ?_
  simp only [setL, List.set]
  refine ag_nil ?_
  refine r_done ?_
  refine s_keep [1, 6, 8, 9, 10] (e' := [(1, _), (6, _), (8, _), (9, _), (10, _)]) rfl ?_
  refine k_then_n ?_
  refine c_seq ?_
  refine c_plain (.q 0 (.done)) (by kernel_rfl) ?_
  refine q_assign rfl rfl rfl rfl ?_
  refine r_done ?_
  refine k_then_n ?_
  refine c_seq ?_
  refine c_seq ?_
  refine c_plain (.q 0 (.q 1 ((.l 2 [] (.q 3 (.q 4 (.q 5 (.q 6 (.q 7 (.done)))))))))) (by kernel_rfl) ?_
  refine q_move rfl rfl rfl rfl ?_
  refine q_loadN_c rfl rfl rfl rfl Try.isAgg40 Try.sizeOf40 Tk 0 (us := [_, _, _]) (by first | rfl | exact (Nat.add_zero _).symm) rfl rfl ?_
  have sp_3 := rcan_spec kqp kqc kq (sN (newF th va vo lk pl) es i) (sN_inv (new_inv hok) es i) e.1 e.2.1 e.2.2
  refine l_call rfl rfl rfl rfl rfl rfl Try.call34 (sp_3) Ts ?_
  rintro ⟨⟩ -
  try simp only [List.cons_append, List.nil_append]
  refine ag_nil ?_
  refine q_move rfl rfl rfl rfl ?_
  refine s_bool_p 42 rfl (fun hc1 => ?_) (fun hc1 => by exfalso; exact hc1 (hall i e (by omega) he_))
  refine q_field (k := 0) rfl rfl rfl rfl Try.underlying40 rfl Try.sizeOf38 rfl ?_
  refine q_load_c (j := 0) rfl rfl rfl rfl Try.isAgg38 Tk (by first | rfl | exact (Nat.add_zero _).symm) (by rfl) ?_
  refine q_int rfl rfl rfl rfl rfl (b_eql _ _ _ _) ?_
  refine q_pick_t rfl rfl rfl rfl rfl ?_
  refine r_done ?_
  refine s_keep [1, 6, 8, 9, 10, 11, 43, 44, 45, 46] (e' := [(1, _), (6, _), (8, _), (9, _), (10, _), (11, _), (43, _), (44, _), (45, _), (46, _)]) rfl ?_
  refine k_then_n ?_
  refine c_cond_p rfl (fun k9 => ?_) (fun k9 => ?_)
  ·
   have hyes : 0 ≤ e.2.2 ∧ e.2.2 < ((sN (newF th va vo lk pl) es i).B.length : Int) := by
     obtain ⟨p0, p1, -⟩ := (can_obj (sN_inv (new_inv hok) es i) hc1).2.2.1 k9
     exact ⟨p0, by omega⟩
   have hrn : (opF (sN (newF th va vo lk pl) es i) e.2.2).1 = rnE (newF th va vo lk pl) es i := by rw [rnE_at he_, rndT, if_pos k9]
   refine c_seq ?_
   refine c_plain (.q 0 (.q 1 (.q 2 ((.l 3 [] (.q 4 (.q 5 (.q 6 ((.l 7 [] ((.l 8 [] (.q 9 (.done)))))))))))))) (by kernel_rfl) ?_
   refine q_move rfl rfl rfl rfl ?_
   refine q_field (k := 2) rfl rfl rfl rfl Try.underlying40 rfl Try.sizeOf3 rfl ?_
   refine q_load_c (j := 2) rfl rfl rfl rfl Try.isAgg3 Tk (by first | rfl | exact (Nat.add_zero _).symm) (by rfl) ?_
   have sp_4 := rround_spec kqp kqc kq (sN (newF th va vo lk pl) es i) e.2.2
   refine l_call rfl rfl rfl rfl rfl rfl Try.call35 (sp_4) Ts ?_
   rintro ⟨⟩ -
   try simp only [List.cons_append, List.nil_append]
   refine ag_nil ?_
   refine s_eq 51 rfl (v' := .tuple #[.agg #[.int .i64 ((opF (sN (newF th va vo lk pl) es i) e.2.2).1), .int .i64 ((opF (sN (newF th va vo lk pl) es i) e.2.2).2)], .int .i64 0]) (by rw [if_pos hyes, if_pos hyes]) ?_
   refine q_move rfl rfl rfl rfl ?_
   refine q_extract rfl rfl rfl rfl rfl ?_
   refine q_extract rfl rfl rfl rfl rfl ?_
   refine l_alloc rfl rfl rfl Try.zeroValue74 (zs := [.int .i64 0, .int .i64 0]) rfl ?_
   intro b12
   refine ag_nil ?_
   refine l_store (j := 0) rfl rfl rfl rfl Try.sizeOf74 (us := [_, _]) rfl rfl rfl Tk (by first | rfl | exact (Nat.add_zero _).symm) (by first | decide | (simp; done) | omega) ?_
   simp only [setL, List.set]
   refine ag_nil ?_
   refine q_assign rfl rfl rfl rfl ?_
   refine r_done ?_
   refine s_keep [1, 6, 8, 9, 10, 12, 43, 44, 45] (e' := [(1, _), (6, _), (8, _), (9, _), (10, _), (12, _), (43, _), (44, _), (45, _)]) rfl ?_
   refine k_then_n ?_
   refine c_plain (.q 0 (.q 1 (.q 2 (.done)))) (by kernel_rfl) ?_
   refine q_field (k := 0) rfl rfl rfl rfl Try.underlying74 rfl Try.sizeOf3 rfl ?_
   refine q_load_c (j := 0) rfl rfl rfl rfl Try.isAgg3 Tk (by first | rfl | exact (Nat.add_zero _).symm) (by rfl) ?_
   refine q_assign rfl rfl rfl rfl ?_
   refine r_done ?_
   refine k_then_n ?_
   refine c_seq ?_
   refine c_seq ?_
   refine c_plain (.q 0 (.q 1 ((.l 2 [] (.q 3 (.q 4 (.q 5 (.q 6 (.q 7 (.done)))))))))) (by kernel_rfl) ?_
   refine q_move rfl rfl rfl rfl ?_
   refine q_loadN_c rfl rfl rfl rfl Try.isAgg40 Try.sizeOf40 Tk 0 (us := [_, _, _]) (by first | rfl | exact (Nat.add_zero _).symm) rfl rfl ?_
   have sp_5 := rcan_spec kqp kqc kq (sN (newF th va vo lk pl) es i) (sN_inv (new_inv hok) es i) e.1 e.2.1 e.2.2
   refine l_call rfl rfl rfl rfl rfl rfl Try.call34 (sp_5) Ts ?_
   rintro ⟨⟩ -
   try simp only [List.cons_append, List.nil_append]
   refine ag_nil ?_
   refine q_move rfl rfl rfl rfl ?_
   refine s_bool_p 59 rfl (fun hg => ?_) (fun hg => by exfalso; exact hg hc1)
   refine q_field (k := 0) rfl rfl rfl rfl Try.underlying40 rfl Try.sizeOf38 rfl ?_
   refine q_load_c (j := 0) rfl rfl rfl rfl Try.isAgg38 Tk (by first | rfl | exact (Nat.add_zero _).symm) (by rfl) ?_
   refine q_int rfl rfl rfl rfl rfl (b_eql _ _ _ _) ?_
   refine q_pick_t rfl rfl rfl rfl rfl ?_
   refine r_done ?_
   refine s_keep [1, 6, 8, 9, 10, 11, 43, 44, 45, 60, 61, 62, 63] (e' := [(1, _), (6, _), (8, _), (9, _), (10, _), (11, _), (43, _), (44, _), (45, _), (60, _), (61, _), (62, _), (63, _)]) rfl ?_
   refine k_then_n ?_
   refine c_cond_p rfl (fun hg => by exfalso; omega) (fun hg => ?_)
   refine c_skip ?_
   refine k_then_n ?_
   refine c_seq ?_
   refine c_seq ?_
   refine c_plain (.q 0 (.q 1 ((.l 2 [] (.q 3 (.done)))))) (by kernel_rfl) ?_
   refine q_move rfl rfl rfl rfl ?_
   refine q_loadN_c rfl rfl rfl rfl Try.isAgg40 Try.sizeOf40 Tk 0 (us := [_, _, _]) (by first | rfl | exact (Nat.add_zero _).symm) rfl rfl ?_
   have sp_6 := rnext_spec kqp kqc kq (sN (newF th va vo lk pl) es i) (sN_inv (new_inv hok) es i) (by omega) pl (((sN_sh _ _ _).1)) e.1 e.2.1 e.2.2
   refine l_call rfl rfl rfl rfl rfl rfl Try.call27 (sp_6) Ts ?_
   rintro ⟨⟩ -
   try simp only [List.cons_append, List.nil_append]
   refine ag_nil ?_
   refine q_int rfl rfl rfl rfl rfl (b_neq _ _ _ _) ?_
   refine r_done ?_
   refine s_keep [1, 6, 8, 9, 10, 11, 43, 44, 45, 60, 61, 62, 76] (e' := [(1, _), (6, _), (8, _), (9, _), (10, _), (11, _), (43, _), (44, _), (45, _), (60, _), (61, _), (62, _), (76, _)]) rfl ?_
   refine k_then_n ?_
   refine c_cond_p rfl (fun hg => by exfalso; exact hg (if_pos hc1)) (fun hg => ?_)
   refine c_skip ?_
   refine k_then_n ?_
   refine c_seq ?_
   refine c_draw rfl (.q 0 (.q 1 (.q 2 (.q 3 (.q 4 (.q 5 ((.l 6 [4] ((.l 7 [] (.q 8 (.q 9 ((.l 10 [] (.done))))))))))))))) (by kernel_rfl) ?_
   refine q_move rfl rfl rfl rfl ?_
   refine q_move rfl rfl rfl rfl ?_
   refine q_nil_p rfl rfl rfl rfl ?_
   refine q_field (k := 0) rfl rfl rfl rfl Try.underlying71 rfl Try.sizeOf25 rfl ?_
   refine q_load_c (j := 0) rfl rfl rfl rfl Try.isAgg25 Tk (by first | rfl | exact (Nat.add_zero _).symm) (by rfl) ?_
   refine q_loadN_c rfl rfl rfl rfl Try.isAgg40 Try.sizeOf40 Tk 0 (us := [_, _, _]) (by first | rfl | exact (Nat.add_zero _).symm) rfl rfl ?_
   refine l_buildSlice rfl rfl rfl rfl (run_build1 (us := [_, _, _]) Try.underlying25 Try.sizeOf40 rfl Try.zeroValue40 rfl rfl rfl) ?_
   intro b83
   refine ag_load_c (q := 0) rfl rfl rfl Try.isAgg25 Tk (by first | rfl | exact (Nat.add_zero _).symm) (by rfl) ?_
   refine ag_nil ?_
   refine l_append (sz := 3) (enc := enc3) (xs := (es.take i)) rfl rfl rfl rfl rfl Try.underlying25 Try.typeInfo40 rfl rfl rfl (by decide) Tk Tk (by first | rfl | omega | (simp; done) | (simp; omega)) (ys := [(e.1, e.2.1, e.2.2)]) (rds_some rdn_cells) (by rfl) (by first | rfl | omega) (enc3_len) (enc3_one) (by omega) (by show _ * 24 ≤ _; omega) ?_
   intro ao84 cp84
   refine ag_nil ?_
   refine q_nil_p rfl rfl rfl rfl ?_
   refine q_field (k := 0) rfl rfl rfl rfl Try.underlying71 rfl Try.sizeOf25 rfl ?_
   refine l_store (j := 0) rfl rfl rfl rfl Try.sizeOf25 (us := [_]) rfl rfl rfl Tk (by first | rfl | exact (Nat.add_zero _).symm) (by first | decide | (simp; done) | omega) ?_
   simp only [setL, List.set]
   refine ag_nil ?_
   refine r_done ?_
   refine s_keep [1, 6, 8, 9, 11, 43, 44, 45, 60, 61, 62] (e' := [(1, _), (6, _), (8, _), (9, _), (11, _), (43, _), (44, _), (45, _), (60, _), (61, _), (62, _)]) rfl ?_
   refine k_then_n ?_
   refine c_plain (.q 0 (.q 1 (.q 2 (.q 3 (.q 4 (.q 5 ((.l 6 [] ((.l 7 [] (.q 8 (.q 9 ((.l 10 [] (.done))))))))))))))) (by kernel_rfl) ?_
   refine q_move rfl rfl rfl rfl ?_
   refine q_move rfl rfl rfl rfl ?_
   refine q_nil_p rfl rfl rfl rfl ?_
   refine q_field (k := 1) rfl rfl rfl rfl Try.underlying71 rfl Try.sizeOf22 rfl ?_
   refine q_load_c (j := 1) rfl rfl rfl rfl Try.isAgg22 Tk (by first | rfl | exact (Nat.add_zero _).symm) (by rfl) ?_
   refine q_move rfl rfl rfl rfl ?_
   refine s_eq 92 rfl (v' := .int .i64 (rnE (newF th va vo lk pl) es i)) (by rw [hrn]) ?_
   refine l_buildSlice rfl rfl rfl rfl (run_build1 (us := [_]) Try.underlying22 Try.sizeOf3 rfl Try.zeroValue3 rfl rfl rfl) ?_
   intro b93
   refine ag_nil ?_
   refine l_append (sz := 1) (enc := encZ) (xs := (mks (rnE (newF th va vo lk pl) es) i)) rfl rfl rfl rfl rfl Try.underlying22 Try.typeInfo3 rfl rfl rfl (by decide) Tk Tk (by exact mks_len _ _) (ys := [(rnE (newF th va vo lk pl) es i)]) (rds_some rdn_cells) (by rfl) (by first | rfl | omega) (encZ_len) (encZ_one) (by omega) (by show _ * 8 ≤ _; omega) ?_
   intro ao94 cp94
   refine ag_nil ?_
   refine q_nil_p rfl rfl rfl rfl ?_
   refine q_field (k := 1) rfl rfl rfl rfl Try.underlying71 rfl Try.sizeOf22 rfl ?_
   refine l_store (j := 1) rfl rfl rfl rfl Try.sizeOf22 (us := [_]) rfl rfl rfl Tk (by first | rfl | exact (Nat.add_zero _).symm) (by first | decide | (simp; done) | omega) ?_
   simp only [setL, List.set]
   refine ag_nil ?_
   refine r_done ?_
   refine s_keep [1, 6, 8, 9, 43, 44, 45, 60, 61, 62] (e' := [(1, _), (6, _), (8, _), (9, _), (43, _), (44, _), (45, _), (60, _), (61, _), (62, _)]) rfl ?_
   refine k_blk_n ?_
   refine k_then_n ?_
   refine c_plain (.q 0 (.q 1 (.q 2 (.done)))) (by kernel_rfl) ?_
   refine q_move rfl rfl rfl rfl ?_
   refine q_int rfl rfl rfl rfl rfl (b_add' _ (by exact fits_i64 (by omega) (by omega))) ?_
   refine q_assign rfl rfl rfl rfl ?_
   refine r_done ?_
   refine k_then_n ?_
   rw [← sN_next he_, ← take_next he_, mks_next]
   refine loop_next (x := (i, ga, gc, qa, qc)) ((i + 1, ao84, cp84, ao94, cp94)) ?_ ?_ ?_ ?_
   · try dsimp only
     exact ⟨by omega, allC_next hI he_ hc1⟩
   · show m - (i + 1) < m - i; omega
   · exact ⟨rfl, rfl, rfl, rfl, trivial⟩
   · (try simp only [List.cons_append, List.nil_append]); exact Tf
  ·
   refine c_skip ?_
   refine k_then_n ?_
   refine c_seq ?_
   refine c_seq ?_
   refine c_plain (.q 0 (.q 1 ((.l 2 [] (.q 3 (.q 4 (.q 5 (.q 6 (.q 7 (.done)))))))))) (by kernel_rfl) ?_
   refine q_move rfl rfl rfl rfl ?_
   refine q_loadN_c rfl rfl rfl rfl Try.isAgg40 Try.sizeOf40 Tk 0 (us := [_, _, _]) (by first | rfl | exact (Nat.add_zero _).symm) rfl rfl ?_
   have sp_7 := rcan_spec kqp kqc kq (sN (newF th va vo lk pl) es i) (sN_inv (new_inv hok) es i) e.1 e.2.1 e.2.2
   refine l_call rfl rfl rfl rfl rfl rfl Try.call34 (sp_7) Ts ?_
   rintro ⟨⟩ -
   try simp only [List.cons_append, List.nil_append]
   refine ag_nil ?_
   refine q_move rfl rfl rfl rfl ?_
   refine s_bool_p 59 rfl (fun hg => ?_) (fun hg => by exfalso; exact hg hc1)
   refine q_field (k := 0) rfl rfl rfl rfl Try.underlying40 rfl Try.sizeOf38 rfl ?_
   refine q_load_c (j := 0) rfl rfl rfl rfl Try.isAgg38 Tk (by first | rfl | exact (Nat.add_zero _).symm) (by rfl) ?_
   refine q_int rfl rfl rfl rfl rfl (b_eql _ _ _ _) ?_
   refine q_pick_t rfl rfl rfl rfl rfl ?_
   refine r_done ?_
   refine s_keep [1, 6, 8, 9, 10, 11, 43, 44, 45, 60, 61, 62, 63] (e' := [(1, _), (6, _), (8, _), (9, _), (10, _), (11, _), (43, _), (44, _), (45, _), (60, _), (61, _), (62, _), (63, _)]) rfl ?_
   refine k_then_n ?_
   refine c_cond_p rfl (fun k10 => ?_) (fun k10 => ?_)
   ·
    have hrn : (stF (sN (newF th va vo lk pl) es i) e.2.1).2.2 = rnE (newF th va vo lk pl) es i := by rw [rnE_at he_, rndT, if_neg k9, if_pos k10]
    refine c_seq ?_
    refine c_plain (.q 0 (.q 1 (.q 2 ((.l 3 [] (.q 4 (.q 5 (.q 6 ((.l 7 [] ((.l 8 [] (.q 9 (.done)))))))))))))) (by kernel_rfl) ?_
    refine q_move rfl rfl rfl rfl ?_
    refine q_field (k := 1) rfl rfl rfl rfl Try.underlying40 rfl Try.sizeOf3 rfl ?_
    refine q_load_c (j := 1) rfl rfl rfl rfl Try.isAgg3 Tk (by first | rfl | exact (Nat.add_zero _).symm) (by rfl) ?_
    have sp_8 := rstand_spec kqp kqc kq (sN (newF th va vo lk pl) es i) (sN_inv (new_inv hok) es i) e.2.1
    refine l_call rfl rfl rfl rfl rfl rfl Try.call36 (sp_8) Ts ?_
    rintro ⟨⟩ -
    try simp only [List.cons_append, List.nil_append]
    refine ag_nil ?_
    refine q_move rfl rfl rfl rfl ?_
    refine q_extract rfl rfl rfl rfl rfl ?_
    refine q_extract rfl rfl rfl rfl rfl ?_
    refine l_alloc rfl rfl rfl Try.zeroValue79 (zs := [.int .i64 0, .int .i64 0, .int .i64 0]) rfl ?_
    intro b14
    refine ag_nil ?_
    refine l_store (j := 0) rfl rfl rfl rfl Try.sizeOf79 (us := [_, _, _]) rfl rfl rfl Tk (by first | rfl | exact (Nat.add_zero _).symm) (by first | decide | (simp; done) | omega) ?_
    simp only [setL, List.set]
    refine ag_nil ?_
    refine q_assign rfl rfl rfl rfl ?_
    refine r_done ?_
    refine s_keep [1, 6, 8, 9, 10, 14, 43, 44, 45, 60, 61, 62] (e' := [(1, _), (6, _), (8, _), (9, _), (10, _), (14, _), (43, _), (44, _), (45, _), (60, _), (61, _), (62, _)]) rfl ?_
    refine k_then_n ?_
    refine c_plain (.q 0 (.q 1 (.q 2 (.done)))) (by kernel_rfl) ?_
    refine q_field (k := 2) rfl rfl rfl rfl Try.underlying79 rfl Try.sizeOf3 rfl ?_
    refine q_load_c (j := 2) rfl rfl rfl rfl Try.isAgg3 Tk (by first | rfl | exact (Nat.add_zero _).symm) (by rfl) ?_
    refine q_assign rfl rfl rfl rfl ?_
    refine r_done ?_
    refine k_then_n ?_
    refine c_seq ?_
    refine c_seq ?_
    refine c_plain (.q 0 (.q 1 ((.l 2 [] (.q 3 (.done)))))) (by kernel_rfl) ?_
    refine q_move rfl rfl rfl rfl ?_
    refine q_loadN_c rfl rfl rfl rfl Try.isAgg40 Try.sizeOf40 Tk 0 (us := [_, _, _]) (by first | rfl | exact (Nat.add_zero _).symm) rfl rfl ?_
    have sp_9 := rnext_spec kqp kqc kq (sN (newF th va vo lk pl) es i) (sN_inv (new_inv hok) es i) (by omega) pl (((sN_sh _ _ _).1)) e.1 e.2.1 e.2.2
    refine l_call rfl rfl rfl rfl rfl rfl Try.call27 (sp_9) Ts ?_
    rintro ⟨⟩ -
    try simp only [List.cons_append, List.nil_append]
    refine ag_nil ?_
    refine q_int rfl rfl rfl rfl rfl (b_neq _ _ _ _) ?_
    refine r_done ?_
    refine s_keep [1, 6, 8, 9, 10, 11, 43, 44, 45, 60, 61, 62, 76] (e' := [(1, _), (6, _), (8, _), (9, _), (10, _), (11, _), (43, _), (44, _), (45, _), (60, _), (61, _), (62, _), (76, _)]) rfl ?_
    refine k_then_n ?_
    refine c_cond_p rfl (fun hg => by exfalso; exact hg (if_pos hc1)) (fun hg => ?_)
    refine c_skip ?_
    refine k_then_n ?_
    refine c_seq ?_
    refine c_draw rfl (.q 0 (.q 1 (.q 2 (.q 3 (.q 4 (.q 5 ((.l 6 [4] ((.l 7 [] (.q 8 (.q 9 ((.l 10 [] (.done))))))))))))))) (by kernel_rfl) ?_
    refine q_move rfl rfl rfl rfl ?_
    refine q_move rfl rfl rfl rfl ?_
    refine q_nil_p rfl rfl rfl rfl ?_
    refine q_field (k := 0) rfl rfl rfl rfl Try.underlying71 rfl Try.sizeOf25 rfl ?_
    refine q_load_c (j := 0) rfl rfl rfl rfl Try.isAgg25 Tk (by first | rfl | exact (Nat.add_zero _).symm) (by rfl) ?_
    refine q_loadN_c rfl rfl rfl rfl Try.isAgg40 Try.sizeOf40 Tk 0 (us := [_, _, _]) (by first | rfl | exact (Nat.add_zero _).symm) rfl rfl ?_
    refine l_buildSlice rfl rfl rfl rfl (run_build1 (us := [_, _, _]) Try.underlying25 Try.sizeOf40 rfl Try.zeroValue40 rfl rfl rfl) ?_
    intro b83
    refine ag_load_c (q := 0) rfl rfl rfl Try.isAgg25 Tk (by first | rfl | exact (Nat.add_zero _).symm) (by rfl) ?_
    refine ag_nil ?_
    refine l_append (sz := 3) (enc := enc3) (xs := (es.take i)) rfl rfl rfl rfl rfl Try.underlying25 Try.typeInfo40 rfl rfl rfl (by decide) Tk Tk (by first | rfl | omega | (simp; done) | (simp; omega)) (ys := [(e.1, e.2.1, e.2.2)]) (rds_some rdn_cells) (by rfl) (by first | rfl | omega) (enc3_len) (enc3_one) (by omega) (by show _ * 24 ≤ _; omega) ?_
    intro ao84 cp84
    refine ag_nil ?_
    refine q_nil_p rfl rfl rfl rfl ?_
    refine q_field (k := 0) rfl rfl rfl rfl Try.underlying71 rfl Try.sizeOf25 rfl ?_
    refine l_store (j := 0) rfl rfl rfl rfl Try.sizeOf25 (us := [_]) rfl rfl rfl Tk (by first | rfl | exact (Nat.add_zero _).symm) (by first | decide | (simp; done) | omega) ?_
    simp only [setL, List.set]
    refine ag_nil ?_
    refine r_done ?_
    refine s_keep [1, 6, 8, 9, 11, 43, 44, 45, 60, 61, 62] (e' := [(1, _), (6, _), (8, _), (9, _), (11, _), (43, _), (44, _), (45, _), (60, _), (61, _), (62, _)]) rfl ?_
    refine k_then_n ?_
    refine c_plain (.q 0 (.q 1 (.q 2 (.q 3 (.q 4 (.q 5 ((.l 6 [] ((.l 7 [] (.q 8 (.q 9 ((.l 10 [] (.done))))))))))))))) (by kernel_rfl) ?_
    refine q_move rfl rfl rfl rfl ?_
    refine q_move rfl rfl rfl rfl ?_
    refine q_nil_p rfl rfl rfl rfl ?_
    refine q_field (k := 1) rfl rfl rfl rfl Try.underlying71 rfl Try.sizeOf22 rfl ?_
    refine q_load_c (j := 1) rfl rfl rfl rfl Try.isAgg22 Tk (by first | rfl | exact (Nat.add_zero _).symm) (by rfl) ?_
    refine q_move rfl rfl rfl rfl ?_
    refine s_eq 92 rfl (v' := .int .i64 (rnE (newF th va vo lk pl) es i)) (by rw [hrn]) ?_
    refine l_buildSlice rfl rfl rfl rfl (run_build1 (us := [_]) Try.underlying22 Try.sizeOf3 rfl Try.zeroValue3 rfl rfl rfl) ?_
    intro b93
    refine ag_nil ?_
    refine l_append (sz := 1) (enc := encZ) (xs := (mks (rnE (newF th va vo lk pl) es) i)) rfl rfl rfl rfl rfl Try.underlying22 Try.typeInfo3 rfl rfl rfl (by decide) Tk Tk (by exact mks_len _ _) (ys := [(rnE (newF th va vo lk pl) es i)]) (rds_some rdn_cells) (by rfl) (by first | rfl | omega) (encZ_len) (encZ_one) (by omega) (by show _ * 8 ≤ _; omega) ?_
    intro ao94 cp94
    refine ag_nil ?_
    refine q_nil_p rfl rfl rfl rfl ?_
    refine q_field (k := 1) rfl rfl rfl rfl Try.underlying71 rfl Try.sizeOf22 rfl ?_
    refine l_store (j := 1) rfl rfl rfl rfl Try.sizeOf22 (us := [_]) rfl rfl rfl Tk (by first | rfl | exact (Nat.add_zero _).symm) (by first | decide | (simp; done) | omega) ?_
    simp only [setL, List.set]
    refine ag_nil ?_
    refine r_done ?_
    refine s_keep [1, 6, 8, 9, 43, 44, 45, 60, 61, 62] (e' := [(1, _), (6, _), (8, _), (9, _), (43, _), (44, _), (45, _), (60, _), (61, _), (62, _)]) rfl ?_
    refine k_blk_n ?_
    refine k_then_n ?_
    refine c_plain (.q 0 (.q 1 (.q 2 (.done)))) (by kernel_rfl) ?_
    refine q_move rfl rfl rfl rfl ?_
    refine q_int rfl rfl rfl rfl rfl (b_add' _ (by exact fits_i64 (by omega) (by omega))) ?_
    refine q_assign rfl rfl rfl rfl ?_
    refine r_done ?_
    refine k_then_n ?_
    rw [← sN_next he_, ← take_next he_, mks_next]
    refine loop_next (x := (i, ga, gc, qa, qc)) ((i + 1, ao84, cp84, ao94, cp94)) ?_ ?_ ?_ ?_
    · try dsimp only
      exact ⟨by omega, allC_next hI he_ hc1⟩
    · show m - (i + 1) < m - i; omega
    · exact ⟨rfl, rfl, rfl, rfl, trivial⟩
    · (try simp only [List.cons_append, List.nil_append]); exact Tf
   ·
    have hrn : (0 : Int) = rnE (newF th va vo lk pl) es i := by rw [rnE_at he_, rndT, if_neg k9, if_neg k10]
    refine c_skip ?_
    refine k_then_n ?_
    refine c_seq ?_
    refine c_seq ?_
    refine c_plain (.q 0 (.q 1 ((.l 2 [] (.q 3 (.done)))))) (by kernel_rfl) ?_
    refine q_move rfl rfl rfl rfl ?_
    refine q_loadN_c rfl rfl rfl rfl Try.isAgg40 Try.sizeOf40 Tk 0 (us := [_, _, _]) (by first | rfl | exact (Nat.add_zero _).symm) rfl rfl ?_
    have sp_10 := rnext_spec kqp kqc kq (sN (newF th va vo lk pl) es i) (sN_inv (new_inv hok) es i) (by omega) pl (((sN_sh _ _ _).1)) e.1 e.2.1 e.2.2
    refine l_call rfl rfl rfl rfl rfl rfl Try.call27 (sp_10) Ts ?_
    rintro ⟨⟩ -
    try simp only [List.cons_append, List.nil_append]
    refine ag_nil ?_
    refine q_int rfl rfl rfl rfl rfl (b_neq _ _ _ _) ?_
    refine r_done ?_
    refine s_keep [1, 6, 8, 9, 10, 11, 43, 44, 45, 60, 61, 62, 76] (e' := [(1, _), (6, _), (8, _), (9, _), (10, _), (11, _), (43, _), (44, _), (45, _), (60, _), (61, _), (62, _), (76, _)]) rfl ?_
    refine k_then_n ?_
    refine c_cond_p rfl (fun hg => by exfalso; exact hg (if_pos hc1)) (fun hg => ?_)
    refine c_skip ?_
    refine k_then_n ?_
    refine c_seq ?_
    refine c_draw rfl (.q 0 (.q 1 (.q 2 (.q 3 (.q 4 (.q 5 ((.l 6 [4] ((.l 7 [] (.q 8 (.q 9 ((.l 10 [] (.done))))))))))))))) (by kernel_rfl) ?_
    refine q_move rfl rfl rfl rfl ?_
    refine q_move rfl rfl rfl rfl ?_
    refine q_nil_p rfl rfl rfl rfl ?_
    refine q_field (k := 0) rfl rfl rfl rfl Try.underlying71 rfl Try.sizeOf25 rfl ?_
    refine q_load_c (j := 0) rfl rfl rfl rfl Try.isAgg25 Tk (by first | rfl | exact (Nat.add_zero _).symm) (by rfl) ?_
    refine q_loadN_c rfl rfl rfl rfl Try.isAgg40 Try.sizeOf40 Tk 0 (us := [_, _, _]) (by first | rfl | exact (Nat.add_zero _).symm) rfl rfl ?_
    refine l_buildSlice rfl rfl rfl rfl (run_build1 (us := [_, _, _]) Try.underlying25 Try.sizeOf40 rfl Try.zeroValue40 rfl rfl rfl) ?_
    intro b83
    refine ag_load_c (q := 0) rfl rfl rfl Try.isAgg25 Tk (by first | rfl | exact (Nat.add_zero _).symm) (by rfl) ?_
    refine ag_nil ?_
    refine l_append (sz := 3) (enc := enc3) (xs := (es.take i)) rfl rfl rfl rfl rfl Try.underlying25 Try.typeInfo40 rfl rfl rfl (by decide) Tk Tk (by first | rfl | omega | (simp; done) | (simp; omega)) (ys := [(e.1, e.2.1, e.2.2)]) (rds_some rdn_cells) (by rfl) (by first | rfl | omega) (enc3_len) (enc3_one) (by omega) (by show _ * 24 ≤ _; omega) ?_
    intro ao84 cp84
    refine ag_nil ?_
    refine q_nil_p rfl rfl rfl rfl ?_
    refine q_field (k := 0) rfl rfl rfl rfl Try.underlying71 rfl Try.sizeOf25 rfl ?_
    refine l_store (j := 0) rfl rfl rfl rfl Try.sizeOf25 (us := [_]) rfl rfl rfl Tk (by first | rfl | exact (Nat.add_zero _).symm) (by first | decide | (simp; done) | omega) ?_
    simp only [setL, List.set]
    refine ag_nil ?_
    refine r_done ?_
    refine s_keep [1, 6, 8, 9, 11, 43, 44, 45, 60, 61, 62] (e' := [(1, _), (6, _), (8, _), (9, _), (11, _), (43, _), (44, _), (45, _), (60, _), (61, _), (62, _)]) rfl ?_
    refine k_then_n ?_
    refine c_plain (.q 0 (.q 1 (.q 2 (.q 3 (.q 4 (.q 5 ((.l 6 [] ((.l 7 [] (.q 8 (.q 9 ((.l 10 [] (.done))))))))))))))) (by kernel_rfl) ?_
    refine q_move rfl rfl rfl rfl ?_
    refine q_move rfl rfl rfl rfl ?_
    refine q_nil_p rfl rfl rfl rfl ?_
    refine q_field (k := 1) rfl rfl rfl rfl Try.underlying71 rfl Try.sizeOf22 rfl ?_
    refine q_load_c (j := 1) rfl rfl rfl rfl Try.isAgg22 Tk (by first | rfl | exact (Nat.add_zero _).symm) (by rfl) ?_
    refine q_move rfl rfl rfl rfl ?_
    refine s_eq 92 rfl (v' := .int .i64 (rnE (newF th va vo lk pl) es i)) (by rw [hrn]) ?_
    refine l_buildSlice rfl rfl rfl rfl (run_build1 (us := [_]) Try.underlying22 Try.sizeOf3 rfl Try.zeroValue3 rfl rfl rfl) ?_
    intro b93
    refine ag_nil ?_
    refine l_append (sz := 1) (enc := encZ) (xs := (mks (rnE (newF th va vo lk pl) es) i)) rfl rfl rfl rfl rfl Try.underlying22 Try.typeInfo3 rfl rfl rfl (by decide) Tk Tk (by exact mks_len _ _) (ys := [(rnE (newF th va vo lk pl) es i)]) (rds_some rdn_cells) (by rfl) (by first | rfl | omega) (encZ_len) (encZ_one) (by omega) (by show _ * 8 ≤ _; omega) ?_
    intro ao94 cp94
    refine ag_nil ?_
    refine q_nil_p rfl rfl rfl rfl ?_
    refine q_field (k := 1) rfl rfl rfl rfl Try.underlying71 rfl Try.sizeOf22 rfl ?_
    refine l_store (j := 1) rfl rfl rfl rfl Try.sizeOf22 (us := [_]) rfl rfl rfl Tk (by first | rfl | exact (Nat.add_zero _).symm) (by first | decide | (simp; done) | omega) ?_
    simp only [setL, List.set]
    refine ag_nil ?_
    refine r_done ?_
    refine s_keep [1, 6, 8, 9, 43, 44, 45, 60, 61, 62] (e' := [(1, _), (6, _), (8, _), (9, _), (43, _), (44, _), (45, _), (60, _), (61, _), (62, _)]) rfl ?_
    refine k_blk_n ?_
    refine k_then_n ?_
    refine c_plain (.q 0 (.q 1 (.q 2 (.done)))) (by kernel_rfl) ?_
    refine q_move rfl rfl rfl rfl ?_
    refine q_int rfl rfl rfl rfl rfl (b_add' _ (by exact fits_i64 (by omega) (by omega))) ?_
    refine q_assign rfl rfl rfl rfl ?_
    refine r_done ?_
    refine k_then_n ?_
    rw [← sN_next he_, ← take_next he_, mks_next]
    refine loop_next (x := (i, ga, gc, qa, qc)) ((i + 1, ao84, cp84, ao94, cp94)) ?_ ?_ ?_ ?_
    · try dsimp only
      exact ⟨by omega, allC_next hI he_ hc1⟩
    · show m - (i + 1) < m - i; omega
    · exact ⟨rfl, rfl, rfl, rfl, trivial⟩
    · (try simp only [List.cons_append, List.nil_append]); exact Tf
 ·
  obtain rfl : m = i := by omega
  refine c_exit ?_
  refine k_then_exit ?_
  refine k_then_exit ?_
  refine k_blk_here ?_
  refine k_then_n ?_
  refine c_seq ?_
  rw [List.take_of_length_le (show es.length ≤ m by omega)]
  refine c_plain (.q 0 ((.l 1 [] (.done)))) (by kernel_rfl) ?_
  refine q_move rfl rfl rfl rfl ?_
  have sp_11 := oclose_spec b28 m gc qc ga qa es (mks (rnE (newF th va vo lk pl) es) m) hem (mks_len _ _) (by omega)
  refine l_call rfl rfl rfl rfl rfl rfl Try.call37 (sp_11) Ts ?_
  rintro ⟨⟩ -
  try simp only [List.cons_append, List.nil_append]
  refine ag_nil ?_
  refine r_done ?_
  refine s_keep [8] (e' := [(8, _)]) rfl ?_
  refine k_then_n ?_
  refine c_seq ?_
  refine c_plain (.q 0 (.q 1 (.q 2 (.done)))) (by kernel_rfl) ?_
  refine q_move rfl rfl rfl rfl ?_
  refine q_assign rfl rfl rfl rfl ?_
  refine q_assign rfl rfl rfl rfl ?_
  refine r_done ?_
  refine k_then_n ?_
  refine c_ret ?_
  rw [show mks (rnE (newF th va vo lk pl) es) m = rnds (newF th va vo lk pl) es from by rw [rnds, hem]]
  refine ret2 rfl rfl rfl (b28) (by first | rfl | (first | rfl | (congr 1; done) | (congr 1 <;> first | rfl | omega | (simp; done) | (simp; omega)))) (by trivial) ?_
  exact Tf
theorem onewbad1_spec (th va vo lk : Int) (pl : List Int) (ao : Option Addr) (n c : Nat) (A : HProp) (hr : RdS A ao (pl.flatMap encZ)) (hn : pl.length = n) (hb : n ≤ 4000000) (es : List T3) (eo : Option Addr) (m ec : Nat) (he : RdS A eo (es.flatMap enc3)) (hem : es.length = m) (hmb : m ≤ 4000000) (hok : OkS th va vo lk pl) (hbad : ¬ (es.length ≤ 2048 ∧ allC (newF th va vo lk pl) es es.length)) : Spec Try.prog 9 [.agg #[.int .i64 th, .int .i64 va, .int .i64 vo, .int .i64 lk, .slice ao n c], .slice eo m ec] [A] (fun (r : Int) => .tuple #[.pointer none, .int .i64 r]) (fun r => r ≠ 0) (fun r => [A]) := by
 refine spec_mk (n := 100) Try.func9 rfl rfl rfl ?_
 intro Γ w0
 simp only [argE, List.cons_append, List.nil_append, Nat.zero_add, Nat.reduceAdd]
 refine c_seq ?_
 refine c_plain ((.l 0 [] (.q 1 (.q 2 (.done))))) (by kernel_rfl) ?_
 refine l_box rfl rfl rfl rfl (us := [_, _, _, _, _]) rfl ?_
 intro b2
 refine ag_nil ?_
 refine q_assign rfl rfl rfl rfl ?_
 refine q_assign rfl rfl rfl rfl ?_
 refine r_done ?_
 refine k_then_n ?_
 refine c_seq ?_
 refine c_seq ?_
 refine c_plain (.q 0 ((.l 1 [] (.q 2 (.done))))) (by kernel_rfl) ?_
 refine q_loadN_c rfl rfl rfl rfl Try.isAgg24 Try.sizeOf24 Tk 0 (us := [_, _, _, _, _]) (by first | rfl | exact (Nat.add_zero _).symm) rfl rfl ?_
 have sp_1 := rshape_spec th va vo lk pl ao n c A (hr) (by first | rfl | assumption | omega | (simp; done) | (simp; omega)) (by omega)
 refine l_call rfl rfl rfl rfl rfl rfl Try.call33 (sp_1) Ts ?_
 rintro ⟨⟩ -
 try simp only [List.cons_append, List.nil_append]
 refine ag_nil ?_
 refine s_eq 17 rfl (v' := .int .i64 0) (by rw [if_pos hok]) ?_
 refine q_int rfl rfl rfl rfl rfl (b_neq _ _ _ _) ?_
 refine s_eq 18 rfl (v' := .bool false) (by first | rfl | simp) ?_
 refine r_done ?_
 refine s_keep [1, 2, 18] (e' := [(1, _), (2, _), (18, _)]) rfl ?_
 refine k_then_n ?_
 refine c_cond_f rfl ?_
 refine c_skip ?_
 refine k_then_n ?_
 refine c_seq ?_
 refine c_seq ?_
 refine c_plain (.q 0 (.q 1 (.q 2 (.done)))) (by kernel_rfl) ?_
 refine q_move rfl rfl rfl rfl ?_
 refine q_len rfl rfl rfl rfl Try.underlying25 ?_
 refine q_int rfl rfl rfl rfl rfl (b_gtr _ _ _ _) ?_
 refine r_done ?_
 refine k_then_n ?_
 refine c_cond_p rfl (fun hlen => ?_) (fun hlen => ?_)
 ·
  refine c_seq ?_
  refine c_plain (.q 0 (.q 1 (.done))) (by kernel_rfl) ?_
  refine q_assign rfl rfl rfl rfl ?_
  refine q_assign rfl rfl rfl rfl ?_
  refine r_done ?_
  refine s_keep [4, 5] (e' := [(4, _), (5, _)]) rfl ?_
  refine k_then_n ?_
  refine c_ret ?_
  refine k_then_ret ?_
  refine ret2 rfl rfl rfl (3) (by first | rfl | (first | rfl | (congr 1; done) | (congr 1 <;> first | rfl | omega | (simp; done) | (simp; omega)))) (by decide) ?_
  exact Tf
 ·
  refine c_skip ?_
  refine k_then_n ?_
  refine c_seq ?_
  refine c_plain (.q 0 ((.l 1 [] (.q 2 (.q 3 (.q 4 (.q 5 (.q 6 (.done))))))))) (by kernel_rfl) ?_
  refine q_loadN_c rfl rfl rfl rfl Try.isAgg24 Try.sizeOf24 Tk 0 (us := [_, _, _, _, _]) (by first | rfl | exact (Nat.add_zero _).symm) rfl rfl ?_
  have sp_2 := rnew_spec th va vo lk pl ao n c A (hr) (by first | rfl | assumption | omega | (simp; done) | (simp; omega)) (by omega) hok
  refine l_call rfl rfl rfl rfl rfl rfl Try.call24 (sp_2) Ts ?_
  rintro ⟨kq, kqp, kqc⟩ -
  try simp only [List.cons_append, List.nil_append]
  refine ag_nil ?_
  refine q_move rfl rfl rfl rfl ?_
  refine q_extract rfl rfl rfl rfl rfl ?_
  refine q_extract rfl rfl rfl rfl rfl ?_
  refine q_assign rfl rfl rfl rfl ?_
  refine q_assign rfl rfl rfl rfl ?_
  refine r_done ?_
  refine s_keep [1, 6] (e' := [(1, _), (6, _)]) rfl ?_
  refine k_then_n ?_
  refine c_seq ?_
  refine c_plain (.q 0 ((.l 1 [] (.q 2 (.done))))) (by kernel_rfl) ?_
  refine q_build rfl rfl rfl rfl (vs := [_, _, _]) (run_buildS Try.underlying71 Try.zeroValue71 (ps := [(0, 1), (1, 1), (2, 1)]) ⟨rfl, Try.sizeOf25, rfl, Try.sizeOf22, rfl, Try.sizeOf69, trivial⟩ rfl) ?_
  refine l_box rfl rfl rfl rfl (us := [_, _, _]) rfl ?_
  intro b28
  refine ag_nil ?_
  refine q_assign rfl rfl rfl rfl ?_
  refine r_done ?_
  refine s_heap (fun _ h => own_nil (sz := 3) (enc := enc3) h) ?_
  refine s_heap (fun _ h => own_nil (sz := 1) (enc := encZ) h) ?_
  refine k_then_n ?_
  refine c_seq ?_
  refine c_seq ?_
  refine c_plain (.q 0 (.done)) (by kernel_rfl) ?_
  refine q_assign rfl rfl rfl rfl ?_
  refine r_done ?_
  refine k_then_n ?_
  refine c_block ?_
  refine c_loop2 (α := Nat × Option Addr × Nat × Option Addr × Nat) (fun (x_ : Nat × Option Addr × Nat × Option Addr × Nat) => match x_ with | (i, ga, gc, qa, qc) => i ≤ m ∧ (allC (newF th va vo lk pl) es i)) (fun (x_ : Nat × Option Addr × Nat × Option Addr × Nat) => match x_ with | (i, ga, gc, qa, qc) => [(9, .int .i64 ((i : Nat) : Int))]) (fun (x_ : Nat × Option Addr × Nat × Option Addr × Nat) => match x_ with | (i, ga, gc, qa, qc) => [rk kqp kqc kq (sN (newF th va vo lk pl) es i), own 1 encZ kqp kqc pl, cells b28 0 [.slice ga i gc, .slice qa i qc, .slice none 0 0], own 3 enc3 ga gc (es.take i), own 1 encZ qa qc (mks (rnE (newF th va vo lk pl) es) i)]) (fun (x_ : Nat × Option Addr × Nat × Option Addr × Nat) => match x_ with | (i, ga, gc, qa, qc) => m - i) [1, 6, 8] (er := [(1, _), (6, _), (8, _)]) rfl (0, none, 0, none, 0) ?_ (by exact ⟨rfl, trivial⟩) (by (try dsimp only); rw [sN_zero]; (repeat ((with_reducible apply Z2); focus (first | (with_reducible (repeat (first | exact Z0 | apply Z1)); done) | (repeat (first | exact Z0 | apply Z1))))); exact Z3) ?_
  · exact ⟨Nat.zero_le _, allC_zero _ _⟩
  rintro ⟨i, ga, gc, qa, qc⟩ ⟨hle_i, hI⟩
  try simp only [List.cons_append, List.nil_append]
  have hsn := (sN_n (newF th va vo lk pl) es i).2
  have hz0 : (newF th va vo lk pl).n = 0 := rfl
  refine c_seq ?_
  refine c_seq ?_
  refine c_plain (.q 0 (.q 1 (.q 2 (.q 3 (.done))))) (by kernel_rfl) ?_
  refine q_move rfl rfl rfl rfl ?_
  refine q_move rfl rfl rfl rfl ?_
  refine q_len rfl rfl rfl rfl Try.underlying25 ?_
  refine q_int rfl rfl rfl rfl rfl (b_lss _ _ _ _) ?_
  refine r_done ?_
  refine k_then_n ?_
  refine c_cond_p rfl (fun hlt => ?_) (fun hlt => ?_)
  ·
   obtain ⟨e, he_⟩ := get_lt (l := es) (i := i) (by omega)
   refine c_skip ?_
   refine k_then_n ?_
   refine c_seq ?_
   refine c_block ?_
   refine c_seq ?_
   refine c_plain (.q 0 (.q 1 (.q 2 (.q 3 ((.l 4 [] ((.l 5 [] (.done))))))))) (by kernel_rfl) ?_
   refine q_move rfl rfl rfl rfl ?_
   refine q_move rfl rfl rfl rfl ?_
   refine q_idxR (sz := 2) (k := i) rfl rfl rfl rfl rfl Try.underlying25 Try.sizeOf40 (he) he_ enc3_len (by first | rfl | omega) (by omega) ?_
   intro ib37 io37 _ hd37
   refine q_loadN (vs := [_, _, _]) rfl rfl rfl rfl Try.isAgg40 Try.sizeOf40 Tk (hd37) rfl ?_
   refine l_alloc rfl rfl rfl Try.zeroValue40 (zs := [.int .i64 0, .int .i64 0, .int .i64 0]) rfl ?_
   intro b10
   refine ag_nil ?_
   refine l_store (j := 0) rfl rfl rfl rfl Try.sizeOf40 (us := [_, _, _]) rfl rfl rfl Tk (by first | rfl | exact (Nat.add_zero _).symm) (by first | decide | (simp; done) | omega) ?_
   simp only [setL, List.set]
   refine ag_nil ?_
   refine r_done ?_
   refine s_keep [1, 6, 8, 9, 10] (e' := [(1, _), (6, _), (8, _), (9, _), (10, _)]) rfl ?_
   refine k_then_n ?_
   refine c_seq ?_
   refine c_plain (.q 0 (.done)) (by kernel_rfl) ?_
   refine q_assign rfl rfl rfl rfl ?_
   refine r_done ?_
   refine k_then_n ?_
   refine c_seq ?_
   refine c_seq ?_
   refine c_plain (.q 0 (.q 1 ((.l 2 [] (.q 3 (.q 4 (.q 5 (.q 6 (.q 7 (.done)))))))))) (by kernel_rfl) ?_
   refine q_move rfl rfl rfl rfl ?_
   refine q_loadN_c rfl rfl rfl rfl Try.isAgg40 Try.sizeOf40 Tk 0 (us := [_, _, _]) (by first | rfl | exact (Nat.add_zero _).symm) rfl rfl ?_
   have sp_3 := rcan_spec kqp kqc kq (sN (newF th va vo lk pl) es i) (sN_inv (new_inv hok) es i) e.1 e.2.1 e.2.2
   refine l_call rfl rfl rfl rfl rfl rfl Try.call34 (sp_3) Ts ?_
   rintro ⟨⟩ -
   try simp only [List.cons_append, List.nil_append]
   refine ag_nil ?_
   refine q_move rfl rfl rfl rfl ?_
   refine s_bool_p 42 rfl (fun hc1 => ?_) (fun hc1 => ?_)
   ·
    refine q_field (k := 0) rfl rfl rfl rfl Try.underlying40 rfl Try.sizeOf38 rfl ?_
    refine q_load_c (j := 0) rfl rfl rfl rfl Try.isAgg38 Tk (by first | rfl | exact (Nat.add_zero _).symm) (by rfl) ?_
    refine q_int rfl rfl rfl rfl rfl (b_eql _ _ _ _) ?_
    refine q_pick_t rfl rfl rfl rfl rfl ?_
    refine r_done ?_
    refine s_keep [1, 6, 8, 9, 10, 11, 43, 44, 45, 46] (e' := [(1, _), (6, _), (8, _), (9, _), (10, _), (11, _), (43, _), (44, _), (45, _), (46, _)]) rfl ?_
    refine k_then_n ?_
    refine c_cond_p rfl (fun k9 => ?_) (fun k9 => ?_)
    ·
     have hyes : 0 ≤ e.2.2 ∧ e.2.2 < ((sN (newF th va vo lk pl) es i).B.length : Int) := by
       obtain ⟨p0, p1, -⟩ := (can_obj (sN_inv (new_inv hok) es i) hc1).2.2.1 k9
       exact ⟨p0, by omega⟩
     have hrn : (opF (sN (newF th va vo lk pl) es i) e.2.2).1 = rnE (newF th va vo lk pl) es i := by rw [rnE_at he_, rndT, if_pos k9]
     refine c_seq ?_
     refine c_plain (.q 0 (.q 1 (.q 2 ((.l 3 [] (.q 4 (.q 5 (.q 6 ((.l 7 [] ((.l 8 [] (.q 9 (.done)))))))))))))) (by kernel_rfl) ?_
     refine q_move rfl rfl rfl rfl ?_
     refine q_field (k := 2) rfl rfl rfl rfl Try.underlying40 rfl Try.sizeOf3 rfl ?_
     refine q_load_c (j := 2) rfl rfl rfl rfl Try.isAgg3 Tk (by first | rfl | exact (Nat.add_zero _).symm) (by rfl) ?_
     have sp_4 := rround_spec kqp kqc kq (sN (newF th va vo lk pl) es i) e.2.2
     refine l_call rfl rfl rfl rfl rfl rfl Try.call35 (sp_4) Ts ?_
     rintro ⟨⟩ -
     try simp only [List.cons_append, List.nil_append]
     refine ag_nil ?_
     refine s_eq 51 rfl (v' := .tuple #[.agg #[.int .i64 ((opF (sN (newF th va vo lk pl) es i) e.2.2).1), .int .i64 ((opF (sN (newF th va vo lk pl) es i) e.2.2).2)], .int .i64 0]) (by rw [if_pos hyes, if_pos hyes]) ?_
     refine q_move rfl rfl rfl rfl ?_
     refine q_extract rfl rfl rfl rfl rfl ?_
     refine q_extract rfl rfl rfl rfl rfl ?_
     refine l_alloc rfl rfl rfl Try.zeroValue74 (zs := [.int .i64 0, .int .i64 0]) rfl ?_
     intro b12
     refine ag_nil ?_
     refine l_store (j := 0) rfl rfl rfl rfl Try.sizeOf74 (us := [_, _]) rfl rfl rfl Tk (by first | rfl | exact (Nat.add_zero _).symm) (by first | decide | (simp; done) | omega) ?_
     simp only [setL, List.set]
     refine ag_nil ?_
     refine q_assign rfl rfl rfl rfl ?_
     refine r_done ?_
     refine s_keep [1, 6, 8, 9, 10, 12, 43, 44, 45] (e' := [(1, _), (6, _), (8, _), (9, _), (10, _), (12, _), (43, _), (44, _), (45, _)]) rfl ?_
     refine k_then_n ?_
     refine c_plain (.q 0 (.q 1 (.q 2 (.done)))) (by kernel_rfl) ?_
     refine q_field (k := 0) rfl rfl rfl rfl Try.underlying74 rfl Try.sizeOf3 rfl ?_
     refine q_load_c (j := 0) rfl rfl rfl rfl Try.isAgg3 Tk (by first | rfl | exact (Nat.add_zero _).symm) (by rfl) ?_
     refine q_assign rfl rfl rfl rfl ?_
     refine r_done ?_
     refine k_then_n ?_
     refine c_seq ?_
     refine c_seq ?_
     refine c_plain (.q 0 (.q 1 ((.l 2 [] (.q 3 (.q 4 (.q 5 (.q 6 (.q 7 (.done)))))))))) (by kernel_rfl) ?_
     refine q_move rfl rfl rfl rfl ?_
     refine q_loadN_c rfl rfl rfl rfl Try.isAgg40 Try.sizeOf40 Tk 0 (us := [_, _, _]) (by first | rfl | exact (Nat.add_zero _).symm) rfl rfl ?_
     have sp_5 := rcan_spec kqp kqc kq (sN (newF th va vo lk pl) es i) (sN_inv (new_inv hok) es i) e.1 e.2.1 e.2.2
     refine l_call rfl rfl rfl rfl rfl rfl Try.call34 (sp_5) Ts ?_
     rintro ⟨⟩ -
     try simp only [List.cons_append, List.nil_append]
     refine ag_nil ?_
     refine q_move rfl rfl rfl rfl ?_
     refine s_bool_p 59 rfl (fun hg => ?_) (fun hg => by exfalso; exact hg hc1)
     refine q_field (k := 0) rfl rfl rfl rfl Try.underlying40 rfl Try.sizeOf38 rfl ?_
     refine q_load_c (j := 0) rfl rfl rfl rfl Try.isAgg38 Tk (by first | rfl | exact (Nat.add_zero _).symm) (by rfl) ?_
     refine q_int rfl rfl rfl rfl rfl (b_eql _ _ _ _) ?_
     refine q_pick_t rfl rfl rfl rfl rfl ?_
     refine r_done ?_
     refine s_keep [1, 6, 8, 9, 10, 11, 43, 44, 45, 60, 61, 62, 63] (e' := [(1, _), (6, _), (8, _), (9, _), (10, _), (11, _), (43, _), (44, _), (45, _), (60, _), (61, _), (62, _), (63, _)]) rfl ?_
     refine k_then_n ?_
     refine c_cond_p rfl (fun hg => by exfalso; omega) (fun hg => ?_)
     refine c_skip ?_
     refine k_then_n ?_
     refine c_seq ?_
     refine c_seq ?_
     refine c_plain (.q 0 (.q 1 ((.l 2 [] (.q 3 (.done)))))) (by kernel_rfl) ?_
     refine q_move rfl rfl rfl rfl ?_
     refine q_loadN_c rfl rfl rfl rfl Try.isAgg40 Try.sizeOf40 Tk 0 (us := [_, _, _]) (by first | rfl | exact (Nat.add_zero _).symm) rfl rfl ?_
     have sp_6 := rnext_spec kqp kqc kq (sN (newF th va vo lk pl) es i) (sN_inv (new_inv hok) es i) (by omega) pl (((sN_sh _ _ _).1)) e.1 e.2.1 e.2.2
     refine l_call rfl rfl rfl rfl rfl rfl Try.call27 (sp_6) Ts ?_
     rintro ⟨⟩ -
     try simp only [List.cons_append, List.nil_append]
     refine ag_nil ?_
     refine q_int rfl rfl rfl rfl rfl (b_neq _ _ _ _) ?_
     refine r_done ?_
     refine s_keep [1, 6, 8, 9, 10, 11, 43, 44, 45, 60, 61, 62, 76] (e' := [(1, _), (6, _), (8, _), (9, _), (10, _), (11, _), (43, _), (44, _), (45, _), (60, _), (61, _), (62, _), (76, _)]) rfl ?_
     refine k_then_n ?_
     refine c_cond_p rfl (fun hg => by exfalso; exact hg (if_pos hc1)) (fun hg => ?_)
     refine c_skip ?_
     refine k_then_n ?_
     refine c_seq ?_
     refine c_draw rfl (.q 0 (.q 1 (.q 2 (.q 3 (.q 4 (.q 5 ((.l 6 [4] ((.l 7 [] (.q 8 (.q 9 ((.l 10 [] (.done))))))))))))))) (by kernel_rfl) ?_
     refine q_move rfl rfl rfl rfl ?_
     refine q_move rfl rfl rfl rfl ?_
     refine q_nil_p rfl rfl rfl rfl ?_
     refine q_field (k := 0) rfl rfl rfl rfl Try.underlying71 rfl Try.sizeOf25 rfl ?_
     refine q_load_c (j := 0) rfl rfl rfl rfl Try.isAgg25 Tk (by first | rfl | exact (Nat.add_zero _).symm) (by rfl) ?_
     refine q_loadN_c rfl rfl rfl rfl Try.isAgg40 Try.sizeOf40 Tk 0 (us := [_, _, _]) (by first | rfl | exact (Nat.add_zero _).symm) rfl rfl ?_
     refine l_buildSlice rfl rfl rfl rfl (run_build1 (us := [_, _, _]) Try.underlying25 Try.sizeOf40 rfl Try.zeroValue40 rfl rfl rfl) ?_
     intro b83
     refine ag_load_c (q := 0) rfl rfl rfl Try.isAgg25 Tk (by first | rfl | exact (Nat.add_zero _).symm) (by rfl) ?_
     refine ag_nil ?_
     refine l_append (sz := 3) (enc := enc3) (xs := (es.take i)) rfl rfl rfl rfl rfl Try.underlying25 Try.typeInfo40 rfl rfl rfl (by decide) Tk Tk (by first | rfl | omega | (simp; done) | (simp; omega)) (ys := [(e.1, e.2.1, e.2.2)]) (rds_some rdn_cells) (by rfl) (by first | rfl | omega) (enc3_len) (enc3_one) (by omega) (by show _ * 24 ≤ _; omega) ?_
     intro ao84 cp84
     refine ag_nil ?_
     refine q_nil_p rfl rfl rfl rfl ?_
     refine q_field (k := 0) rfl rfl rfl rfl Try.underlying71 rfl Try.sizeOf25 rfl ?_
     refine l_store (j := 0) rfl rfl rfl rfl Try.sizeOf25 (us := [_]) rfl rfl rfl Tk (by first | rfl | exact (Nat.add_zero _).symm) (by first | decide | (simp; done) | omega) ?_
     simp only [setL, List.set]
     refine ag_nil ?_
     refine r_done ?_
     refine s_keep [1, 6, 8, 9, 11, 43, 44, 45, 60, 61, 62] (e' := [(1, _), (6, _), (8, _), (9, _), (11, _), (43, _), (44, _), (45, _), (60, _), (61, _), (62, _)]) rfl ?_
     refine k_then_n ?_
     refine c_plain (.q 0 (.q 1 (.q 2 (.q 3 (.q 4 (.q 5 ((.l 6 [] ((.l 7 [] (.q 8 (.q 9 ((.l 10 [] (.done))))))))))))))) (by kernel_rfl) ?_
     refine q_move rfl rfl rfl rfl ?_
     refine q_move rfl rfl rfl rfl ?_
     refine q_nil_p rfl rfl rfl rfl ?_
     refine q_field (k := 1) rfl rfl rfl rfl Try.underlying71 rfl Try.sizeOf22 rfl ?_
     refine q_load_c (j := 1) rfl rfl rfl rfl Try.isAgg22 Tk (by first | rfl | exact (Nat.add_zero _).symm) (by rfl) ?_
     refine q_move rfl rfl rfl rfl ?_
     refine s_eq 92 rfl (v' := .int .i64 (rnE (newF th va vo lk pl) es i)) (by rw [hrn]) ?_
     refine l_buildSlice rfl rfl rfl rfl (run_build1 (us := [_]) Try.underlying22 Try.sizeOf3 rfl Try.zeroValue3 rfl rfl rfl) ?_
     intro b93
     refine ag_nil ?_
     refine l_append (sz := 1) (enc := encZ) (xs := (mks (rnE (newF th va vo lk pl) es) i)) rfl rfl rfl rfl rfl Try.underlying22 Try.typeInfo3 rfl rfl rfl (by decide) Tk Tk (by exact mks_len _ _) (ys := [(rnE (newF th va vo lk pl) es i)]) (rds_some rdn_cells) (by rfl) (by first | rfl | omega) (encZ_len) (encZ_one) (by omega) (by show _ * 8 ≤ _; omega) ?_
     intro ao94 cp94
     refine ag_nil ?_
     refine q_nil_p rfl rfl rfl rfl ?_
     refine q_field (k := 1) rfl rfl rfl rfl Try.underlying71 rfl Try.sizeOf22 rfl ?_
     refine l_store (j := 1) rfl rfl rfl rfl Try.sizeOf22 (us := [_]) rfl rfl rfl Tk (by first | rfl | exact (Nat.add_zero _).symm) (by first | decide | (simp; done) | omega) ?_
     simp only [setL, List.set]
     refine ag_nil ?_
     refine r_done ?_
     refine s_keep [1, 6, 8, 9, 43, 44, 45, 60, 61, 62] (e' := [(1, _), (6, _), (8, _), (9, _), (43, _), (44, _), (45, _), (60, _), (61, _), (62, _)]) rfl ?_
     refine k_blk_n ?_
     refine k_then_n ?_
     refine c_plain (.q 0 (.q 1 (.q 2 (.done)))) (by kernel_rfl) ?_
     refine q_move rfl rfl rfl rfl ?_
     refine q_int rfl rfl rfl rfl rfl (b_add' _ (by exact fits_i64 (by omega) (by omega))) ?_
     refine q_assign rfl rfl rfl rfl ?_
     refine r_done ?_
     refine k_then_n ?_
     rw [← sN_next he_, ← take_next he_, mks_next]
     refine loop_next (x := (i, ga, gc, qa, qc)) ((i + 1, ao84, cp84, ao94, cp94)) ?_ ?_ ?_ ?_
     · try dsimp only
       exact ⟨by omega, allC_next hI he_ hc1⟩
     · show m - (i + 1) < m - i; omega
     · exact ⟨rfl, rfl, rfl, rfl, trivial⟩
     · (try simp only [List.cons_append, List.nil_append]); exact Tf
    ·
     refine c_skip ?_
     refine k_then_n ?_
     refine c_seq ?_
     refine c_seq ?_
     refine c_plain (.q 0 (.q 1 ((.l 2 [] (.q 3 (.q 4 (.q 5 (.q 6 (.q 7 (.done)))))))))) (by kernel_rfl) ?_
     refine q_move rfl rfl rfl rfl ?_
     refine q_loadN_c rfl rfl rfl rfl Try.isAgg40 Try.sizeOf40 Tk 0 (us := [_, _, _]) (by first | rfl | exact (Nat.add_zero _).symm) rfl rfl ?_
     have sp_7 := rcan_spec kqp kqc kq (sN (newF th va vo lk pl) es i) (sN_inv (new_inv hok) es i) e.1 e.2.1 e.2.2
     refine l_call rfl rfl rfl rfl rfl rfl Try.call34 (sp_7) Ts ?_
     rintro ⟨⟩ -
     try simp only [List.cons_append, List.nil_append]
     refine ag_nil ?_
     refine q_move rfl rfl rfl rfl ?_
     refine s_bool_p 59 rfl (fun hg => ?_) (fun hg => by exfalso; exact hg hc1)
     refine q_field (k := 0) rfl rfl rfl rfl Try.underlying40 rfl Try.sizeOf38 rfl ?_
     refine q_load_c (j := 0) rfl rfl rfl rfl Try.isAgg38 Tk (by first | rfl | exact (Nat.add_zero _).symm) (by rfl) ?_
     refine q_int rfl rfl rfl rfl rfl (b_eql _ _ _ _) ?_
     refine q_pick_t rfl rfl rfl rfl rfl ?_
     refine r_done ?_
     refine s_keep [1, 6, 8, 9, 10, 11, 43, 44, 45, 60, 61, 62, 63] (e' := [(1, _), (6, _), (8, _), (9, _), (10, _), (11, _), (43, _), (44, _), (45, _), (60, _), (61, _), (62, _), (63, _)]) rfl ?_
     refine k_then_n ?_
     refine c_cond_p rfl (fun k10 => ?_) (fun k10 => ?_)
     ·
      have hrn : (stF (sN (newF th va vo lk pl) es i) e.2.1).2.2 = rnE (newF th va vo lk pl) es i := by rw [rnE_at he_, rndT, if_neg k9, if_pos k10]
      refine c_seq ?_
      refine c_plain (.q 0 (.q 1 (.q 2 ((.l 3 [] (.q 4 (.q 5 (.q 6 ((.l 7 [] ((.l 8 [] (.q 9 (.done)))))))))))))) (by kernel_rfl) ?_
      refine q_move rfl rfl rfl rfl ?_
      refine q_field (k := 1) rfl rfl rfl rfl Try.underlying40 rfl Try.sizeOf3 rfl ?_
      refine q_load_c (j := 1) rfl rfl rfl rfl Try.isAgg3 Tk (by first | rfl | exact (Nat.add_zero _).symm) (by rfl) ?_
      have sp_8 := rstand_spec kqp kqc kq (sN (newF th va vo lk pl) es i) (sN_inv (new_inv hok) es i) e.2.1
      refine l_call rfl rfl rfl rfl rfl rfl Try.call36 (sp_8) Ts ?_
      rintro ⟨⟩ -
      try simp only [List.cons_append, List.nil_append]
      refine ag_nil ?_
      refine q_move rfl rfl rfl rfl ?_
      refine q_extract rfl rfl rfl rfl rfl ?_
      refine q_extract rfl rfl rfl rfl rfl ?_
      refine l_alloc rfl rfl rfl Try.zeroValue79 (zs := [.int .i64 0, .int .i64 0, .int .i64 0]) rfl ?_
      intro b14
      refine ag_nil ?_
      refine l_store (j := 0) rfl rfl rfl rfl Try.sizeOf79 (us := [_, _, _]) rfl rfl rfl Tk (by first | rfl | exact (Nat.add_zero _).symm) (by first | decide | (simp; done) | omega) ?_
      simp only [setL, List.set]
      refine ag_nil ?_
      refine q_assign rfl rfl rfl rfl ?_
      refine r_done ?_
      refine s_keep [1, 6, 8, 9, 10, 14, 43, 44, 45, 60, 61, 62] (e' := [(1, _), (6, _), (8, _), (9, _), (10, _), (14, _), (43, _), (44, _), (45, _), (60, _), (61, _), (62, _)]) rfl ?_
      refine k_then_n ?_
      refine c_plain (.q 0 (.q 1 (.q 2 (.done)))) (by kernel_rfl) ?_
      refine q_field (k := 2) rfl rfl rfl rfl Try.underlying79 rfl Try.sizeOf3 rfl ?_
      refine q_load_c (j := 2) rfl rfl rfl rfl Try.isAgg3 Tk (by first | rfl | exact (Nat.add_zero _).symm) (by rfl) ?_
      refine q_assign rfl rfl rfl rfl ?_
      refine r_done ?_
      refine k_then_n ?_
      refine c_seq ?_
      refine c_seq ?_
      refine c_plain (.q 0 (.q 1 ((.l 2 [] (.q 3 (.done)))))) (by kernel_rfl) ?_
      refine q_move rfl rfl rfl rfl ?_
      refine q_loadN_c rfl rfl rfl rfl Try.isAgg40 Try.sizeOf40 Tk 0 (us := [_, _, _]) (by first | rfl | exact (Nat.add_zero _).symm) rfl rfl ?_
      have sp_9 := rnext_spec kqp kqc kq (sN (newF th va vo lk pl) es i) (sN_inv (new_inv hok) es i) (by omega) pl (((sN_sh _ _ _).1)) e.1 e.2.1 e.2.2
      refine l_call rfl rfl rfl rfl rfl rfl Try.call27 (sp_9) Ts ?_
      rintro ⟨⟩ -
      try simp only [List.cons_append, List.nil_append]
      refine ag_nil ?_
      refine q_int rfl rfl rfl rfl rfl (b_neq _ _ _ _) ?_
      refine r_done ?_
      refine s_keep [1, 6, 8, 9, 10, 11, 43, 44, 45, 60, 61, 62, 76] (e' := [(1, _), (6, _), (8, _), (9, _), (10, _), (11, _), (43, _), (44, _), (45, _), (60, _), (61, _), (62, _), (76, _)]) rfl ?_
      refine k_then_n ?_
      refine c_cond_p rfl (fun hg => by exfalso; exact hg (if_pos hc1)) (fun hg => ?_)
      refine c_skip ?_
      refine k_then_n ?_
      refine c_seq ?_
      refine c_draw rfl (.q 0 (.q 1 (.q 2 (.q 3 (.q 4 (.q 5 ((.l 6 [4] ((.l 7 [] (.q 8 (.q 9 ((.l 10 [] (.done))))))))))))))) (by kernel_rfl) ?_
      refine q_move rfl rfl rfl rfl ?_
      refine q_move rfl rfl rfl rfl ?_
      refine q_nil_p rfl rfl rfl rfl ?_
      refine q_field (k := 0) rfl rfl rfl rfl Try.underlying71 rfl Try.sizeOf25 rfl ?_
      refine q_load_c (j := 0) rfl rfl rfl rfl Try.isAgg25 Tk (by first | rfl | exact (Nat.add_zero _).symm) (by rfl) ?_
      refine q_loadN_c rfl rfl rfl rfl Try.isAgg40 Try.sizeOf40 Tk 0 (us := [_, _, _]) (by first | rfl | exact (Nat.add_zero _).symm) rfl rfl ?_
      refine l_buildSlice rfl rfl rfl rfl (run_build1 (us := [_, _, _]) Try.underlying25 Try.sizeOf40 rfl Try.zeroValue40 rfl rfl rfl) ?_
      intro b83
      refine ag_load_c (q := 0) rfl rfl rfl Try.isAgg25 Tk (by first | rfl | exact (Nat.add_zero _).symm) (by rfl) ?_
      refine ag_nil ?_
      refine l_append (sz := 3) (enc := enc3) (xs := (es.take i)) rfl rfl rfl rfl rfl Try.underlying25 Try.typeInfo40 rfl rfl rfl (by decide) Tk Tk (by first | rfl | omega | (simp; done) | (simp; omega)) (ys := [(e.1, e.2.1, e.2.2)]) (rds_some rdn_cells) (by rfl) (by first | rfl | omega) (enc3_len) (enc3_one) (by omega) (by show _ * 24 ≤ _; omega) ?_
      intro ao84 cp84
      refine ag_nil ?_
      refine q_nil_p rfl rfl rfl rfl ?_
      refine q_field (k := 0) rfl rfl rfl rfl Try.underlying71 rfl Try.sizeOf25 rfl ?_
      refine l_store (j := 0) rfl rfl rfl rfl Try.sizeOf25 (us := [_]) rfl rfl rfl Tk (by first | rfl | exact (Nat.add_zero _).symm) (by first | decide | (simp; done) | omega) ?_
      simp only [setL, List.set]
      refine ag_nil ?_
      refine r_done ?_
      refine s_keep [1, 6, 8, 9, 11, 43, 44, 45, 60, 61, 62] (e' := [(1, _), (6, _), (8, _), (9, _), (11, _), (43, _), (44, _), (45, _), (60, _), (61, _), (62, _)]) rfl ?_
      refine k_then_n ?_
      refine c_plain (.q 0 (.q 1 (.q 2 (.q 3 (.q 4 (.q 5 ((.l 6 [] ((.l 7 [] (.q 8 (.q 9 ((.l 10 [] (.done))))))))))))))) (by kernel_rfl) ?_
      refine q_move rfl rfl rfl rfl ?_
      refine q_move rfl rfl rfl rfl ?_
      refine q_nil_p rfl rfl rfl rfl ?_
      refine q_field (k := 1) rfl rfl rfl rfl Try.underlying71 rfl Try.sizeOf22 rfl ?_
      refine q_load_c (j := 1) rfl rfl rfl rfl Try.isAgg22 Tk (by first | rfl | exact (Nat.add_zero _).symm) (by rfl) ?_
      refine q_move rfl rfl rfl rfl ?_
      refine s_eq 92 rfl (v' := .int .i64 (rnE (newF th va vo lk pl) es i)) (by rw [hrn]) ?_
      refine l_buildSlice rfl rfl rfl rfl (run_build1 (us := [_]) Try.underlying22 Try.sizeOf3 rfl Try.zeroValue3 rfl rfl rfl) ?_
      intro b93
      refine ag_nil ?_
      refine l_append (sz := 1) (enc := encZ) (xs := (mks (rnE (newF th va vo lk pl) es) i)) rfl rfl rfl rfl rfl Try.underlying22 Try.typeInfo3 rfl rfl rfl (by decide) Tk Tk (by exact mks_len _ _) (ys := [(rnE (newF th va vo lk pl) es i)]) (rds_some rdn_cells) (by rfl) (by first | rfl | omega) (encZ_len) (encZ_one) (by omega) (by show _ * 8 ≤ _; omega) ?_
      intro ao94 cp94
      refine ag_nil ?_
      refine q_nil_p rfl rfl rfl rfl ?_
      refine q_field (k := 1) rfl rfl rfl rfl Try.underlying71 rfl Try.sizeOf22 rfl ?_
      refine l_store (j := 1) rfl rfl rfl rfl Try.sizeOf22 (us := [_]) rfl rfl rfl Tk (by first | rfl | exact (Nat.add_zero _).symm) (by first | decide | (simp; done) | omega) ?_
      simp only [setL, List.set]
      refine ag_nil ?_
      refine r_done ?_
      refine s_keep [1, 6, 8, 9, 43, 44, 45, 60, 61, 62] (e' := [(1, _), (6, _), (8, _), (9, _), (43, _), (44, _), (45, _), (60, _), (61, _), (62, _)]) rfl ?_
      refine k_blk_n ?_
      refine k_then_n ?_
      refine c_plain (.q 0 (.q 1 (.q 2 (.done)))) (by kernel_rfl) ?_
      refine q_move rfl rfl rfl rfl ?_
      refine q_int rfl rfl rfl rfl rfl (b_add' _ (by exact fits_i64 (by omega) (by omega))) ?_
      refine q_assign rfl rfl rfl rfl ?_
      refine r_done ?_
      refine k_then_n ?_
      rw [← sN_next he_, ← take_next he_, mks_next]
      refine loop_next (x := (i, ga, gc, qa, qc)) ((i + 1, ao84, cp84, ao94, cp94)) ?_ ?_ ?_ ?_
      · try dsimp only
        exact ⟨by omega, allC_next hI he_ hc1⟩
      · show m - (i + 1) < m - i; omega
      · exact ⟨rfl, rfl, rfl, rfl, trivial⟩
      · (try simp only [List.cons_append, List.nil_append]); exact Tf
     ·
      have hrn : (0 : Int) = rnE (newF th va vo lk pl) es i := by rw [rnE_at he_, rndT, if_neg k9, if_neg k10]
      refine c_skip ?_
      refine k_then_n ?_
      refine c_seq ?_
      refine c_seq ?_
      refine c_plain (.q 0 (.q 1 ((.l 2 [] (.q 3 (.done)))))) (by kernel_rfl) ?_
      refine q_move rfl rfl rfl rfl ?_
      refine q_loadN_c rfl rfl rfl rfl Try.isAgg40 Try.sizeOf40 Tk 0 (us := [_, _, _]) (by first | rfl | exact (Nat.add_zero _).symm) rfl rfl ?_
      have sp_10 := rnext_spec kqp kqc kq (sN (newF th va vo lk pl) es i) (sN_inv (new_inv hok) es i) (by omega) pl (((sN_sh _ _ _).1)) e.1 e.2.1 e.2.2
      refine l_call rfl rfl rfl rfl rfl rfl Try.call27 (sp_10) Ts ?_
      rintro ⟨⟩ -
      try simp only [List.cons_append, List.nil_append]
      refine ag_nil ?_
      refine q_int rfl rfl rfl rfl rfl (b_neq _ _ _ _) ?_
      refine r_done ?_
      refine s_keep [1, 6, 8, 9, 10, 11, 43, 44, 45, 60, 61, 62, 76] (e' := [(1, _), (6, _), (8, _), (9, _), (10, _), (11, _), (43, _), (44, _), (45, _), (60, _), (61, _), (62, _), (76, _)]) rfl ?_
      refine k_then_n ?_
      refine c_cond_p rfl (fun hg => by exfalso; exact hg (if_pos hc1)) (fun hg => ?_)
      refine c_skip ?_
      refine k_then_n ?_
      refine c_seq ?_
      refine c_draw rfl (.q 0 (.q 1 (.q 2 (.q 3 (.q 4 (.q 5 ((.l 6 [4] ((.l 7 [] (.q 8 (.q 9 ((.l 10 [] (.done))))))))))))))) (by kernel_rfl) ?_
      refine q_move rfl rfl rfl rfl ?_
      refine q_move rfl rfl rfl rfl ?_
      refine q_nil_p rfl rfl rfl rfl ?_
      refine q_field (k := 0) rfl rfl rfl rfl Try.underlying71 rfl Try.sizeOf25 rfl ?_
      refine q_load_c (j := 0) rfl rfl rfl rfl Try.isAgg25 Tk (by first | rfl | exact (Nat.add_zero _).symm) (by rfl) ?_
      refine q_loadN_c rfl rfl rfl rfl Try.isAgg40 Try.sizeOf40 Tk 0 (us := [_, _, _]) (by first | rfl | exact (Nat.add_zero _).symm) rfl rfl ?_
      refine l_buildSlice rfl rfl rfl rfl (run_build1 (us := [_, _, _]) Try.underlying25 Try.sizeOf40 rfl Try.zeroValue40 rfl rfl rfl) ?_
      intro b83
      refine ag_load_c (q := 0) rfl rfl rfl Try.isAgg25 Tk (by first | rfl | exact (Nat.add_zero _).symm) (by rfl) ?_
      refine ag_nil ?_
      refine l_append (sz := 3) (enc := enc3) (xs := (es.take i)) rfl rfl rfl rfl rfl Try.underlying25 Try.typeInfo40 rfl rfl rfl (by decide) Tk Tk (by first | rfl | omega | (simp; done) | (simp; omega)) (ys := [(e.1, e.2.1, e.2.2)]) (rds_some rdn_cells) (by rfl) (by first | rfl | omega) (enc3_len) (enc3_one) (by omega) (by show _ * 24 ≤ _; omega) ?_
      intro ao84 cp84
      refine ag_nil ?_
      refine q_nil_p rfl rfl rfl rfl ?_
      refine q_field (k := 0) rfl rfl rfl rfl Try.underlying71 rfl Try.sizeOf25 rfl ?_
      refine l_store (j := 0) rfl rfl rfl rfl Try.sizeOf25 (us := [_]) rfl rfl rfl Tk (by first | rfl | exact (Nat.add_zero _).symm) (by first | decide | (simp; done) | omega) ?_
      simp only [setL, List.set]
      refine ag_nil ?_
      refine r_done ?_
      refine s_keep [1, 6, 8, 9, 11, 43, 44, 45, 60, 61, 62] (e' := [(1, _), (6, _), (8, _), (9, _), (11, _), (43, _), (44, _), (45, _), (60, _), (61, _), (62, _)]) rfl ?_
      refine k_then_n ?_
      refine c_plain (.q 0 (.q 1 (.q 2 (.q 3 (.q 4 (.q 5 ((.l 6 [] ((.l 7 [] (.q 8 (.q 9 ((.l 10 [] (.done))))))))))))))) (by kernel_rfl) ?_
      refine q_move rfl rfl rfl rfl ?_
      refine q_move rfl rfl rfl rfl ?_
      refine q_nil_p rfl rfl rfl rfl ?_
      refine q_field (k := 1) rfl rfl rfl rfl Try.underlying71 rfl Try.sizeOf22 rfl ?_
      refine q_load_c (j := 1) rfl rfl rfl rfl Try.isAgg22 Tk (by first | rfl | exact (Nat.add_zero _).symm) (by rfl) ?_
      refine q_move rfl rfl rfl rfl ?_
      refine s_eq 92 rfl (v' := .int .i64 (rnE (newF th va vo lk pl) es i)) (by rw [hrn]) ?_
      refine l_buildSlice rfl rfl rfl rfl (run_build1 (us := [_]) Try.underlying22 Try.sizeOf3 rfl Try.zeroValue3 rfl rfl rfl) ?_
      intro b93
      refine ag_nil ?_
      refine l_append (sz := 1) (enc := encZ) (xs := (mks (rnE (newF th va vo lk pl) es) i)) rfl rfl rfl rfl rfl Try.underlying22 Try.typeInfo3 rfl rfl rfl (by decide) Tk Tk (by exact mks_len _ _) (ys := [(rnE (newF th va vo lk pl) es i)]) (rds_some rdn_cells) (by rfl) (by first | rfl | omega) (encZ_len) (encZ_one) (by omega) (by show _ * 8 ≤ _; omega) ?_
      intro ao94 cp94
      refine ag_nil ?_
      refine q_nil_p rfl rfl rfl rfl ?_
      refine q_field (k := 1) rfl rfl rfl rfl Try.underlying71 rfl Try.sizeOf22 rfl ?_
      refine l_store (j := 1) rfl rfl rfl rfl Try.sizeOf22 (us := [_]) rfl rfl rfl Tk (by first | rfl | exact (Nat.add_zero _).symm) (by first | decide | (simp; done) | omega) ?_
      simp only [setL, List.set]
      refine ag_nil ?_
      refine r_done ?_
      refine s_keep [1, 6, 8, 9, 43, 44, 45, 60, 61, 62] (e' := [(1, _), (6, _), (8, _), (9, _), (43, _), (44, _), (45, _), (60, _), (61, _), (62, _)]) rfl ?_
      refine k_blk_n ?_
      refine k_then_n ?_
      refine c_plain (.q 0 (.q 1 (.q 2 (.done)))) (by kernel_rfl) ?_
      refine q_move rfl rfl rfl rfl ?_
      refine q_int rfl rfl rfl rfl rfl (b_add' _ (by exact fits_i64 (by omega) (by omega))) ?_
      refine q_assign rfl rfl rfl rfl ?_
      refine r_done ?_
      refine k_then_n ?_
      rw [← sN_next he_, ← take_next he_, mks_next]
      refine loop_next (x := (i, ga, gc, qa, qc)) ((i + 1, ao84, cp84, ao94, cp94)) ?_ ?_ ?_ ?_
      · try dsimp only
        exact ⟨by omega, allC_next hI he_ hc1⟩
      · show m - (i + 1) < m - i; omega
      · exact ⟨rfl, rfl, rfl, rfl, trivial⟩
      · (try simp only [List.cons_append, List.nil_append]); exact Tf
   ·
    refine q_skip rfl rfl rfl rfl ?_
    refine q_skip rfl rfl rfl rfl ?_
    refine q_skip rfl rfl rfl rfl ?_
    refine q_pick_f rfl rfl rfl rfl rfl ?_
    refine r_done ?_
    refine s_keep [1, 6, 8, 9, 10, 11, 43, 44, 45, 46] (e' := [(1, _), (6, _), (8, _), (9, _), (10, _), (11, _), (43, _), (44, _), (45, _), (46, _)]) rfl ?_
    refine k_then_n ?_
    refine c_cond_f rfl ?_
    refine c_skip ?_
    refine k_then_n ?_
    refine c_seq ?_
    refine c_seq ?_
    refine c_plain (.q 0 (.q 1 ((.l 2 [] (.q 3 (.q 4 (.q 5 (.q 6 (.q 7 (.done)))))))))) (by kernel_rfl) ?_
    refine q_move rfl rfl rfl rfl ?_
    refine q_loadN_c rfl rfl rfl rfl Try.isAgg40 Try.sizeOf40 Tk 0 (us := [_, _, _]) (by first | rfl | exact (Nat.add_zero _).symm) rfl rfl ?_
    have sp_11 := rcan_spec kqp kqc kq (sN (newF th va vo lk pl) es i) (sN_inv (new_inv hok) es i) e.1 e.2.1 e.2.2
    refine l_call rfl rfl rfl rfl rfl rfl Try.call34 (sp_11) Ts ?_
    rintro ⟨⟩ -
    try simp only [List.cons_append, List.nil_append]
    refine ag_nil ?_
    refine q_move rfl rfl rfl rfl ?_
    refine s_bool_p 59 rfl (fun hg => by exfalso; exact hc1 hg) (fun hg => ?_)
    refine q_skip rfl rfl rfl rfl ?_
    refine q_skip rfl rfl rfl rfl ?_
    refine q_skip rfl rfl rfl rfl ?_
    refine q_pick_f rfl rfl rfl rfl rfl ?_
    refine r_done ?_
    refine s_keep [1, 6, 8, 9, 10, 11, 43, 44, 45, 60, 61, 62, 63] (e' := [(1, _), (6, _), (8, _), (9, _), (10, _), (11, _), (43, _), (44, _), (45, _), (60, _), (61, _), (62, _), (63, _)]) rfl ?_
    refine k_then_n ?_
    refine c_cond_f rfl ?_
    refine c_skip ?_
    refine k_then_n ?_
    refine c_seq ?_
    refine c_seq ?_
    refine c_plain (.q 0 (.q 1 ((.l 2 [] (.q 3 (.done)))))) (by kernel_rfl) ?_
    refine q_move rfl rfl rfl rfl ?_
    refine q_loadN_c rfl rfl rfl rfl Try.isAgg40 Try.sizeOf40 Tk 0 (us := [_, _, _]) (by first | rfl | exact (Nat.add_zero _).symm) rfl rfl ?_
    have sp_12 := rnext_spec kqp kqc kq (sN (newF th va vo lk pl) es i) (sN_inv (new_inv hok) es i) (by omega) pl (((sN_sh _ _ _).1)) e.1 e.2.1 e.2.2
    refine l_call rfl rfl rfl rfl rfl rfl Try.call27 (sp_12) Ts ?_
    rintro ⟨⟩ -
    try simp only [List.cons_append, List.nil_append]
    refine ag_nil ?_
    refine q_int rfl rfl rfl rfl rfl (b_neq _ _ _ _) ?_
    refine r_done ?_
    refine s_keep [1, 6, 8, 9, 10, 11, 43, 44, 45, 60, 61, 62, 76] (e' := [(1, _), (6, _), (8, _), (9, _), (10, _), (11, _), (43, _), (44, _), (45, _), (60, _), (61, _), (62, _), (76, _)]) rfl ?_
    refine k_then_n ?_
    refine c_cond_p rfl (fun hg => ?_) (fun hg => by exfalso; rw [nxE, if_neg hc1] at hg; exact hg (by decide))
    refine c_seq ?_
    refine c_plain (.q 0 (.q 1 (.done))) (by kernel_rfl) ?_
    refine q_assign rfl rfl rfl rfl ?_
    refine q_assign rfl rfl rfl rfl ?_
    refine r_done ?_
    refine s_keep [4, 5] (e' := [(4, _), (5, _)]) rfl ?_
    refine k_then_n ?_
    refine c_ret ?_
    refine k_then_ret ?_
    refine k_blk_ret ?_
    refine k_then_ret ?_
    refine k_then_ret ?_
    refine k_blk_ret ?_
    refine k_then_ret ?_
    refine ret2 rfl rfl rfl (6) (by first | rfl | (first | rfl | (congr 1; done) | (congr 1 <;> first | rfl | omega | (simp; done) | (simp; omega)))) (by decide) ?_
    exact Tf
  ·
   obtain rfl : m = i := by omega
   exact absurd ⟨by omega, by rw [hem]; exact hI⟩ hbad --closed
theorem onewbad2_spec (th va vo lk : Int) (pl : List Int) (ao : Option Addr) (n c : Nat) (A : HProp) (hr : RdS A ao (pl.flatMap encZ)) (hn : pl.length = n) (hb : n ≤ 4000000) (es : List T3) (eo : Option Addr) (m ec : Nat) (he : RdS A eo (es.flatMap enc3)) (hem : es.length = m) (hmb : m ≤ 4000000) (hok : ¬ OkS th va vo lk pl) : Spec Try.prog 9 [.agg #[.int .i64 th, .int .i64 va, .int .i64 vo, .int .i64 lk, .slice ao n c], .slice eo m ec] [A] (fun (r : Int) => .tuple #[.pointer none, .int .i64 r]) (fun r => r ≠ 0) (fun r => [A]) := by
 refine spec_mk (n := 100) Try.func9 rfl rfl rfl ?_
 intro Γ w0
 simp only [argE, List.cons_append, List.nil_append, Nat.zero_add, Nat.reduceAdd]
 refine c_seq ?_
 refine c_plain ((.l 0 [] (.q 1 (.q 2 (.done))))) (by kernel_rfl) ?_
 refine l_box rfl rfl rfl rfl (us := [_, _, _, _, _]) rfl ?_
 intro b2
 refine ag_nil ?_
 refine q_assign rfl rfl rfl rfl ?_
 refine q_assign rfl rfl rfl rfl ?_
 refine r_done ?_
 refine k_then_n ?_
 refine c_seq ?_
 refine c_seq ?_
 refine c_plain (.q 0 ((.l 1 [] (.q 2 (.done))))) (by kernel_rfl) ?_
 refine q_loadN_c rfl rfl rfl rfl Try.isAgg24 Try.sizeOf24 Tk 0 (us := [_, _, _, _, _]) (by first | rfl | exact (Nat.add_zero _).symm) rfl rfl ?_
 have sp_1 := rshape_spec th va vo lk pl ao n c A (hr) (by first | rfl | assumption | omega | (simp; done) | (simp; omega)) (by omega)
 refine l_call rfl rfl rfl rfl rfl rfl Try.call33 (sp_1) Ts ?_
 rintro ⟨⟩ -
 try simp only [List.cons_append, List.nil_append]
 refine ag_nil ?_
 refine s_eq 17 rfl (v' := .int .i64 5) (by rw [if_neg hok]) ?_
 refine q_int rfl rfl rfl rfl rfl (b_neq _ _ _ _) ?_
 refine s_eq 18 rfl (v' := .bool true) (by first | rfl | simp) ?_
 refine r_done ?_
 refine s_keep [1, 2, 18] (e' := [(1, _), (2, _), (18, _)]) rfl ?_
 refine k_then_n ?_
 refine c_cond_t rfl ?_
 refine c_seq ?_
 refine c_plain (.q 0 (.q 1 (.done))) (by kernel_rfl) ?_
 refine q_assign rfl rfl rfl rfl ?_
 refine q_assign rfl rfl rfl rfl ?_
 refine r_done ?_
 refine k_then_n ?_
 refine c_ret ?_
 refine k_then_ret ?_
 refine ret2 rfl rfl rfl (5) (by first | rfl | (first | rfl | (congr 1; done) | (congr 1 <;> first | rfl | omega | (simp; done) | (simp; omega)))) (by decide) ?_
 exact Tf
theorem ohap_spec (b : Nat) (es : List T3) (rs : List Int) (hb : es.length ≤ 4000000) (i j : Nat) (hi : i < es.length) (hj : j < es.length) : Spec Try.prog 14 [.pointer (some ⟨b, 0, none⟩), .int .i64 ((i : Nat) : Int), .int .i64 ((j : Nat) : Int)] [ordR b es rs] (fun (_ : Unit) => .bool (hbF es (rf rs) i j)) (fun _ => True) (fun _ => [ordR b es rs]) := by
 refine spec_mk (n := 27) Try.func14 rfl rfl rfl ?_
 intro Γ w0
 simp only [argE, List.cons_append, List.nil_append, Nat.zero_add, Nat.reduceAdd]
 refine c_seq ?_
 refine c_plain (.q 0 (.done)) (by kernel_rfl) ?_
 refine q_assign rfl rfl rfl rfl ?_
 refine r_done ?_
 refine k_then_n ?_
 refine c_seq ?_
 refine s_take (A := ordR b es rs) Tk ?_
 refine ord_open fun ea ec ra rc ba bc G hGl hGq => ?_
 obtain ⟨gj, hgj⟩ := get_lt (l := G) (i := i) (by omega)
 have hgv := hGq i gj hgj
 refine s_owA (sz := 1) (enc := encB) (T := G) Tk hgj fun ho1 ho2 => ?_
 have hrj : RdS (bigS (owA 1 encB) G) gj.1 ((mks (hbF es (rf rs) i) es.length).flatMap encB) := rds_big (f := owA 1 encB) (List.mem_of_getElem? hgj) (by rw [← hgv]; exact rds_own encB_len ho1 ho2)
 refine c_plain (.q 0 (.q 1 ((.l 2 [] (.q 3 (.q 4 (.q 5 ((.l 6 [] (.q 7 (.q 8 (.q 9 (.q 10 (.q 11 (.q 12 (.q 13 (.q 14 (.q 15 (.q 16 (.q 17 (.q 18 (.q 19 (.q 20 (.done)))))))))))))))))))))))) (by kernel_rfl) ?_
 refine q_move rfl rfl rfl rfl ?_
 refine q_move rfl rfl rfl rfl ?_
 have sp_1 := ois_spec b es.length ec ea (.slice ra es.length rc) (.slice ba es.length bc) ((i : Nat) : Int)
 refine l_call rfl rfl rfl rfl rfl rfl Try.call40 (sp_1) Ts ?_
 rintro ⟨⟩ -
 try simp only [List.cons_append, List.nil_append]
 refine ag_nil ?_
 refine q_move rfl rfl rfl rfl ?_
 refine s_bool_p 10 rfl (fun hg => ?_) (fun hg => by exfalso; omega)
 refine q_move rfl rfl rfl rfl ?_
 refine q_move rfl rfl rfl rfl ?_
 have sp_2 := ois_spec b es.length ec ea (.slice ra es.length rc) (.slice ba es.length bc) ((j : Nat) : Int)
 refine l_call rfl rfl rfl rfl rfl rfl Try.call40 (sp_2) Ts ?_
 rintro ⟨⟩ -
 try simp only [List.cons_append, List.nil_append]
 refine ag_nil ?_
 refine q_pick_t rfl rfl rfl rfl rfl ?_
 refine q_move rfl rfl rfl rfl ?_
 refine s_bool_p 15 rfl (fun hg => ?_) (fun hg => by exfalso; omega)
 refine q_move rfl rfl rfl rfl ?_
 refine q_nil_p rfl rfl rfl rfl ?_
 refine q_field (k := 2) rfl rfl rfl rfl Try.underlying71 rfl Try.sizeOf69 rfl ?_
 refine q_load_c (j := 2) rfl rfl rfl rfl Try.isAgg69 Tk (by first | rfl | exact (Nat.add_zero _).symm) (by rfl) ?_
 refine q_move rfl rfl rfl rfl ?_
 refine q_idxO (sz := 0) (k := i) (enc := encH) (xs := G) rfl rfl rfl rfl rfl Try.underlying69 Try.sizeOf94 hgj (by first | rfl | omega) (by omega) Tk ?_
 intro ib21 io21 ha21 hl21 hc21
 refine q_load_O (v := (.slice gj.1 gj.2.2.length gj.2.1)) (j := 0) (k' := i) (enc := encH) (off := io21) rfl rfl rfl rfl Try.isAgg94 ha21 encH_len hgj Tk (by first | rfl | exact (Nat.add_zero _).symm | omega) (by rfl) ?_
 refine q_move rfl rfl rfl rfl ?_
 have hk_3 : (mks (hbF es (rf rs) i) es.length)[j]? = some (hbF es (rf rs) i j) := (mks_get _ (by omega))
 refine q_idxR (sz := 0) (k := j) rfl rfl rfl rfl rfl Try.underlying94 Try.sizeOf4 (hrj) hk_3 encB_len (by first | rfl | omega) (by rw [hgv, mks_len]; omega) ?_
 intro ib24 io24 _ hd24
 refine q_load rfl rfl rfl rfl Try.isAgg4 Tk (hd24 0 (.bool (hbF es (rf rs) i j)) rfl) ?_
 refine q_pick_t rfl rfl rfl rfl rfl ?_
 refine q_assign rfl rfl rfl rfl ?_
 refine r_done ?_
 refine s_keep [6] (e' := [(6, _)]) rfl ?_
 refine k_then_n ?_
 refine c_ret ?_
 refine ord_fold (b := b) (es := es) (rs := rs) Ts rfl rfl rfl hGl hGq ?_
 refine ret1 rfl rfl (()) (by first | rfl | (first | rfl | (congr 1; done) | (congr 1 <;> first | rfl | omega | (simp; done) | (simp; omega)))) (by trivial) ?_
 exact Tf
end Go.Ab.Ord
set_option linter.unusedVariables false
set_option linter.unusedSimpArgs false
set_option maxRecDepth 100000
namespace Go.Ab.DjO
open Go Go.Proofs Go.Ab Go.Ab.Fe Go.Ab.Vc Go.Ab.Ord Go.Ab.Dj
/-- All clocks are at most one more than there are events. -/
structure BInv (x : VS) : Prop where
  inv : VInv x
  th : ∀ t l, x.th t = some l → ∀ i : Nat, l.getD i 0 ≤ x.ck.n + 1
  lk : ∀ t l, x.lk t = some l → ∀ i : Nat, l.getD i 0 ≤ x.ck.n + 1
  vo : ∀ t l, x.vo t = some l → ∀ i : Nat, l.getD i 0 ≤ x.ck.n + 1
  rd : ∀ r p, x.rd r = some p → ∀ i : Nat, p.1.getD i 0 ≤ x.ck.n + 1
theorem b_can {x : VS} (hx : BInv x) (hn : x.ck.n ≤ 1000000) {k t o : Int} : vcanF x k t o ↔ canF x.ck k t o := by
  refine ⟨fun h => h.1, fun h => ⟨h, fun _ => ?_⟩⟩
  obtain ⟨l, hth⟩ := th_some hx.inv (can_th h)
  have := hx.th _ _ hth t.toNat
  rw [thF_eq hth]; simp only [maxC]; omega
theorem mg_le {m : Option (List Int)} {l : List Int} {B : Int} (hl : CV l) (h : ∀ q, m = some q → CV q) (i : Nat) (h1 : l.getD i 0 ≤ B) (h2 : ∀ q, m = some q → q.getD i 0 ≤ B) : (mgF m l).getD i 0 ≤ B := by
  cases m with
  | none => exact h1
  | some q => show (jn l q).getD i 0 ≤ _; rw [jn_g hl (h q rfl)]; have := h2 q rfl; omega
theorem vn_n {x : VS} {k t o : Int} (h : canF x.ck k t o) : (vnF x k t o).ck.n = x.ck.n + 1 := by
  rw [vn_ck]
  obtain ⟨n5, n6, n7, n9, n10, n11, nn⟩ := nxF_k h
  by_cases k5 : k = 5
  · rw [n5 k5]
  by_cases k6 : k = 6
  · rw [n6 k6]
  by_cases k7 : k = 7
  · rw [n7 k7]
  by_cases k9 : k = 9
  · rw [n9 k9]
  by_cases k10 : k = 10
  · rw [n10 k10]
  by_cases k11 : k = 11
  · rw [n11 k11]
  rw [nn k5 k6 k7 k9 k10 k11]
theorem b_next {x : VS} (hx : BInv x) {k t o : Int} (hvc : vcanF x k t o) : BInv (vnF x k t o) := by
  obtain ⟨l, hth⟩ := th_some hx.inv (can_th hvc.1)
  have hi := hx.inv
  have hl := hi.thc _ _ hth
  have hlt := thF_eq hth
  have hlb := hx.th _ _ hth
  have hnn := vn_n hvc.1
  obtain ⟨o5, o7, o9, o10, o11⟩ := can_obj hi.ck hvc.1
  have hic : ∀ i : Nat, (icL l t.toNat).getD i 0 ≤ x.ck.n + 1 + 1 := fun i => by
    rw [icL_g]; split
    · have := hlb t.toNat; omega
    · have := hlb i; omega
  refine ⟨next_vinv hi hvc, ?_, ?_, ?_, ?_⟩
  · intro u q h i
    rw [hnn]
    have key : ∀ {L : List Int}, (∀ i : Nat, L.getD i 0 ≤ x.ck.n + 1 + 1) → upd x.th t (some L) u = some q → q.getD i 0 ≤ x.ck.n + 1 + 1 := fun hL h => by
      rcases upd_some h with ⟨-, h⟩ | ⟨-, h⟩
      · cases h; exact hL i
      · have := hx.th _ _ h i; omega
    have up : ∀ {a : Int}, a ≤ x.ck.n + 1 → a ≤ x.ck.n + 1 + 1 := fun h => by omega
    by_cases k5 : k = 5
    · rw [vn5 hth k5] at h; exact key (fun i => up (mg_le hl (hi.lkc _) i (hlb i) fun q hq => hx.lk _ _ hq i)) h
    by_cases k3 : k = 3
    · rw [vn3 hth k3] at h; exact key (fun i => up (mg_le hl (hi.voc _) i (hlb i) fun q hq => hx.vo _ _ hq i)) h
    by_cases k8 : k = 8
    · rw [vn8 hth k8] at h; exact key (fun i => up (mg_le hl (hi.thc _) i (hlb i) fun q hq => hx.th _ _ hq i)) h
    by_cases k10 : k = 10
    · rw [vn10 hth k10] at h
      obtain ⟨p, hp, -⟩ := rd_some hi (o10 k10).1 (o10 k10).2.2
      refine key (fun i => ?_) h
      rw [hlt, rdF, hp]
      show (jn l p.1).getD i 0 ≤ _
      rw [jn_g hl (hi.rdc _ _ hp)]
      have h1 := hlb i
      have h2 := hx.rd _ _ hp i
      omega
    by_cases k6 : k = 6
    · rw [vn6 hth k6] at h; exact key hic h
    by_cases k4 : k = 4
    · rw [vn4 hth k4] at h; exact key hic h
    by_cases k9 : k = 9
    · rw [vn9 hth k9] at h; exact key hic h
    by_cases k7 : k = 7
    · rw [vn7 hth k7] at h
      rcases upd_some h with ⟨-, h⟩ | ⟨-, h⟩
      · cases h; exact hic i
      · rcases upd_some h with ⟨-, h⟩ | ⟨-, h⟩
        · cases h
          rw [stL_g]
          have h0 := hi.ck.n0
          split
          · omega
          · have := hlb i; omega
        · have := hx.th _ _ h i; omega
    rw [vn0 k5 k3 k8 k10 k6 k4 k9 k7] at h
    have := hx.th _ _ h i; omega
  · intro u q h i
    rw [hnn]
    by_cases k6 : k = 6
    · rw [vn6 hth k6] at h
      rcases upd_some h with ⟨-, h⟩ | ⟨-, h⟩
      · cases h; have := hlb i; omega
      · have := hx.lk _ _ h i; omega
    have e : (vnF x k t o).lk = x.lk := by
      unfold vnF
      rw [if_neg k6]
      repeat (split; · rfl)
      rfl
    rw [e] at h; have := hx.lk _ _ h i; omega
  · intro u q h i
    rw [hnn]
    by_cases k4 : k = 4
    · rw [vn4 hth k4] at h
      rcases upd_some h with ⟨-, h⟩ | ⟨-, h⟩
      · cases h; have := mg_le hl (hi.voc o) i (hlb i) (fun q hq => hx.vo o _ hq i); omega
      · have := hx.vo _ _ h i; omega
    have e : (vnF x k t o).vo = x.vo := by
      unfold vnF
      rw [if_neg k4]
      repeat (split; · rfl)
      rfl
    rw [e] at h; have := hx.vo _ _ h i; omega
  · intro r p h i
    rw [hnn]
    rw [vn_rd] at h
    split at h
    · rename_i k10
      rcases upd_some h with ⟨-, h⟩ | ⟨-, h⟩
      · obtain ⟨p2, hp, -⟩ := rd_some hi (o10 k10).1 (o10 k10).2.2
        split at h
        · cases h
        · cases h
          show (rdF x (rdK x t o)).1.getD i 0 ≤ _
          rw [rdK, rdF, hp]
          have := hx.rd _ _ hp i
          show p2.1.getD i 0 ≤ _; omega
      · have := hx.rd _ _ h i; omega
    · split at h
      · rcases upd_some h with ⟨-, h⟩ | ⟨-, h⟩
        · cases h
          show (mgF _ _).getD i 0 ≤ _
          rw [hlt]
          have := mg_le (m := (x.rd (o, (opF x.ck o).1)).map (·.1)) hl (fun q hq => map_fst_cv hi hq) i (hlb i) (fun q hq => by
            cases hr : x.rd (o, (opF x.ck o).1) with
            | none => rw [hr] at hq; cases hq
            | some p => rw [hr] at hq; cases hq; exact hx.rd _ _ hr i)
          omega
        · have := hx.rd _ _ h i; omega
      · have := hx.rd _ _ h i; omega
/-- Vectors behind events. -/
def vEv (x : VS) (e : T3) : VS := if vcanF x e.1 e.2.1 e.2.2 then vnF x e.1 e.2.1 e.2.2 else x
def vN (x : VS) (es : List T3) (i : Nat) : VS := (es.take i).foldl vEv x
theorem vN_next {x : VS} {es : List T3} {i : Nat} {e : T3} (h : es[i]? = some e) : vN x es (i + 1) = vEv (vN x es i) e := by
  unfold vN; rw [take_next h, List.foldl_append]; rfl
theorem vN_app {x : VS} {es fs : List T3} {i : Nat} (h : i ≤ es.length) : vN x (es ++ fs) i = vN x es i := by
  unfold vN; rw [List.take_append_of_le_length h]
theorem dAll_v : ∀ (es : List T3) (x : DS), (dAll x es).v = es.foldl vEv x.v
  | [], x => rfl
  | e :: es, x => by
    have h := dAll_v es (dEv x e)
    show (dAll (dEv x e) es).v = _
    rw [h]
    have : (dEv x e).v = vEv x.v e := by
      unfold dEv deF vEv
      split <;> rfl
    rw [this]; rfl
theorem dAll_vN (x : DS) (es : List T3) (i : Nat) : (dAll x (es.take i)).v = vN x.v es i := dAll_v _ _
theorem dAll_vL (x : DS) (es : List T3) : (dAll x es).v = vN x.v es es.length := by rw [dAll_v, vN, List.take_length]
/-- A list's entry, zero where there is none. -/
def eZ (l : List Int) (z : Int) : Int := if z < 0 then 0 else l.getD z.toNat 0
theorem eZ_nn {l : List Int} {z : Int} (h : 0 ≤ z) : eZ l z = l.getD z.toNat 0 := if_neg (by omega)
/-- The clock ahead of event i. -/
def clkF (x : VS) (es : List T3) (i : Nat) : Int := eZ (thF (vN x es i) (thrE es i)) (thrE es i)
def endedB (es : List T3) (u : Int) : Bool := es.any (fun e => decide (e.1 = 11 ∧ e.2.1 = u))
theorem vnew_b {th va vo lk : Int} {pl : List Int} (hok : OkS th va vo lk pl) : BInv (vNew th va vo lk pl) := by
  refine ⟨new_vinv hok (new_inv hok), fun t l h i => ?_, fun t l h => (by cases h), fun t l h => (by cases h), fun r p h => (by cases h)⟩
  rcases upd_some (show upd noF 0 (some [1]) t = some l from h) with ⟨-, h⟩ | ⟨-, h⟩
  · cases h
    show ([1] : List Int).getD i 0 ≤ 0 + 1
    rcases i with _ | i <;> simp
  · cases h
theorem vnew_th {th va vo lk : Int} {pl : List Int} (t : Int) : thF (vNew th va vo lk pl) t = if t = 0 then [1] else [] := by
  show (upd noF 0 (some [1]) t).getD [] = _
  unfold upd; split <;> rfl
theorem vnew_st {th va vo lk : Int} {pl : List Int} (hok : OkS th va vo lk pl) (t : Int) : (stF (newF th va vo lk pl) t).1 = if t = 0 then 1 else 0 := by
  have h := (new_vinv hok (new_inv hok)).th t
  have h2 := (rel_new hok).st t
  rw [← h2]
  unfold upd noF
  split <;> rfl
/-- Behind no event. -/
theorem h_new {th va vo lk : Int} {pl : List Int} (hok : OkS th va vo lk pl) (es : List T3) (R : Nat → Int) (c : Nat → Int) : HInv es R c 0 (vNew th va vo lk pl) := by
  have hi := new_vinv hok (new_inv hok)
  have hst := vnew_st hok
  have hk : ∀ X i, ¬ Kno es R 0 X i := fun X i h => absurd h.lt (Nat.not_lt_zero _)
  have hz : ∀ X u, X ≠ eT 0 → VV (vNew th va vo lk pl) X u = 0 := fun X u hX => by
    have : ve (vNew th va vo lk pl) X = [] := by
      unfold ve
      split
      · rename_i h
        rw [vnew_th, if_neg (fun e => hX (by rw [h, e]))]
      split
      · rfl
      split
      · rfl
      split
      · rfl
      rfl
    rw [VV, this]; simp
  have h0 : ∀ u, 0 ≤ u → VV (vNew th va vo lk pl) (eT 0) u = if u = 0 then 1 else 0 := fun u hu => by
    rw [VV, ve_th, vnew_th, if_pos rfl]
    by_cases e : u = 0
    · subst e; rfl
    · rw [if_neg e]
      obtain ⟨k, hk⟩ : ∃ k, u.toNat = k + 1 := ⟨u.toNat - 1, by omega⟩
      rw [hk]; rfl
  refine ⟨hi, ⟨fun X i h => absurd h (Nat.not_lt_zero _), fun X u hu hX => ?_, fun X u hu => ?_, fun i h => absurd h (Nat.not_lt_zero _), fun X u => VV_nn hi X u, fun i h => absurd h (Nat.not_lt_zero _), fun u hu => ?_⟩, fun i e h => absurd h (Nat.not_lt_zero _), fun o t _ i h => absurd h (hk _ _), fun j e h => absurd h (Nat.not_lt_zero _), fun r h => (by cases h), fun u h => ?_, fun j0 j e0 e h => absurd h (Nat.not_lt_zero _)⟩
  · have hu0 : u = 0 := by
      unfold runV at hu
      rw [show (vNew th va vo lk pl).ck = newF th va vo lk pl from rfl, hst] at hu
      by_cases e : u = 0
      · exact e
      · rw [if_neg e] at hu; omega
    subst hu0
    rw [hz X 0 hX, h0 0 (Int.le_refl _), if_pos rfl]; decide
  · by_cases e : X = eT 0
    · subst e
      by_cases e2 : u = 0
      · subst e2; exact Int.le_refl _
      · rw [h0 u hu, if_neg e2]; exact VV_nn hi _ _
    · rw [hz X u e]; exact VV_nn hi _ _
  · unfold runV at hu
    rw [show (vNew th va vo lk pl).ck = newF th va vo lk pl from rfl, hst] at hu
    by_cases e : u = 0
    · omega
    · rw [if_neg e] at hu; omega
  · rw [show (vNew th va vo lk pl).ck = newF th va vo lk pl from rfl, hst] at h
    split at h <;> omega
/-- Behind the first i events of a list that can be. -/
theorem h_all {th va vo lk : Int} {pl : List Int} (hok : OkS th va vo lk pl) {es : List T3} (hl : es.length ≤ 1000000) (hall : allC (newF th va vo lk pl) es es.length) :
    ∀ i, i ≤ es.length → BInv (vN (vNew th va vo lk pl) es i) ∧ (vN (vNew th va vo lk pl) es i).ck = sN (newF th va vo lk pl) es i ∧ (sN (newF th va vo lk pl) es i).n ≤ i ∧
      HInv es (rf (rnds (newF th va vo lk pl) es)) (clkF (vNew th va vo lk pl) es) i (vN (vNew th va vo lk pl) es i)
  | 0, _ => ⟨vnew_b hok, rfl, Int.le_refl _, h_new hok _ _ _⟩
  | i + 1, hi => by
    obtain ⟨hb, hck, hn, hh⟩ := h_all hok hl hall i (by omega)
    obtain ⟨e, he⟩ := get_lt (l := es) (i := i) (by omega)
    have hc := hall i e (by omega) he
    have hv : vcanF (vN (vNew th va vo lk pl) es i) e.1 e.2.1 e.2.2 := (b_can hb (by rw [hck]; omega)).2 (by rw [hck]; exact hc)
    have hnx : vN (vNew th va vo lk pl) es (i + 1) = vnF (vN (vNew th va vo lk pl) es i) e.1 e.2.1 e.2.2 := by rw [vN_next he, vEv, if_pos hv]
    have hsx : sN (newF th va vo lk pl) es (i + 1) = nxF (sN (newF th va vo lk pl) es i) e.1 e.2.1 e.2.2 := sN_next he
    have hR : rf (rnds (newF th va vo lk pl) es) i = rndT (sN (newF th va vo lk pl) es i) e := by
      rw [rf_at (by rw [rnds]; exact mks_get _ (by omega)), rnE_at he]
    obtain ⟨t0, -⟩ := th_rng hb.inv (can_th hv.1)
    refine ⟨by rw [hnx]; exact b_next hb hv, by rw [hnx, vn_ck, hck, hsx], ?_, ?_⟩
    · have h1 := vn_n hv.1
      rw [vn_ck, hck, ← hsx] at h1
      omega
    · rw [hnx]
      refine hh.next he hv ?_ (fun k9 => ?_) (fun k10 => ?_)
      · rw [clkF, thrE_at he, eZ_nn t0]
      · rw [hR, rndT, if_pos k9, hck]
      · rw [hR, rndT, if_neg (by omega), if_pos k10, hck]
section
variable {th va vo lk : Int} {pl : List Int} {es : List T3}
theorem kn_can (hok : OkS th va vo lk pl) (hl : es.length ≤ 1000000) (hall : allC (newF th va vo lk pl) es es.length) {i : Nat} {e : T3} (he : es[i]? = some e) : canE (dAll (dNew th va vo lk pl) (es.take i)) e := by
  have hi := (List.getElem?_eq_some_iff.1 he).1
  obtain ⟨hb, hck, hn, -⟩ := h_all hok hl hall i (by omega)
  unfold canE
  rw [dAll_vN]
  exact (b_can hb (by rw [hck]; omega)).2 (by rw [hck]; exact hall i e hi he)
/-- No vector has more of a thread than its own. -/
theorem kn_le (hok : OkS th va vo lk pl) (hl : es.length ≤ 1000000) (hall : allC (newF th va vo lk pl) es es.length) (t u : Int) (hu : 0 ≤ u) :
    eZ (thF (dAll (dNew th va vo lk pl) es).v t) u ≤ eZ (thF (dAll (dNew th va vo lk pl) es).v u) u := by
  obtain ⟨hb, hck, hn, hh⟩ := h_all hok hl hall es.length (Nat.le_refl _)
  have h := hh.cor.ownX (eT t) u hu
  rw [VV, VV, ve_th, ve_th] at h
  rw [dAll_vL, eZ_nn hu, eZ_nn hu]; exact h
theorem kn_lt (hok : OkS th va vo lk pl) (hl : es.length ≤ 1000000) (hall : allC (newF th va vo lk pl) es es.length) (t u : Int) (hu : 0 ≤ u) (hne : u ≠ t)
    (h1 : eZ (thF (dAll (dNew th va vo lk pl) es).v t) u = eZ (thF (dAll (dNew th va vo lk pl) es).v u) u) (h2 : 0 < eZ (thF (dAll (dNew th va vo lk pl) es).v u) u) : endedB es u = true := by
  obtain ⟨hb, hck, hn, hh⟩ := h_all hok hl hall es.length (Nat.le_refl _)
  rw [dAll_vL, eZ_nn hu, eZ_nn hu] at h1
  rw [dAll_vL, eZ_nn hu] at h2
  by_cases hr : runV (vN (vNew th va vo lk pl) es es.length) u
  · have h := hh.cor.own (eT t) u hr (fun e => hne (th_inj.1 e).symm)
    rw [VV, VV, ve_th, ve_th] at h
    exact absurd h1 (Int.ne_of_lt h)
  · have h3 : (stF (vN (vNew th va vo lk pl) es es.length).ck u).1 = 3 := by
      have h0 : (stF (vN (vNew th va vo lk pl) es es.length).ck u).1 ≠ 0 := fun h0 => by
        have hno : (vN (vNew th va vo lk pl) es es.length).th u = none := by
          cases hq : (vN (vNew th va vo lk pl) es es.length).th u with
          | none => rfl
          | some q => exact absurd h0 ((hb.inv.th u).1 (by rw [hq]; rfl))
        rw [show (dNew th va vo lk pl).v = vNew th va vo lk pl from rfl, thF, hno] at h2
        simp at h2
      obtain ⟨-, -, h4⟩ := stF_nz h0
      have h5 := hb.inv.ck.st _ (List.mem_of_getElem? h4)
      unfold runV at hr
      omega
    obtain ⟨j, e, hj, he, h4, h5⟩ := hh.ex u h3
    unfold endedB
    rw [List.any_eq_true]
    exact ⟨e, List.mem_of_getElem? he, by simp [h4, h5]⟩
/-- An event happens before an access just if the thread's vector has its clock. -/
theorem kn_hb (hok : OkS th va vo lk pl) {f : T3} (hf : f.1 = 1 ∨ f.1 = 2) (hl : es.length + 1 ≤ 1000000) (hall : allC (newF th va vo lk pl) (es ++ [f]) (es ++ [f]).length) {i : Nat} {e : T3} (he : es[i]? = some e) :
    hbF (es ++ [f]) (rf (rnds (newF th va vo lk pl) (es ++ [f]))) i es.length = decide (clkF (vNew th va vo lk pl) es i ≤ eZ (thF (dAll (dNew th va vo lk pl) es).v f.2.1) e.2.1) := by
  have hi := (List.getElem?_eq_some_iff.1 he).1
  have hlen : (es ++ [f]).length = es.length + 1 := by simp
  obtain ⟨hb, hck, hn, hh⟩ := h_all hok (by rw [hlen]; exact hl) hall es.length (by omega)
  have he2 : (es ++ [f])[i]? = some e := by rw [List.getElem?_append_left hi]; exact he
  have hf2 : (es ++ [f])[es.length]? = some f := by rw [List.getElem?_append_right (Nat.le_refl _)]; simp
  have hk := hh.cor.k (eT f.2.1) i hi (alV_th _ _)
  have ht0 := hh.cor.th0 i hi
  rw [thrE_at he2] at hk ht0
  rw [Bool.eq_iff_iff, hbF_iff, decide_eq_true_eq, HB.at hf2 (by omega)]
  have hc : clkF (vNew th va vo lk pl) (es ++ [f]) i = clkF (vNew th va vo lk pl) es i := by
    rw [clkF, clkF, vN_app (by omega), thrE_at he2, thrE_at he]
  rw [hc, VV, ve_th, vN_app (Nat.le_refl _)] at hk
  rw [dAll_vL, eZ_nn ht0]
  rw [show (dNew th va vo lk pl).v = vNew th va vo lk pl from rfl, ← hk]
  constructor
  · rintro (h | ⟨h, _⟩ | ⟨h, _⟩ | ⟨h, _⟩ | ⟨h, _⟩)
    · exact h
    all_goals omega
  · exact .inl
end
end Go.Ab.DjO
set_option linter.unusedVariables false
set_option linter.unusedSimpArgs false
set_option maxRecDepth 100000
namespace Go.Ab.DjO
open Go Go.Proofs Go.Ab Go.Ab.Fe Go.Ab.Vc Go.Ab.Ord Go.Ab.Dj
theorem eZ_none {xs : List Int} {i : Nat} (h : xs.length ≤ i) : eZ xs (i : Int) = 0 := by
  rw [eZ_nn (by omega), Int.toNat_natCast]; simp only [List.getD_eq_getElem?_getD]; rw [List.getElem?_eq_none h]; rfl
theorem entry_spec (xs : List Int) (ao : Option Addr) (n c : Nat) (A : HProp) (hn : xs.length = n) (hr : RdS A ao (xs.flatMap encU)) (z : Int) : Spec Try.prog 12 [.slice ao n c, .int .i64 z] [A] (fun (_ : Unit) => .int .u64 (eZ xs z)) (fun _ => True) (fun _ => [A]) := by
 refine spec_mk (n := 17) Try.func12 rfl rfl rfl ?_
 intro Γ w0
 simp only [argE, List.cons_append, List.nil_append, Nat.zero_add, Nat.reduceAdd]
 refine c_seq ?_
 refine c_plain (.q 0 (.done)) (by kernel_rfl) ?_
 refine q_assign rfl rfl rfl rfl ?_
 refine r_done ?_
 refine k_then_n ?_
 refine c_seq ?_
 refine c_seq ?_
 refine c_plain (.q 0 (.q 1 (.q 2 (.q 3 (.q 4 (.q 5 (.q 6 (.q 7 (.done))))))))) (by kernel_rfl) ?_
 refine q_move rfl rfl rfl rfl ?_
 refine q_int rfl rfl rfl rfl rfl (b_lss _ _ _ _) ?_
 refine q_move rfl rfl rfl rfl ?_
 refine s_bool_p 7 rfl (fun hn0 => ?_) (fun hn0 => ?_)
 ·
  have hgz : eZ xs z = 0 := if_pos hn0
  refine q_skip rfl rfl rfl rfl ?_
  refine q_skip rfl rfl rfl rfl ?_
  refine q_skip rfl rfl rfl rfl ?_
  refine q_skip rfl rfl rfl rfl ?_
  refine q_pick_t rfl rfl rfl rfl rfl ?_
  refine r_done ?_
  refine s_keep [0, 1, 12] (e' := [(0, _), (1, _), (12, _)]) rfl ?_
  refine k_then_n ?_
  refine c_cond_t rfl ?_
  refine c_seq ?_
  refine c_plain (.q 0 (.done)) (by kernel_rfl) ?_
  refine q_assign rfl rfl rfl rfl ?_
  refine r_done ?_
  refine k_then_n ?_
  refine c_ret ?_
  refine k_then_ret ?_
  refine ret1 rfl rfl (()) (by rw [hgz]) (by trivial) ?_
  exact Tf
 ·
  obtain ⟨i, rfl⟩ := Int.eq_ofNat_of_zero_le (show 0 ≤ z by omega)
  refine q_move rfl rfl rfl rfl ?_
  refine q_move rfl rfl rfl rfl ?_
  refine q_len rfl rfl rfl rfl Try.underlying31 ?_
  refine q_int rfl rfl rfl rfl rfl (b_geq _ _ _ _) ?_
  refine q_pick_f rfl rfl rfl rfl rfl ?_
  refine r_done ?_
  refine s_keep [0, 1, 12] (e' := [(0, _), (1, _), (12, _)]) rfl ?_
  refine k_then_n ?_
  refine c_cond_p rfl (fun hge => ?_) (fun hge => ?_)
  ·
   have hgz : eZ xs (i : Int) = 0 := eZ_none (by omega)
   refine c_seq ?_
   refine c_plain (.q 0 (.done)) (by kernel_rfl) ?_
   refine q_assign rfl rfl rfl rfl ?_
   refine r_done ?_
   refine k_then_n ?_
   refine c_ret ?_
   refine k_then_ret ?_
   refine ret1 rfl rfl (()) (by rw [hgz]) (by trivial) ?_
   exact Tf
  ·
   obtain ⟨x, hx⟩ := get_lt (l := xs) (i := i) (by omega)
   refine c_skip ?_
   refine k_then_n ?_
   refine c_seq ?_
   refine c_plain (.q 0 (.q 1 (.q 2 (.q 3 (.q 4 (.done)))))) (by kernel_rfl) ?_
   refine q_move rfl rfl rfl rfl ?_
   refine q_move rfl rfl rfl rfl ?_
   refine q_idxR (sz := 0) (k := i) rfl rfl rfl rfl rfl Try.underlying31 Try.sizeOf35 (hr) hx encU_len (by first | rfl | omega) (by omega) ?_
   intro ib15 io15 _ hd15
   refine q_load rfl rfl rfl rfl Try.isAgg35 Tk (hd15 0 (.int .u64 x) rfl) ?_
   refine q_assign rfl rfl rfl rfl ?_
   refine r_done ?_
   refine s_keep [4] (e' := [(4, _)]) rfl ?_
   refine k_then_n ?_
   refine c_ret ?_
   refine ret1 rfl rfl (()) (by rw [eZ, if_neg (by omega), Int.toNat_natCast, getD_mem hx]) (by trivial) ?_
   exact Tf
theorem ended_spec (es : List T3) (ao : Option Addr) (n c : Nat) (A : HProp) (hn : es.length = n) (hr : RdS A ao (es.flatMap enc3)) (hb : n ≤ 4000000) (u : Int) : Spec Try.prog 13 [.slice ao n c, .int .i64 u] [A] (fun (_ : Unit) => .bool (endedB es u)) (fun _ => True) (fun _ => [A]) := by
 refine spec_mk (n := 27) Try.func13 rfl rfl rfl ?_
 intro Γ w0
 simp only [argE, List.cons_append, List.nil_append, Nat.zero_add, Nat.reduceAdd]
 refine c_seq ?_
 refine c_plain (.q 0 (.done)) (by kernel_rfl) ?_
 refine q_assign rfl rfl rfl rfl ?_
 refine r_done ?_
 refine k_then_n ?_
 refine c_seq ?_
 refine c_seq ?_
 refine c_plain (.q 0 (.done)) (by kernel_rfl) ?_
 refine q_assign rfl rfl rfl rfl ?_
 refine r_done ?_
 refine k_then_n ?_
 refine c_block ?_
 refine c_loop2 (α := Nat) (fun (i : Nat) => i ≤ n ∧ (endedB (es.take i) u = false)) (fun (i : Nat) => [(5, .int .i64 ((i : Nat) : Int))]) (fun (i : Nat) => []) (fun (i : Nat) => n - i) [0, 1] (er := [(0, _), (1, _)]) rfl (0) ?_ (by exact ⟨rfl, trivial⟩) (by (try dsimp only); (try simp only [Nat.add_zero, Nat.zero_add]); (repeat ((with_reducible apply Z2); focus (first | (with_reducible (repeat (first | exact Z0 | apply Z1)); done) | (repeat (first | exact Z0 | apply Z1))))); exact Z3) ?_
 · exact ⟨Nat.zero_le _, rfl⟩
 rintro i ⟨hle_i, hI⟩
 try simp only [List.cons_append, List.nil_append]
 refine c_seq ?_
 refine c_seq ?_
 refine c_plain (.q 0 (.q 1 (.q 2 (.q 3 (.done))))) (by kernel_rfl) ?_
 refine q_move rfl rfl rfl rfl ?_
 refine q_move rfl rfl rfl rfl ?_
 refine q_len rfl rfl rfl rfl Try.underlying25 ?_
 refine q_int rfl rfl rfl rfl rfl (b_lss _ _ _ _) ?_
 refine r_done ?_
 refine k_then_n ?_
 refine c_cond_p rfl (fun hlt => ?_) (fun hlt => ?_)
 ·
  refine c_skip ?_
  refine k_then_n ?_
  refine c_seq ?_
  refine c_block ?_
  refine c_seq ?_
  refine c_plain (.q 0 (.q 1 (.q 2 (.q 3 (.q 4 (.q 5 (.q 6 (.q 7 (.q 8 (.q 9 (.q 10 (.q 11 (.q 12 (.q 13 (.q 14 (.done)))))))))))))))) (by kernel_rfl) ?_
  refine q_move rfl rfl rfl rfl ?_
  refine q_move rfl rfl rfl rfl ?_
  obtain ⟨x, hx⟩ := get_lt (l := es) (i := i) (by first | omega | (simp; done) | (simp; omega))
  refine q_idxR (sz := 2) (k := i) rfl rfl rfl rfl rfl Try.underlying25 Try.sizeOf40 (hr) hx enc3_len (by first | rfl | omega) (by omega) ?_
  intro ib14 io14 _ hd14
  refine q_field (k := 0) rfl rfl rfl rfl Try.underlying40 rfl Try.sizeOf38 rfl ?_
  refine q_load rfl rfl rfl rfl Try.isAgg38 Tk (hd14 0 (.int .i64 x.1) rfl) ?_
  refine q_int rfl rfl rfl rfl rfl (b_eql _ _ _ _) ?_
  refine q_move rfl rfl rfl rfl ?_
  refine s_bool_p 18 rfl (fun hk => ?_) (fun hk => ?_)
  ·
   refine q_move rfl rfl rfl rfl ?_
   refine q_move rfl rfl rfl rfl ?_
   refine q_idxR (sz := 2) (k := i) rfl rfl rfl rfl rfl Try.underlying25 Try.sizeOf40 (hr) hx enc3_len (by first | rfl | omega) (by omega) ?_
   intro ib21 io21 _ hd21
   refine q_field (k := 1) rfl rfl rfl rfl Try.underlying40 rfl Try.sizeOf3 rfl ?_
   refine q_load rfl rfl rfl rfl Try.isAgg3 Tk (hd21 1 (.int .i64 x.2.1) rfl) ?_
   refine q_move rfl rfl rfl rfl ?_
   refine q_int rfl rfl rfl rfl rfl (b_eql _ _ _ _) ?_
   refine q_pick_t rfl rfl rfl rfl rfl ?_
   refine r_done ?_
   refine s_keep [0, 1, 5, 19, 20, 21, 22, 23, 24, 25, 26] (e' := [(0, _), (1, _), (5, _), (19, _), (20, _), (21, _), (22, _), (23, _), (24, _), (25, _), (26, _)]) rfl ?_
   refine k_then_n ?_
   refine c_cond_p rfl (fun hk2 => ?_) (fun hk2 => ?_)
   ·
    refine c_seq ?_
    refine c_plain (.q 0 (.done)) (by kernel_rfl) ?_
    refine q_assign rfl rfl rfl rfl ?_
    refine r_done ?_
    refine s_keep [4] (e' := [(4, _)]) rfl ?_
    refine k_then_n ?_
    refine c_ret ?_
    refine k_blk_ret ?_
    refine k_then_ret ?_
    refine k_then_ret ?_
    refine k_blk_ret ?_
    refine k_then_ret ?_
    refine ret1 rfl rfl (()) (by congr 1; symm; unfold endedB; rw [List.any_eq_true]; exact ⟨x, List.mem_of_getElem? hx, by simp; omega⟩) (by trivial) ?_
    exact Tf
   ·
    refine c_skip ?_
    refine k_blk_n ?_
    refine k_then_n ?_
    refine c_plain (.q 0 (.q 1 (.q 2 (.done)))) (by kernel_rfl) ?_
    refine q_move rfl rfl rfl rfl ?_
    refine q_int rfl rfl rfl rfl rfl (b_add' _ (by exact fits_i64 (by omega) (by omega))) ?_
    refine q_assign rfl rfl rfl rfl ?_
    refine r_done ?_
    refine k_then_n ?_
    refine loop_next (x := i) (i + 1) ?_ ?_ ?_ ?_
    · exact ⟨by omega, by rw [take_next hx]; unfold endedB at hI ⊢; rw [List.any_append, hI]; simp; omega⟩
    · show n - (i + 1) < n - i; omega
    · exact ⟨rfl, rfl, rfl, trivial⟩
    · (try simp only [List.cons_append, List.nil_append]); exact Tf
  ·
   refine q_skip rfl rfl rfl rfl ?_
   refine q_skip rfl rfl rfl rfl ?_
   refine q_skip rfl rfl rfl rfl ?_
   refine q_skip rfl rfl rfl rfl ?_
   refine q_skip rfl rfl rfl rfl ?_
   refine q_skip rfl rfl rfl rfl ?_
   refine q_skip rfl rfl rfl rfl ?_
   refine q_pick_f rfl rfl rfl rfl rfl ?_
   refine r_done ?_
   refine s_keep [0, 1, 5, 19, 20, 21, 22, 23, 24, 25, 26] (e' := [(0, _), (1, _), (5, _), (19, _), (20, _), (21, _), (22, _), (23, _), (24, _), (25, _), (26, _)]) rfl ?_
   refine k_then_n ?_
   refine c_cond_f rfl ?_
   refine c_skip ?_
   refine k_blk_n ?_
   refine k_then_n ?_
   refine c_plain (.q 0 (.q 1 (.q 2 (.done)))) (by kernel_rfl) ?_
   refine q_move rfl rfl rfl rfl ?_
   refine q_int rfl rfl rfl rfl rfl (b_add' _ (by exact fits_i64 (by omega) (by omega))) ?_
   refine q_assign rfl rfl rfl rfl ?_
   refine r_done ?_
   refine k_then_n ?_
   refine loop_next (x := i) (i + 1) ?_ ?_ ?_ ?_
   · exact ⟨by omega, by rw [take_next hx]; unfold endedB at hI ⊢; rw [List.any_append, hI]; simp; omega⟩
   · show n - (i + 1) < n - i; omega
   · exact ⟨rfl, rfl, rfl, trivial⟩
   · (try simp only [List.cons_append, List.nil_append]); exact Tf
 ·
  refine c_exit ?_
  refine k_then_exit ?_
  refine k_then_exit ?_
  refine k_blk_here ?_
  refine k_then_n ?_
  refine c_seq ?_
  refine c_plain (.q 0 (.done)) (by kernel_rfl) ?_
  refine q_assign rfl rfl rfl rfl ?_
  refine r_done ?_
  refine s_keep [4] (e' := [(4, _)]) rfl ?_
  refine k_then_n ?_
  refine c_ret ?_
  obtain rfl : n = i := by omega
  rw [List.take_of_length_le (by omega)] at hI
  refine ret1 rfl rfl (()) (by rw [hI]) (by trivial) ?_
  exact Tf
theorem clocked_spec (th va vo lk : Int) (pl : List Int) (ao : Option Addr) (n c : Nat) (A : HProp) (hr : RdS A ao (pl.flatMap encZ)) (hn : pl.length = n) (hb : n ≤ 4000000) (hok : OkS th va vo lk pl) (es : List T3) (eo : Option Addr) (m ec : Nat) (he_ : RdS A eo (es.flatMap enc3)) (hem : es.length = m) (hmb : m ≤ 4000000) (hml : m ≤ 100000) (hall : allC (newF th va vo lk pl) es es.length) : Spec Try.prog 10 [.agg #[.int .i64 th, .int .i64 va, .int .i64 vo, .int .i64 lk, .slice ao n c], .slice eo m ec] [A] (fun (r : Nat × (Option Addr × Nat × Option Addr × Nat) × Option Addr × Nat) => .tuple #[.pointer (some ⟨r.1, 0, none⟩), .slice r.2.2.1 m r.2.2.2, .bool true]) (fun r => True) (fun r => [A, own 1 encZ r.2.1.1 r.2.1.2.1 pl, own 1 encZ r.2.1.2.2.1 r.2.1.2.2.2 pl, dR r.2.1.1 r.2.1.2.1 r.2.1.2.2.1 r.2.1.2.2.2 r.1 (dAll (dNew th va vo lk pl) es), own 1 encU r.2.2.1 r.2.2.2 (mks (clkF (vNew th va vo lk pl) es) m)]) := by
 refine spec_mk (n := 53) Try.func10 rfl rfl rfl ?_
 intro Γ w0
 simp only [argE, List.cons_append, List.nil_append, Nat.zero_add, Nat.reduceAdd]
 refine c_seq ?_
 refine c_plain ((.l 0 [] (.q 1 (.q 2 (.q 3 (.done)))))) (by kernel_rfl) ?_
 refine l_box rfl rfl rfl rfl (us := [_, _, _, _, _]) rfl ?_
 intro b2
 refine ag_nil ?_
 refine q_assign rfl rfl rfl rfl ?_
 refine q_assign rfl rfl rfl rfl ?_
 refine q_assign rfl rfl rfl rfl ?_
 refine r_done ?_
 refine s_keep [1, 2] (e' := [(1, _), (2, _)]) rfl ?_
 refine k_then_n ?_
 refine c_seq ?_
 refine c_plain (.q 0 ((.l 1 [] (.q 2 (.q 3 (.q 4 (.q 5 (.q 6 (.done))))))))) (by kernel_rfl) ?_
 refine q_loadN_c rfl rfl rfl rfl Try.isAgg24 Try.sizeOf24 Tk 0 (us := [_, _, _, _, _]) (by first | rfl | exact (Nat.add_zero _).symm) rfl rfl ?_
 have sp_1 := Dj.new_spec th va vo lk pl ao n c A (hr) (by first | rfl | assumption | omega | (simp; done) | (simp; omega)) (by omega) hok
 refine l_call rfl rfl rfl rfl rfl rfl Try.call15 (sp_1) Ts ?_
 rintro ⟨d, ⟨dpa, dpc⟩, dpo, dpoc⟩ -
 try simp only [List.cons_append, List.nil_append]
 refine ag_nil ?_
 refine q_move rfl rfl rfl rfl ?_
 refine q_extract rfl rfl rfl rfl rfl ?_
 refine q_extract rfl rfl rfl rfl rfl ?_
 refine q_assign rfl rfl rfl rfl ?_
 refine q_assign rfl rfl rfl rfl ?_
 refine r_done ?_
 obtain ⟨x0, hx0⟩ : ∃ y, y = dNew th va vo lk pl := ⟨_, rfl⟩
 rw [← hx0]
 have hi0 : DInv x0 := by rw [hx0]; exact new_dinv hok (new_inv hok)
 have hn0 : x0.v.ck.n = 0 := by rw [hx0]; rfl
 have hp0 : x0.v.ck.pa = pl := by rw [hx0]; rfl
 refine s_keep [1, 7, 8] (e' := [(1, _), (7, _), (8, _)]) rfl ?_
 refine k_then_n ?_
 refine c_seq ?_
 refine c_seq ?_
 refine c_plain (.q 0 ((.l 1 [] (.q 2 (.q 3 (.q 4 (.q 5 (.q 6 (.done))))))))) (by kernel_rfl) ?_
 refine q_move rfl rfl rfl rfl ?_
 have sp_2 := num_spec 0
 refine l_call rfl rfl rfl rfl rfl rfl Try.call16 (sp_2) Ts ?_
 rintro ⟨⟩ -
 try simp only [List.cons_append, List.nil_append]
 refine ag_nil ?_
 refine q_int rfl rfl rfl rfl rfl (b_neq _ _ _ _) ?_
 refine s_eq 19 rfl (v' := .bool false) (by first | rfl | simp) ?_
 refine q_move rfl rfl rfl rfl ?_
 refine q_move rfl rfl rfl rfl ?_
 refine q_eq_nil rfl rfl rfl rfl Try.underlying30 ?_
 refine s_eq 22 rfl (v' := .bool false) rfl ?_
 refine q_pick_f rfl rfl rfl rfl rfl ?_
 refine r_done ?_
 refine s_keep [1, 7, 23] (e' := [(1, _), (7, _), (23, _)]) rfl ?_
 refine k_then_n ?_
 refine c_cond_f rfl ?_
 refine c_skip ?_
 refine k_then_n ?_
 refine c_seq ?_
 refine c_plain (.q 0 (.done)) (by kernel_rfl) ?_
 refine q_assign rfl rfl rfl rfl ?_
 refine r_done ?_
 refine k_then_n ?_
 refine c_seq ?_
 refine c_seq ?_
 refine c_plain (.q 0 (.done)) (by kernel_rfl) ?_
 refine q_assign rfl rfl rfl rfl ?_
 refine r_done ?_
 refine k_then_n ?_
 refine c_block ?_
 refine s_heap (fun _ h => own_nil (sz := 1) (enc := encU) h) ?_
 refine c_loop2 (α := Nat × Option Addr × Nat) (fun (x_ : Nat × Option Addr × Nat) => match x_ with | (i, la, lc) => i ≤ m) (fun (x_ : Nat × Option Addr × Nat) => match x_ with | (i, la, lc) => [(9, .slice la i lc), (10, .int .i64 ((i : Nat) : Int))]) (fun (x_ : Nat × Option Addr × Nat) => match x_ with | (i, la, lc) => [dR dpa dpc dpo dpoc d (dAll x0 (es.take i)), own 1 encZ dpa dpc pl, own 1 encZ dpo dpoc pl, own 1 encU la lc (mks (clkF (vNew th va vo lk pl) es) i)]) (fun (x_ : Nat × Option Addr × Nat) => match x_ with | (i, la, lc) => m - i) [1, 7] (er := [(1, _), (7, _)]) rfl (0, none, 0) ?_ (by exact ⟨rfl, rfl, trivial⟩) (by (try dsimp only); (try simp only [Nat.add_zero, Nat.zero_add]); (repeat ((with_reducible apply Z2); focus (first | (with_reducible (repeat (first | exact Z0 | apply Z1)); done) | (repeat (first | exact Z0 | apply Z1))))); exact Z3) ?_
 · exact Nat.zero_le _
 rintro ⟨i, la, lc⟩ hle_i
 try simp only [List.cons_append, List.nil_append]
 obtain ⟨hdn, hdp, hdt, hdv⟩ := dAll_n (es.take i) x0
 rw [List.length_take] at hdn
 refine c_seq ?_
 refine c_seq ?_
 refine c_plain (.q 0 (.q 1 (.q 2 (.q 3 (.done))))) (by kernel_rfl) ?_
 refine q_move rfl rfl rfl rfl ?_
 refine q_move rfl rfl rfl rfl ?_
 refine q_len rfl rfl rfl rfl Try.underlying25 ?_
 refine q_int rfl rfl rfl rfl rfl (b_lss _ _ _ _) ?_
 refine r_done ?_
 refine k_then_n ?_
 refine c_cond_p rfl (fun hlt => ?_) (fun hlt => ?_)
 ·
  obtain ⟨e, he⟩ := get_lt (l := es) (i := i) (by omega)
  have hcan : canE (dAll x0 (es.take i)) e := by rw [hx0]; exact kn_can hok (by omega) hall he
  have hck : eZ (thF (dAll x0 (es.take i)).v e.2.1) e.2.1 = (clkF (vNew th va vo lk pl) es) i := by rw [dAll_vN, hx0, clkF, thrE_at he]; rfl
  refine c_skip ?_
  refine k_then_n ?_
  refine c_seq ?_
  refine c_block ?_
  refine c_seq ?_
  refine c_plain (.q 0 (.q 1 (.q 2 (.q 3 (.q 4 (.q 5 (.done))))))) (by kernel_rfl) ?_
  refine q_move rfl rfl rfl rfl ?_
  refine q_move rfl rfl rfl rfl ?_
  refine q_idxR (sz := 2) (k := i) rfl rfl rfl rfl rfl Try.underlying25 Try.sizeOf40 (he_) he enc3_len (by first | rfl | omega) (by omega) ?_
  intro ib32 io32 _ hd32
  refine q_field (k := 1) rfl rfl rfl rfl Try.underlying40 rfl Try.sizeOf3 rfl ?_
  refine q_load rfl rfl rfl rfl Try.isAgg3 Tk (hd32 1 (.int .i64 e.2.1) rfl) ?_
  refine q_assign rfl rfl rfl rfl ?_
  refine r_done ?_
  refine s_keep [1, 7, 9, 10, 11] (e' := [(1, _), (7, _), (9, _), (10, _), (11, _)]) rfl ?_
  refine k_then_n ?_
  refine c_seq ?_
  refine c_plain (.q 0 (.q 1 (.q 2 ((.l 3 [] (.q 4 ((.l 5 [] ((.l 6 [] ((.l 7 [] (.q 8 (.done)))))))))))))) (by kernel_rfl) ?_
  refine q_move rfl rfl rfl rfl ?_
  refine q_move rfl rfl rfl rfl ?_
  refine q_move rfl rfl rfl rfl ?_
  have sp_3 := Dj.vector_spec dpa dpc dpo dpoc d (dAll x0 (es.take i)) (dAll_inv hi0 _) e.2.1
  refine l_call rfl rfl rfl rfl rfl rfl Try.call11 (sp_3) Ts ?_
  rintro ⟨vea, vec⟩ -
  try simp only [List.cons_append, List.nil_append]
  refine ag_nil ?_
  refine q_move rfl rfl rfl rfl ?_
  refine s_take (A := own 1 encU vea vec (thF (dAll x0 (es.take i)).v e.2.1)) Tk ?_
  refine own_fc fun f_4a f_4b f_4c => ?_
  have sp_5 := entry_spec (thF (dAll x0 (es.take i)).v e.2.1) vea ((thF (dAll x0 (es.take i)).v e.2.1).length) vec (own 1 encU vea vec (thF (dAll x0 (es.take i)).v e.2.1)) (by first | rfl | assumption | omega | (simp; done) | (simp; omega)) (rds_own encU_len (fun h => (f_4b h).1) f_4c) e.2.1
  refine l_call rfl rfl rfl rfl rfl rfl Try.call12 (sp_5) Ts ?_
  rintro ⟨⟩ -
  try simp only [List.cons_append, List.nil_append]
  refine ag_nil ?_
  refine s_eq 40 rfl (v' := .int .u64 ((clkF (vNew th va vo lk pl) es) i)) (by rw [hck]) ?_
  refine l_buildSlice rfl rfl rfl rfl (run_build1 (us := [_]) Try.underlying31 Try.sizeOf35 rfl Try.zeroValue35 rfl rfl rfl) ?_
  intro b41
  refine ag_nil ?_
  refine l_append (sz := 1) (enc := encU) (xs := (mks (clkF (vNew th va vo lk pl) es) i)) rfl rfl rfl rfl rfl Try.underlying31 Try.typeInfo35 rfl rfl rfl (by decide) Tk Tk (by exact mks_len _ _) (ys := [((clkF (vNew th va vo lk pl) es) i)]) (rds_some rdn_cells) (by rfl) (by first | rfl | omega) (encU_len) (encU_one) (by omega) (by show _ * 8 ≤ _; omega) ?_
  intro ao42 cp42
  refine ag_nil ?_
  refine q_assign rfl rfl rfl rfl ?_
  refine r_done ?_
  refine s_keep [1, 7, 9, 10] (e' := [(1, _), (7, _), (9, _), (10, _)]) rfl ?_
  refine k_then_n ?_
  refine c_seq ?_
  refine c_plain (.q 0 (.q 1 (.q 2 (.q 3 (.q 4 ((.l 5 [] ((.l 6 [] (.q 7 (.done))))))))))) (by kernel_rfl) ?_
  refine q_move rfl rfl rfl rfl ?_
  refine q_move rfl rfl rfl rfl ?_
  refine q_move rfl rfl rfl rfl ?_
  refine q_idxR (sz := 2) (k := i) rfl rfl rfl rfl rfl Try.underlying25 Try.sizeOf40 (he_) he enc3_len (by first | rfl | omega) (by omega) ?_
  intro ib46 io46 _ hd46
  refine q_loadN (vs := [_, _, _]) rfl rfl rfl rfl Try.isAgg40 Try.sizeOf40 Tk (hd46) rfl ?_
  have sp_6 := event_spec dpa dpc dpo dpoc d (dAll x0 (es.take i)) (dAll_inv hi0 _) (by omega) pl (hdp.trans hp0) e.1 e.2.1 e.2.2
  refine l_call rfl rfl rfl rfl rfl rfl Try.call20 (sp_6) Ts ?_
  rintro ⟨⟩ -
  try simp only [List.cons_append, List.nil_append]
  refine ag_nil ?_
  have sp_7 := num_spec (deE (dAll x0 (es.take i)) e.1 e.2.1 e.2.2)
  refine l_call rfl rfl rfl rfl rfl rfl Try.call16 (sp_7) Ts ?_
  rintro ⟨⟩ -
  try simp only [List.cons_append, List.nil_append]
  refine ag_nil ?_
  refine q_int rfl rfl rfl rfl rfl (b_neq _ _ _ _) ?_
  refine r_done ?_
  refine s_keep [1, 7, 9, 10, 50] (e' := [(1, _), (7, _), (9, _), (10, _), (50, _)]) rfl ?_
  refine k_then_n ?_
  refine c_cond_p rfl (fun hg => by exfalso; exact hg (if_pos hcan)) (fun hg => ?_)
  refine c_skip ?_
  refine k_blk_n ?_
  refine k_then_n ?_
  refine c_plain (.q 0 (.q 1 (.q 2 (.done)))) (by kernel_rfl) ?_
  refine q_move rfl rfl rfl rfl ?_
  refine q_int rfl rfl rfl rfl rfl (b_add' _ (by exact fits_i64 (by omega) (by omega))) ?_
  refine q_assign rfl rfl rfl rfl ?_
  refine r_done ?_
  refine k_then_n ?_
  rw [mks_next, show deF (dAll x0 (es.take i)) e.1 e.2.1 e.2.2 = dAll x0 (es.take (i + 1)) from (dAll_next he).symm]
  refine loop_next (x := (i, la, lc)) ((i + 1, ao42, cp42)) ?_ ?_ ?_ ?_
  · try dsimp only
    show i + 1 ≤ m; omega
  · show m - (i + 1) < m - i; omega
  · exact ⟨rfl, rfl, rfl, rfl, trivial⟩
  · (try simp only [List.cons_append, List.nil_append]); exact Tf
 ·
  obtain rfl : m = i := by omega
  refine c_exit ?_
  refine k_then_exit ?_
  refine k_then_exit ?_
  refine k_blk_here ?_
  refine k_then_n ?_
  refine c_seq ?_
  refine c_plain (.q 0 (.q 1 (.q 2 (.q 3 (.q 4 (.done)))))) (by kernel_rfl) ?_
  refine q_move rfl rfl rfl rfl ?_
  refine q_move rfl rfl rfl rfl ?_
  refine q_assign rfl rfl rfl rfl ?_
  refine q_assign rfl rfl rfl rfl ?_
  refine q_assign rfl rfl rfl rfl ?_
  refine r_done ?_
  refine s_keep [4, 5, 6] (e' := [(4, _), (5, _), (6, _)]) rfl ?_
  refine k_then_n ?_
  refine c_ret ?_
  rw [List.take_of_length_le (show es.length ≤ m by omega), hx0]
  refine retL (us := [_, _, _]) rfl ⟨rv_tmp rfl, rv_tmp rfl, rv_tmp rfl, trivial⟩ ((d, (dpa, dpc, dpo, dpoc), la, lc)) (by rfl) (by trivial) ?_
  exact Tf
theorem knows_ok (th va vo lk : Int) (pl : List Int) (ao : Option Addr) (n c : Nat) (A : HProp) (hr : RdS A ao (pl.flatMap encZ)) (hn : pl.length = n) (hb : n ≤ 4000000) (hok : OkS th va vo lk pl) (es : List T3) (eo : Option Addr) (m ec : Nat) (he_ : RdS A eo (es.flatMap enc3)) (hem : es.length = m) (hmb : m ≤ 4000000) (hall : allC (newF th va vo lk pl) es es.length) : Spec Try.prog 3 [.agg #[.int .i64 th, .int .i64 va, .int .i64 vo, .int .i64 lk, .slice ao n c], .slice eo m ec] [A] (fun (_ : Unit) => .bool true) (fun _ => True) (fun _ => [A]) := by
 refine spec_mk (n := 144) Try.func3 rfl rfl rfl ?_
 intro Γ w0
 simp only [argE, List.cons_append, List.nil_append, Nat.zero_add, Nat.reduceAdd]
 have hth1 := hok.th
 refine c_seq ?_
 refine c_plain ((.l 0 [] (.q 1 (.done)))) (by kernel_rfl) ?_
 refine l_box rfl rfl rfl rfl (us := [_, _, _, _, _]) rfl ?_
 intro b2
 refine ag_nil ?_
 refine q_assign rfl rfl rfl rfl ?_
 refine r_done ?_
 refine k_then_n ?_
 refine c_seq ?_
 refine c_seq ?_
 refine c_plain ((.l 0 [] (.q 1 (.q 2 (.q 3 (.q 4 (.q 5 (.q 6 (.q 7 (.q 8 (.q 9 (.q 10 (.q 11 (.q 12 (.q 13 (.q 14 (.q 15 (.q 16 (.done))))))))))))))))))) (by kernel_rfl) ?_
 refine l_call rfl rfl rfl rfl rfl rfl Try.call8 (works_spec) Ts ?_
 rintro ⟨⟩ -
 try simp only [List.cons_append, List.nil_append]
 refine ag_nil ?_
 refine q_not rfl rfl rfl rfl ?_
 refine s_eq 19 rfl (v' := .bool false) rfl ?_
 refine q_move rfl rfl rfl rfl ?_
 refine q_move rfl rfl rfl rfl ?_
 refine q_len rfl rfl rfl rfl Try.underlying25 ?_
 refine q_int rfl rfl rfl rfl rfl (b_gtr _ _ _ _) ?_
 refine q_pick_f rfl rfl rfl rfl rfl ?_
 refine q_move rfl rfl rfl rfl ?_
 refine s_bool_p 25 rfl (fun hb1 => ?_) (fun hb1 => ?_)
 ·
  refine q_skip rfl rfl rfl rfl ?_
  refine q_skip rfl rfl rfl rfl ?_
  refine q_skip rfl rfl rfl rfl ?_
  refine q_pick_t rfl rfl rfl rfl rfl ?_
  refine q_move rfl rfl rfl rfl ?_
  refine q_skip rfl rfl rfl rfl ?_
  refine q_skip rfl rfl rfl rfl ?_
  refine q_skip rfl rfl rfl rfl ?_
  refine q_pick_t rfl rfl rfl rfl rfl ?_
  refine r_done ?_
  refine s_keep [1, 2, 34] (e' := [(1, _), (2, _), (34, _)]) rfl ?_
  refine k_then_n ?_
  refine c_cond_t rfl ?_
  refine c_seq ?_
  refine c_plain ((.l 0 [] (.q 1 (.done)))) (by kernel_rfl) ?_
  refine l_call rfl rfl rfl rfl rfl rfl Try.call8 (works_spec) Ts ?_
  rintro ⟨⟩ -
  try simp only [List.cons_append, List.nil_append]
  refine ag_nil ?_
  refine q_assign rfl rfl rfl rfl ?_
  refine r_done ?_
  refine s_keep [4] (e' := [(4, _)]) rfl ?_
  refine k_then_n ?_
  refine c_ret ?_
  refine k_then_ret ?_
  refine ret1 rfl rfl (()) (by first | rfl | (first | rfl | (congr 1; done) | (congr 1 <;> first | rfl | omega | (simp; done) | (simp; omega)))) (by trivial) ?_
  exact Tf
 ·
  refine q_field (k := 0) rfl rfl rfl rfl Try.underlying24 rfl Try.sizeOf3 rfl ?_
  refine q_load_c (j := 0) rfl rfl rfl rfl Try.isAgg3 Tk (by first | rfl | exact (Nat.add_zero _).symm) (by rfl) ?_
  refine q_int rfl rfl rfl rfl rfl (b_gtr _ _ _ _) ?_
  refine q_pick_f rfl rfl rfl rfl rfl ?_
  refine q_move rfl rfl rfl rfl ?_
  refine s_bool_p 30 rfl (fun hb2 => ?_) (fun hb2 => ?_)
  ·
   refine q_skip rfl rfl rfl rfl ?_
   refine q_skip rfl rfl rfl rfl ?_
   refine q_skip rfl rfl rfl rfl ?_
   refine q_pick_t rfl rfl rfl rfl rfl ?_
   refine r_done ?_
   refine s_keep [1, 2, 34] (e' := [(1, _), (2, _), (34, _)]) rfl ?_
   refine k_then_n ?_
   refine c_cond_t rfl ?_
   refine c_seq ?_
   refine c_plain ((.l 0 [] (.q 1 (.done)))) (by kernel_rfl) ?_
   refine l_call rfl rfl rfl rfl rfl rfl Try.call8 (works_spec) Ts ?_
   rintro ⟨⟩ -
   try simp only [List.cons_append, List.nil_append]
   refine ag_nil ?_
   refine q_assign rfl rfl rfl rfl ?_
   refine r_done ?_
   refine s_keep [4] (e' := [(4, _)]) rfl ?_
   refine k_then_n ?_
   refine c_ret ?_
   refine k_then_ret ?_
   refine ret1 rfl rfl (()) (by first | rfl | (first | rfl | (congr 1; done) | (congr 1 <;> first | rfl | omega | (simp; done) | (simp; omega)))) (by trivial) ?_
   exact Tf
  ·
   refine q_field (k := 1) rfl rfl rfl rfl Try.underlying24 rfl Try.sizeOf3 rfl ?_
   refine q_load_c (j := 1) rfl rfl rfl rfl Try.isAgg3 Tk (by first | rfl | exact (Nat.add_zero _).symm) (by rfl) ?_
   refine q_int rfl rfl rfl rfl rfl (b_lss _ _ _ _) ?_
   refine q_pick_f rfl rfl rfl rfl rfl ?_
   refine r_done ?_
   refine s_keep [1, 2, 34] (e' := [(1, _), (2, _), (34, _)]) rfl ?_
   refine k_then_n ?_
   refine c_cond_p rfl (fun hb3 => ?_) (fun hb3 => ?_)
   ·
    refine c_seq ?_
    refine c_plain ((.l 0 [] (.q 1 (.done)))) (by kernel_rfl) ?_
    refine l_call rfl rfl rfl rfl rfl rfl Try.call8 (works_spec) Ts ?_
    rintro ⟨⟩ -
    try simp only [List.cons_append, List.nil_append]
    refine ag_nil ?_
    refine q_assign rfl rfl rfl rfl ?_
    refine r_done ?_
    refine s_keep [4] (e' := [(4, _)]) rfl ?_
    refine k_then_n ?_
    refine c_ret ?_
    refine k_then_ret ?_
    refine ret1 rfl rfl (()) (by first | rfl | (first | rfl | (congr 1; done) | (congr 1 <;> first | rfl | omega | (simp; done) | (simp; omega)))) (by trivial) ?_
    exact Tf
   ·
    refine c_skip ?_
    refine k_then_n ?_
    refine c_seq ?_
    refine c_plain (.q 0 (.q 1 ((.l 2 [] (.q 3 (.q 4 (.q 5 (.q 6 (.q 7 (.done)))))))))) (by kernel_rfl) ?_
    refine q_loadN_c rfl rfl rfl rfl Try.isAgg24 Try.sizeOf24 Tk 0 (us := [_, _, _, _, _]) (by first | rfl | exact (Nat.add_zero _).symm) rfl rfl ?_
    refine q_move rfl rfl rfl rfl ?_
    have sp_1 := onew_spec th va vo lk pl ao n c A hr hn hb es eo m ec he_ hem hmb hok (by omega) hall
    refine l_call rfl rfl rfl rfl rfl rfl Try.call9 (sp_1) Ts ?_
    rintro o0 -
    try simp only [List.cons_append, List.nil_append]
    refine ag_nil ?_
    refine q_move rfl rfl rfl rfl ?_
    refine q_extract rfl rfl rfl rfl rfl ?_
    refine q_extract rfl rfl rfl rfl rfl ?_
    refine q_assign rfl rfl rfl rfl ?_
    refine q_assign rfl rfl rfl rfl ?_
    refine r_done ?_
    refine s_keep [1, 2, 6] (e' := [(1, _), (2, _), (6, _)]) rfl ?_
    refine k_then_n ?_
    refine c_seq ?_
    refine c_seq ?_
    refine c_plain (.q 0 (.q 1 (.done))) (by kernel_rfl) ?_
    refine q_move rfl rfl rfl rfl ?_
    refine q_int rfl rfl rfl rfl rfl (b_neq _ _ _ _) ?_
    refine s_eq 43 rfl (v' := .bool false) (by first | rfl | simp) ?_
    refine r_done ?_
    refine k_then_n ?_
    refine c_cond_f rfl ?_
    refine c_skip ?_
    refine k_then_n ?_
    refine c_seq ?_
    refine c_plain (.q 0 (.q 1 ((.l 2 [] (.q 3 (.q 4 (.q 5 (.q 6 (.q 7 (.q 8 (.q 9 (.done)))))))))))) (by kernel_rfl) ?_
    refine q_loadN_c rfl rfl rfl rfl Try.isAgg24 Try.sizeOf24 Tk 0 (us := [_, _, _, _, _]) (by first | rfl | exact (Nat.add_zero _).symm) rfl rfl ?_
    refine q_move rfl rfl rfl rfl ?_
    have sp_2 := clocked_spec th va vo lk pl ao n c A hr hn hb hok es eo m ec he_ hem hmb (by omega) hall
    refine l_call rfl rfl rfl rfl rfl rfl Try.call10 (sp_2) Ts ?_
    rintro ⟨d, ⟨dpa, dpc, dpo, dpoc⟩, la, lc⟩ -
    try simp only [List.cons_append, List.nil_append]
    refine ag_nil ?_
    refine q_move rfl rfl rfl rfl ?_
    refine q_extract rfl rfl rfl rfl rfl ?_
    refine q_extract rfl rfl rfl rfl rfl ?_
    refine q_extract rfl rfl rfl rfl rfl ?_
    refine q_assign rfl rfl rfl rfl ?_
    refine q_assign rfl rfl rfl rfl ?_
    refine q_assign rfl rfl rfl rfl ?_
    refine r_done ?_
    obtain ⟨x0, hx0⟩ : ∃ y, y = dNew th va vo lk pl := ⟨_, rfl⟩
    rw [← hx0]
    have hi0 : DInv x0 := by rw [hx0]; exact new_dinv hok (new_inv hok)
    have hn0 : x0.v.ck.n = 0 := by rw [hx0]; rfl
    have hp0 : x0.v.ck.pa = pl := by rw [hx0]; rfl
    have hI0 : DInv (dAll x0 es) := dAll_inv hi0 es
    obtain ⟨hdn, hdp, hdt, hdv⟩ := dAll_n es x0
    refine s_keep [1, 2, 7, 8, 9] (e' := [(1, _), (2, _), (7, _), (8, _), (9, _)]) rfl ?_
    refine k_then_n ?_
    refine c_seq ?_
    refine c_seq ?_
    refine c_plain (.q 0 (.q 1 (.done))) (by kernel_rfl) ?_
    refine q_move rfl rfl rfl rfl ?_
    refine q_not rfl rfl rfl rfl ?_
    refine s_eq 52 rfl (v' := .bool false) rfl ?_
    refine r_done ?_
    refine k_then_n ?_
    refine c_cond_f rfl ?_
    refine c_skip ?_
    refine k_then_n ?_
    refine c_seq ?_
    refine c_seq ?_
    refine c_plain (.q 0 (.done)) (by kernel_rfl) ?_
    refine q_assign rfl rfl rfl rfl ?_
    refine r_done ?_
    refine k_then_n ?_
    refine c_block ?_
    refine c_loop2 (α := Nat) (fun (t : Nat) => t ≤ th.toNat) (fun (t : Nat) => [(10, .int .i64 ((t : Nat) : Int))]) (fun (t : Nat) => [dR dpa dpc dpo dpoc d (dAll x0 es)]) (fun (t : Nat) => th.toNat - t) [1, 2, 7, 8] (er := [(1, _), (2, _), (7, _), (8, _)]) rfl (0) ?_ (by exact ⟨rfl, trivial⟩) (by (try dsimp only); (try simp only [Nat.add_zero, Nat.zero_add]); (repeat ((with_reducible apply Z2); focus (first | (with_reducible (repeat (first | exact Z0 | apply Z1)); done) | (repeat (first | exact Z0 | apply Z1))))); exact Z3) ?_
    · exact Nat.zero_le _
    rintro t hle_t
    try simp only [List.cons_append, List.nil_append]
    refine c_seq ?_
    refine c_seq ?_
    refine c_plain (.q 0 (.q 1 (.q 2 (.q 3 (.done))))) (by kernel_rfl) ?_
    refine q_move rfl rfl rfl rfl ?_
    refine q_field (k := 0) rfl rfl rfl rfl Try.underlying24 rfl Try.sizeOf3 rfl ?_
    refine q_load_c (j := 0) rfl rfl rfl rfl Try.isAgg3 Tk (by first | rfl | exact (Nat.add_zero _).symm) (by rfl) ?_
    refine q_int rfl rfl rfl rfl rfl (b_lss _ _ _ _) ?_
    refine r_done ?_
    refine k_then_n ?_
    refine c_cond_p rfl (fun htlt => ?_) (fun htlt => ?_)
    ·
     refine c_skip ?_
     refine k_then_n ?_
     refine c_seq ?_
     refine c_block ?_
     refine c_seq ?_
     refine c_plain (.q 0 (.q 1 ((.l 2 [] (.q 3 (.done)))))) (by kernel_rfl) ?_
     refine q_move rfl rfl rfl rfl ?_
     refine q_move rfl rfl rfl rfl ?_
     have sp_3 := Dj.vector_spec dpa dpc dpo dpoc d (dAll x0 es) hI0 ((t : Nat) : Int)
     refine l_call rfl rfl rfl rfl rfl rfl Try.call11 (sp_3) Ts ?_
     rintro ⟨wa, wc⟩ -
     try simp only [List.cons_append, List.nil_append]
     refine ag_nil ?_
     refine q_assign rfl rfl rfl rfl ?_
     refine r_done ?_
     refine s_keep [1, 2, 7, 8, 10, 11] (e' := [(1, _), (2, _), (7, _), (8, _), (10, _), (11, _)]) rfl ?_
     refine k_then_n ?_
     refine c_seq ?_
     refine c_seq ?_
     refine c_plain (.q 0 (.done)) (by kernel_rfl) ?_
     refine q_assign rfl rfl rfl rfl ?_
     refine r_done ?_
     refine k_then_n ?_
     refine c_block ?_
     refine c_loop2 (α := Nat) (fun (u : Nat) => u ≤ th.toNat) (fun (u : Nat) => [(12, .int .i64 ((u : Nat) : Int))]) (fun (u : Nat) => [dR dpa dpc dpo dpoc d (dAll x0 es)]) (fun (u : Nat) => th.toNat - u) [1, 2, 7, 8, 10, 11] (er := [(1, _), (2, _), (7, _), (8, _), (10, _), (11, _)]) rfl (0) ?_ (by exact ⟨rfl, trivial⟩) (by (try dsimp only); (try simp only [Nat.add_zero, Nat.zero_add]); (repeat ((with_reducible apply Z2); focus (first | (with_reducible (repeat (first | exact Z0 | apply Z1)); done) | (repeat (first | exact Z0 | apply Z1))))); exact Z3) ?_
     · exact Nat.zero_le _
     rintro u hle_u
     try simp only [List.cons_append, List.nil_append]
     refine c_seq ?_
     refine c_seq ?_
     refine c_plain (.q 0 (.q 1 (.q 2 (.q 3 (.done))))) (by kernel_rfl) ?_
     refine q_move rfl rfl rfl rfl ?_
     refine q_field (k := 0) rfl rfl rfl rfl Try.underlying24 rfl Try.sizeOf3 rfl ?_
     refine q_load_c (j := 0) rfl rfl rfl rfl Try.isAgg3 Tk (by first | rfl | exact (Nat.add_zero _).symm) (by rfl) ?_
     refine q_int rfl rfl rfl rfl rfl (b_lss _ _ _ _) ?_
     refine r_done ?_
     refine k_then_n ?_
     refine c_cond_p rfl (fun hult => ?_) (fun hult => ?_)
     ·
      have hkl := kn_le hok (by omega) hall ((t : Nat) : Int) ((u : Nat) : Int) (by omega)
      have hkt := kn_lt hok (by omega) hall ((t : Nat) : Int) ((u : Nat) : Int) (by omega)
      rw [← hx0] at hkl hkt
      refine c_skip ?_
      refine k_then_n ?_
      refine c_seq ?_
      refine c_block ?_
      refine c_seq ?_
      refine c_plain (.q 0 (.q 1 ((.l 2 [] (.q 3 ((.l 4 [] (.q 5 (.done))))))))) (by kernel_rfl) ?_
      refine q_move rfl rfl rfl rfl ?_
      refine q_move rfl rfl rfl rfl ?_
      have sp_4 := Dj.vector_spec dpa dpc dpo dpoc d (dAll x0 es) hI0 ((u : Nat) : Int)
      refine l_call rfl rfl rfl rfl rfl rfl Try.call11 (sp_4) Ts ?_
      rintro ⟨za, zc⟩ -
      try simp only [List.cons_append, List.nil_append]
      refine ag_nil ?_
      refine q_move rfl rfl rfl rfl ?_
      refine s_take (A := own 1 encU za zc (thF (dAll x0 es).v ((u : Nat) : Int))) Tk ?_
      refine own_fc fun f_5a f_5b f_5c => ?_
      have sp_6 := entry_spec (thF (dAll x0 es).v ((u : Nat) : Int)) za ((thF (dAll x0 es).v ((u : Nat) : Int)).length) zc (own 1 encU za zc (thF (dAll x0 es).v ((u : Nat) : Int))) (by first | rfl | assumption | omega | (simp; done) | (simp; omega)) (rds_own encU_len (fun h => (f_5b h).1) f_5c) ((u : Nat) : Int)
      refine l_call rfl rfl rfl rfl rfl rfl Try.call12 (sp_6) Ts ?_
      rintro ⟨⟩ -
      try simp only [List.cons_append, List.nil_append]
      refine ag_nil ?_
      refine q_assign rfl rfl rfl rfl ?_
      refine r_done ?_
      refine s_keep [1, 2, 7, 8, 10, 11, 12, 13] (e' := [(1, _), (2, _), (7, _), (8, _), (10, _), (11, _), (12, _), (13, _)]) rfl ?_
      refine k_then_n ?_
      refine c_seq ?_
      refine c_plain (.q 0 (.q 1 (.q 2 (.q 3 (.q 4 (.q 5 ((.l 6 [] (.q 7 (.q 8 (.q 9 (.q 10 (.q 11 ((.l 12 [] (.q 13 (.q 14 (.q 15 (.q 16 (.q 17 (.q 18 (.q 19 (.q 20 (.q 21 ((.l 22 [] (.q 23 (.q 24 (.q 25 (.q 26 (.done))))))))))))))))))))))))))))))) (by kernel_rfl) ?_
      refine q_move rfl rfl rfl rfl ?_
      refine q_move rfl rfl rfl rfl ?_
      refine q_int rfl rfl rfl rfl rfl (b_neq _ _ _ _) ?_
      refine q_move rfl rfl rfl rfl ?_
      refine s_bool_p 76 rfl (fun hne => ?_) (fun hne => ?_)
      ·
       refine q_move rfl rfl rfl rfl ?_
       refine q_move rfl rfl rfl rfl ?_
       refine s_take (A := own 1 encU wa wc (thF (dAll x0 es).v ((t : Nat) : Int))) Tk ?_
       refine own_fc fun f_7a f_7b f_7c => ?_
       have sp_8 := entry_spec (thF (dAll x0 es).v ((t : Nat) : Int)) wa ((thF (dAll x0 es).v ((t : Nat) : Int)).length) wc (own 1 encU wa wc (thF (dAll x0 es).v ((t : Nat) : Int))) (by first | rfl | assumption | omega | (simp; done) | (simp; omega)) (rds_own encU_len (fun h => (f_7b h).1) f_7c) ((u : Nat) : Int)
       refine l_call rfl rfl rfl rfl rfl rfl Try.call12 (sp_8) Ts ?_
       rintro ⟨⟩ -
       try simp only [List.cons_append, List.nil_append]
       refine ag_nil ?_
       refine q_move rfl rfl rfl rfl ?_
       refine q_int rfl rfl rfl rfl rfl (b_gtr _ _ _ _) ?_
       refine q_move rfl rfl rfl rfl ?_
       refine s_bool_p 82 rfl (fun hg => by exfalso; omega) (fun hg => ?_)
       refine q_move rfl rfl rfl rfl ?_
       refine q_move rfl rfl rfl rfl ?_
       refine s_take (A := own 1 encU wa wc (thF (dAll x0 es).v ((t : Nat) : Int))) Tk ?_
       refine own_fc fun f_9a f_9b f_9c => ?_
       have sp_10 := entry_spec (thF (dAll x0 es).v ((t : Nat) : Int)) wa ((thF (dAll x0 es).v ((t : Nat) : Int)).length) wc (own 1 encU wa wc (thF (dAll x0 es).v ((t : Nat) : Int))) (by first | rfl | assumption | omega | (simp; done) | (simp; omega)) (rds_own encU_len (fun h => (f_9b h).1) f_9c) ((u : Nat) : Int)
       refine l_call rfl rfl rfl rfl rfl rfl Try.call12 (sp_10) Ts ?_
       rintro ⟨⟩ -
       try simp only [List.cons_append, List.nil_append]
       refine ag_nil ?_
       refine q_move rfl rfl rfl rfl ?_
       refine q_int rfl rfl rfl rfl rfl (b_eql _ _ _ _) ?_
       refine q_move rfl rfl rfl rfl ?_
       refine s_bool_p 88 rfl (fun heq => ?_) (fun heq => ?_)
       ·
        refine q_move rfl rfl rfl rfl ?_
        refine q_int rfl rfl rfl rfl rfl (b_gtr _ _ _ _) ?_
        refine q_pick_t rfl rfl rfl rfl rfl ?_
        refine q_move rfl rfl rfl rfl ?_
        refine s_bool_p 92 rfl (fun hpos => ?_) (fun hpos => ?_)
        ·
         refine q_move rfl rfl rfl rfl ?_
         refine q_move rfl rfl rfl rfl ?_
         have sp_11 := ended_spec es eo m ec A (by first | rfl | assumption | omega | (simp; done) | (simp; omega)) (he_) (by omega) ((u : Nat) : Int)
         refine l_call rfl rfl rfl rfl rfl rfl Try.call13 (sp_11) Ts ?_
         rintro ⟨⟩ -
         try simp only [List.cons_append, List.nil_append]
         refine ag_nil ?_
         refine q_not rfl rfl rfl rfl ?_
         refine q_pick_t rfl rfl rfl rfl rfl ?_
         refine q_pick_f rfl rfl rfl rfl rfl ?_
         refine q_pick_t rfl rfl rfl rfl rfl ?_
         refine r_done ?_
         refine s_keep [1, 2, 7, 8, 10, 11, 12, 77, 78, 79, 80, 81, 82, 83, 84, 85, 86, 87, 88, 89, 90, 91, 92, 93, 94, 95, 96, 97, 98, 99] (e' := [(1, _), (2, _), (7, _), (8, _), (10, _), (11, _), (12, _), (77, _), (78, _), (79, _), (80, _), (81, _), (82, _), (83, _), (84, _), (85, _), (86, _), (87, _), (88, _), (89, _), (90, _), (91, _), (92, _), (93, _), (94, _), (95, _), (96, _), (97, _), (98, _), (99, _)]) rfl ?_
         refine k_then_n ?_
         refine c_cond rfl (fun hg => by exfalso; have := hkt (by omega) heq hpos; rw [this] at hg; simp at hg) (fun hg => ?_)
         try simp only [Bool.and_eq_true, Bool.or_eq_true, Bool.not_eq_true', Bool.not_eq_false', Bool.and_eq_false_iff, Bool.or_eq_false_iff, decide_eq_true_eq, decide_eq_false_iff_not] at hg
         refine c_skip ?_
         refine k_blk_n ?_
         refine k_then_n ?_
         refine c_plain (.q 0 (.q 1 (.q 2 (.done)))) (by kernel_rfl) ?_
         refine q_move rfl rfl rfl rfl ?_
         refine q_int rfl rfl rfl rfl rfl (b_add' _ (by exact fits_i64 (by omega) (by omega))) ?_
         refine q_assign rfl rfl rfl rfl ?_
         refine r_done ?_
         refine k_then_n ?_
         refine loop_next (x := u) (u + 1) ?_ ?_ ?_ ?_
         · exact by show u + 1 ≤ th.toNat; omega
         · show th.toNat - (u + 1) < th.toNat - u; omega
         · exact ⟨rfl, rfl, rfl, rfl, rfl, rfl, rfl, trivial⟩
         · (try simp only [List.cons_append, List.nil_append]); exact Tf
        ·
         refine q_skip rfl rfl rfl rfl ?_
         refine q_skip rfl rfl rfl rfl ?_
         refine l_skip rfl rfl rfl rfl ?_
         refine q_skip rfl rfl rfl rfl ?_
         refine q_pick_f rfl rfl rfl rfl rfl ?_
         refine q_pick_f rfl rfl rfl rfl rfl ?_
         refine q_pick_t rfl rfl rfl rfl rfl ?_
         refine r_done ?_
         refine s_keep [1, 2, 7, 8, 10, 11, 12, 77, 78, 79, 80, 81, 82, 83, 84, 85, 86, 87, 88, 89, 90, 91, 92, 93, 94, 95, 96, 97, 98, 99] (e' := [(1, _), (2, _), (7, _), (8, _), (10, _), (11, _), (12, _), (77, _), (78, _), (79, _), (80, _), (81, _), (82, _), (83, _), (84, _), (85, _), (86, _), (87, _), (88, _), (89, _), (90, _), (91, _), (92, _), (93, _), (94, _), (95, _), (96, _), (97, _), (98, _), (99, _)]) rfl ?_
         refine k_then_n ?_
         refine c_cond_f rfl ?_
         refine c_skip ?_
         refine k_blk_n ?_
         refine k_then_n ?_
         refine c_plain (.q 0 (.q 1 (.q 2 (.done)))) (by kernel_rfl) ?_
         refine q_move rfl rfl rfl rfl ?_
         refine q_int rfl rfl rfl rfl rfl (b_add' _ (by exact fits_i64 (by omega) (by omega))) ?_
         refine q_assign rfl rfl rfl rfl ?_
         refine r_done ?_
         refine k_then_n ?_
         refine loop_next (x := u) (u + 1) ?_ ?_ ?_ ?_
         · exact by show u + 1 ≤ th.toNat; omega
         · show th.toNat - (u + 1) < th.toNat - u; omega
         · exact ⟨rfl, rfl, rfl, rfl, rfl, rfl, rfl, trivial⟩
         · (try simp only [List.cons_append, List.nil_append]); exact Tf
       ·
        refine q_skip rfl rfl rfl rfl ?_
        refine q_skip rfl rfl rfl rfl ?_
        refine q_pick_f rfl rfl rfl rfl rfl ?_
        refine q_move rfl rfl rfl rfl ?_
        refine q_skip rfl rfl rfl rfl ?_
        refine q_skip rfl rfl rfl rfl ?_
        refine l_skip rfl rfl rfl rfl ?_
        refine q_skip rfl rfl rfl rfl ?_
        refine q_pick_f rfl rfl rfl rfl rfl ?_
        refine q_pick_f rfl rfl rfl rfl rfl ?_
        refine q_pick_t rfl rfl rfl rfl rfl ?_
        refine r_done ?_
        refine s_keep [1, 2, 7, 8, 10, 11, 12, 77, 78, 79, 80, 81, 82, 83, 84, 85, 86, 87, 88, 89, 90, 91, 92, 93, 94, 95, 96, 97, 98, 99] (e' := [(1, _), (2, _), (7, _), (8, _), (10, _), (11, _), (12, _), (77, _), (78, _), (79, _), (80, _), (81, _), (82, _), (83, _), (84, _), (85, _), (86, _), (87, _), (88, _), (89, _), (90, _), (91, _), (92, _), (93, _), (94, _), (95, _), (96, _), (97, _), (98, _), (99, _)]) rfl ?_
        refine k_then_n ?_
        refine c_cond_f rfl ?_
        refine c_skip ?_
        refine k_blk_n ?_
        refine k_then_n ?_
        refine c_plain (.q 0 (.q 1 (.q 2 (.done)))) (by kernel_rfl) ?_
        refine q_move rfl rfl rfl rfl ?_
        refine q_int rfl rfl rfl rfl rfl (b_add' _ (by exact fits_i64 (by omega) (by omega))) ?_
        refine q_assign rfl rfl rfl rfl ?_
        refine r_done ?_
        refine k_then_n ?_
        refine loop_next (x := u) (u + 1) ?_ ?_ ?_ ?_
        · exact by show u + 1 ≤ th.toNat; omega
        · show th.toNat - (u + 1) < th.toNat - u; omega
        · exact ⟨rfl, rfl, rfl, rfl, rfl, rfl, rfl, trivial⟩
        · (try simp only [List.cons_append, List.nil_append]); exact Tf
      ·
       refine q_skip rfl rfl rfl rfl ?_
       refine q_skip rfl rfl rfl rfl ?_
       refine l_skip rfl rfl rfl rfl ?_
       refine q_skip rfl rfl rfl rfl ?_
       refine q_skip rfl rfl rfl rfl ?_
       refine q_skip rfl rfl rfl rfl ?_
       refine q_skip rfl rfl rfl rfl ?_
       refine q_skip rfl rfl rfl rfl ?_
       refine l_skip rfl rfl rfl rfl ?_
       refine q_skip rfl rfl rfl rfl ?_
       refine q_skip rfl rfl rfl rfl ?_
       refine q_skip rfl rfl rfl rfl ?_
       refine q_skip rfl rfl rfl rfl ?_
       refine q_skip rfl rfl rfl rfl ?_
       refine q_skip rfl rfl rfl rfl ?_
       refine q_skip rfl rfl rfl rfl ?_
       refine q_skip rfl rfl rfl rfl ?_
       refine q_skip rfl rfl rfl rfl ?_
       refine l_skip rfl rfl rfl rfl ?_
       refine q_skip rfl rfl rfl rfl ?_
       refine q_skip rfl rfl rfl rfl ?_
       refine q_skip rfl rfl rfl rfl ?_
       refine q_pick_f rfl rfl rfl rfl rfl ?_
       refine r_done ?_
       refine s_keep [1, 2, 7, 8, 10, 11, 12, 77, 78, 79, 80, 81, 82, 83, 84, 85, 86, 87, 88, 89, 90, 91, 92, 93, 94, 95, 96, 97, 98, 99] (e' := [(1, _), (2, _), (7, _), (8, _), (10, _), (11, _), (12, _), (77, _), (78, _), (79, _), (80, _), (81, _), (82, _), (83, _), (84, _), (85, _), (86, _), (87, _), (88, _), (89, _), (90, _), (91, _), (92, _), (93, _), (94, _), (95, _), (96, _), (97, _), (98, _), (99, _)]) rfl ?_
       refine k_then_n ?_
       refine c_cond_f rfl ?_
       refine c_skip ?_
       refine k_blk_n ?_
       refine k_then_n ?_
       refine c_plain (.q 0 (.q 1 (.q 2 (.done)))) (by kernel_rfl) ?_
       refine q_move rfl rfl rfl rfl ?_
       refine q_int rfl rfl rfl rfl rfl (b_add' _ (by exact fits_i64 (by omega) (by omega))) ?_
       refine q_assign rfl rfl rfl rfl ?_
       refine r_done ?_
       refine k_then_n ?_
       refine loop_next (x := u) (u + 1) ?_ ?_ ?_ ?_
       · exact by show u + 1 ≤ th.toNat; omega
       · show th.toNat - (u + 1) < th.toNat - u; omega
       · exact ⟨rfl, rfl, rfl, rfl, rfl, rfl, rfl, trivial⟩
       · (try simp only [List.cons_append, List.nil_append]); exact Tf
     ·
      refine c_exit ?_
      refine k_then_exit ?_
      refine k_then_exit ?_
      refine k_blk_here ?_
      refine k_then_n ?_
      refine c_seq ?_
      refine c_draw rfl (.q 0 (.q 2 (.q 4 (.q 5 ((.alt (.l 1 [0] ((.alt (.l 3 [0] ((.l 6 [0] ((.l 7 [0] ((.l 8 [] (.q 9 (.q 10 (.q 11 (.q 12 (.q 13 (.done))))))))))))) (.l 6 [0] ((.l 3 [0] ((.l 7 [0] ((.l 8 [] (.q 9 (.q 10 (.q 11 (.q 12 (.q 13 (.done)))))))))))))))) (.l 6 [0] ((.l 1 [0] ((.l 3 [0] ((.l 7 [0] ((.l 8 [] (.q 9 (.q 10 (.q 11 (.q 12 (.q 13 (.done))))))))))))))))))))) (by kernel_rfl) ?_
      refine q_loadN_c rfl rfl rfl rfl Try.isAgg24 Try.sizeOf24 Tk 0 (us := [_, _, _, _, _]) (by first | rfl | exact (Nat.add_zero _).symm) rfl rfl ?_
      refine q_move rfl rfl rfl rfl ?_
      refine q_move rfl rfl rfl rfl ?_
      refine q_build rfl rfl rfl rfl (vs := [_, _, _]) (run_buildS Try.underlying40 Try.zeroValue40 (ps := [(0, 1), (1, 1), (2, 1)]) ⟨rfl, Try.sizeOf38, rfl, Try.sizeOf3, rfl, Try.sizeOf3, trivial⟩ rfl) ?_
      refine r_alt ?_ ?_
      ·
       refine l_buildSlice0 rfl rfl rfl rfl Try.underlying25 Try.sizeOf40 ?_
       intro b102
       refine ag_loadN_c rfl rfl (us := [_, _, _, _, _]) rfl Try.isAgg24 Try.sizeOf24 Tk 0 (by first | rfl | exact (Nat.add_zero _).symm) rfl rfl ?_
       refine ag_nil ?_
       refine r_alt ?_ ?_
       ·
        refine s_take (A := cells b102 0 []) Tk ?_
        refine s_heap (fun _ h => own_mk (sz := 3) (enc := enc3) (xs := []) (sp := []) (cap := 0) (Nat.le_refl _) rfl h) ?_
        refine l_append (sz := 3) (enc := enc3) (xs := []) rfl rfl rfl rfl rfl Try.underlying25 Try.typeInfo40 rfl rfl rfl (by decide) Tk Tk (by first | rfl | omega | (simp; done) | (simp; omega)) (ys := es) (he_) (by rfl) (by first | rfl | omega) (enc3_len) (enc3_one) (by omega) (by show _ * 24 ≤ _; omega) ?_
        intro ao104 cp104
        try simp only [List.nil_append]
        refine ag_loadN_c rfl rfl (us := [_, _, _, _, _]) rfl Try.isAgg24 Try.sizeOf24 Tk 0 (by first | rfl | exact (Nat.add_zero _).symm) rfl rfl ?_
        refine ag_nil ?_
        refine l_buildSlice rfl rfl rfl rfl (run_build1 (us := [_, _, _]) Try.underlying25 Try.sizeOf40 rfl Try.zeroValue40 rfl rfl rfl) ?_
        intro b107
        refine ag_loadN_c rfl rfl (us := [_, _, _, _, _]) rfl Try.isAgg24 Try.sizeOf24 Tk 0 (by first | rfl | exact (Nat.add_zero _).symm) rfl rfl ?_
        refine ag_nil ?_
        refine l_append (sz := 3) (enc := enc3) (xs := (es)) rfl rfl rfl rfl rfl Try.underlying25 Try.typeInfo40 rfl rfl rfl (by decide) Tk Tk (by first | rfl | omega | (simp; done) | (simp; omega)) (ys := [(1, ((t : Nat) : Int), 0)]) (rds_some rdn_cells) (by rfl) (by first | rfl | omega) (enc3_len) (enc3_one) (by omega) (by show _ * 24 ≤ _; omega) ?_
        intro ao108 cp108
        refine ag_loadN_c rfl rfl (us := [_, _, _, _, _]) rfl Try.isAgg24 Try.sizeOf24 Tk 0 (by first | rfl | exact (Nat.add_zero _).symm) rfl rfl ?_
        refine ag_nil ?_
        by_cases hg2 : allC (newF th va vo lk pl) (es ++ [((1 : Int), ((t : Nat) : Int), (0 : Int))]) (es ++ [((1 : Int), ((t : Nat) : Int), (0 : Int))]).length
        ·
         refine s_take (A := own 3 enc3 ao108 cp108 ((es) ++ ([(1, ((t : Nat) : Int), 0)]))) Tk ?_
         refine own_fc fun f_12a f_12b f_12c => ?_
         refine s_heap (fun _ h => Bun.fold ((by (repeat ((with_reducible apply Z2); focus (first | (with_reducible (repeat (first | exact Z0 | apply Z1)); done) | (repeat (first | exact Z0 | apply Z1))))); exact Z3 : Takes _ [A, own 3 enc3 ao108 cp108 ((es) ++ ([(1, ((t : Nat) : Int), 0)]))] _) _ h)) ?_
         have sp_13 := onew_spec th va vo lk pl ao n c (Bun [A, own 3 enc3 ao108 cp108 ((es) ++ ([(1, ((t : Nat) : Int), 0)]))]) (rds_bun (List.mem_cons_self) (hr)) (by first | rfl | assumption | omega | (simp; done) | (simp; omega)) (by omega) (es ++ [((1 : Int), ((t : Nat) : Int), (0 : Int))]) ao108 ((0 + m) + 1) cp108 (rds_bun (List.mem_cons_of_mem _ (List.mem_cons_self)) (rds_own enc3_len (fun h => (f_12b h).1) f_12c)) (by rw [List.length_append]; simp; omega) (by omega) hok (by rw [List.length_append]; simp; omega) hg2
         refine l_call rfl rfl rfl rfl rfl rfl Try.call9 (sp_13) Ts ?_
         rintro ob -
         try simp only [List.cons_append, List.nil_append]
         refine s_take (A := Bun [A, own 3 enc3 ao108 cp108 ((es) ++ ([(1, ((t : Nat) : Int), 0)]))]) Tk ?_
         refine s_bun ?_
         try simp only [List.cons_append, List.nil_append]
         try simp only [List.cons_append, List.nil_append]
         refine ag_nil ?_
         refine q_move rfl rfl rfl rfl ?_
         refine q_extract rfl rfl rfl rfl rfl ?_
         refine q_extract rfl rfl rfl rfl rfl ?_
         refine q_assign rfl rfl rfl rfl ?_
         refine q_assign rfl rfl rfl rfl ?_
         refine r_done ?_
         refine s_keep [1, 2, 7, 8, 10, 11, 14, 15] (e' := [(1, _), (2, _), (7, _), (8, _), (10, _), (11, _), (14, _), (15, _)]) rfl ?_
         refine k_then_n ?_
         refine c_seq ?_
         refine c_seq ?_
         refine c_plain (.q 0 (.q 1 (.done))) (by kernel_rfl) ?_
         refine q_move rfl rfl rfl rfl ?_
         refine q_int rfl rfl rfl rfl rfl (b_neq _ _ _ _) ?_
         refine s_eq 113 rfl (v' := .bool false) (by first | rfl | simp) ?_
         refine r_done ?_
         refine k_then_n ?_
         refine c_cond_f rfl ?_
         refine c_skip ?_
         refine k_then_n ?_
         refine c_seq ?_
         refine c_plain (.q 0 (.done)) (by kernel_rfl) ?_
         refine q_assign rfl rfl rfl rfl ?_
         refine r_done ?_
         refine k_then_n ?_
         refine c_block ?_
         refine c_loop2 (α := Nat) (fun (i : Nat) => i ≤ m) (fun (i : Nat) => [(16, .int .i64 ((i : Nat) : Int))]) (fun (i : Nat) => []) (fun (i : Nat) => m - i) [1, 2, 7, 8, 10, 11, 14] (er := [(1, _), (2, _), (7, _), (8, _), (10, _), (11, _), (14, _)]) rfl (0) ?_ (by exact ⟨rfl, trivial⟩) (by (try dsimp only); (try simp only [Nat.add_zero, Nat.zero_add]); (repeat ((with_reducible apply Z2); focus (first | (with_reducible (repeat (first | exact Z0 | apply Z1)); done) | (repeat (first | exact Z0 | apply Z1))))); exact Z3) ?_
         · exact Nat.zero_le _
         rintro i hle_i
         try simp only [List.cons_append, List.nil_append]
         refine c_seq ?_
         refine c_seq ?_
         refine c_plain (.q 0 (.q 1 (.q 2 (.q 3 (.done))))) (by kernel_rfl) ?_
         refine q_move rfl rfl rfl rfl ?_
         refine q_move rfl rfl rfl rfl ?_
         refine q_len rfl rfl rfl rfl Try.underlying25 ?_
         refine q_int rfl rfl rfl rfl rfl (b_lss _ _ _ _) ?_
         refine r_done ?_
         refine k_then_n ?_
         refine c_cond_p rfl (fun hilt => ?_) (fun hilt => ?_)
         ·
          obtain ⟨e, he⟩ := get_lt (l := es) (i := i) (by omega)
          have hkh := kn_hb hok (f := ((1 : Int), ((t : Nat) : Int), (0 : Int))) (.inl rfl) (by omega) hg2 he
          rw [← hx0, hem] at hkh
          refine c_skip ?_
          refine k_then_n ?_
          refine c_seq ?_
          refine c_block ?_
          refine c_seq ?_
          refine c_plain (.q 0 (.q 1 (.q 2 (.q 3 (.q 4 (.q 5 (.done))))))) (by kernel_rfl) ?_
          refine q_move rfl rfl rfl rfl ?_
          refine q_move rfl rfl rfl rfl ?_
          refine q_idxR (sz := 2) (k := i) rfl rfl rfl rfl rfl Try.underlying25 Try.sizeOf40 (he_) he enc3_len (by first | rfl | omega) (by omega) ?_
          intro ib122 io122 _ hd122
          refine q_field (k := 1) rfl rfl rfl rfl Try.underlying40 rfl Try.sizeOf3 rfl ?_
          refine q_load rfl rfl rfl rfl Try.isAgg3 Tk (hd122 1 (.int .i64 e.2.1) rfl) ?_
          refine q_assign rfl rfl rfl rfl ?_
          refine r_done ?_
          refine s_keep [1, 2, 7, 8, 10, 11, 14, 16, 17] (e' := [(1, _), (2, _), (7, _), (8, _), (10, _), (11, _), (14, _), (16, _), (17, _)]) rfl ?_
          refine k_then_n ?_
          refine c_seq ?_
          refine c_draw rfl (.q 0 (.q 1 (.q 2 (.q 3 (.q 4 (.q 5 (.q 6 (.q 7 (.q 9 (.q 10 (.q 12 (.q 13 (.q 14 (.q 15 ((.l 8 [15] ((.l 11 [15] (.q 16 (.q 17 (.q 18 (.done)))))))))))))))))))))) (by kernel_rfl) ?_
          refine q_move rfl rfl rfl rfl ?_
          refine q_move rfl rfl rfl rfl ?_
          refine q_int rfl rfl rfl rfl rfl (b_neq _ _ _ _) ?_
          refine q_move rfl rfl rfl rfl ?_
          refine s_bool_p 128 rfl (fun hne2 => ?_) (fun hne2 => ?_)
          ·
           refine q_move rfl rfl rfl rfl ?_
           refine q_move rfl rfl rfl rfl ?_
           refine q_move rfl rfl rfl rfl ?_
           refine q_len rfl rfl rfl rfl Try.underlying25 ?_
           refine q_move rfl rfl rfl rfl ?_
           refine q_move rfl rfl rfl rfl ?_
           refine q_move rfl rfl rfl rfl ?_
           refine q_move rfl rfl rfl rfl ?_
           have hk_14 : (mks (clkF (vNew th va vo lk pl) es) m)[i]? = some ((clkF (vNew th va vo lk pl) es) i) := (mks_get _ (by omega))
           refine q_idxO (sz := 0) (k := i) (enc := encU) (xs := (mks (clkF (vNew th va vo lk pl) es) m)) rfl rfl rfl rfl rfl Try.underlying31 Try.sizeOf35 hk_14 (by first | rfl | omega) (by omega) Tk ?_
           intro ib139 io139 ha139 hl139 hc139
           refine q_load_O (v := (.int .u64 ((clkF (vNew th va vo lk pl) es) i))) (j := 0) (k' := i) (enc := encU) (off := io139) rfl rfl rfl rfl Try.isAgg35 ha139 encU_len hk_14 Tk (by first | rfl | exact (Nat.add_zero _).symm | omega) (by rfl) ?_
           have sp_15 := ohap_spec ob (es ++ [((1 : Int), ((t : Nat) : Int), (0 : Int))]) (rnds (newF th va vo lk pl) (es ++ [((1 : Int), ((t : Nat) : Int), (0 : Int))])) (by rw [List.length_append]; simp; omega) i m (by rw [List.length_append]; simp; omega) (by rw [List.length_append]; simp; omega)
           refine l_call rfl rfl rfl rfl rfl rfl Try.call14 (sp_15) Ts ?_
           rintro ⟨⟩ -
           try simp only [List.cons_append, List.nil_append]
           refine ag_load_O (v := (.int .u64 ((clkF (vNew th va vo lk pl) es) i))) (j := 0) (k' := i) (enc := encU) (off := io139) rfl rfl rfl Try.isAgg35 ha139 encU_len hk_14 Tk (by first | rfl | exact (Nat.add_zero _).symm | omega) (by rfl) ?_
           refine ag_nil ?_
           refine s_take (A := own 1 encU wa wc (thF (dAll x0 es).v ((t : Nat) : Int))) Tk ?_
           refine own_fc fun f_16a f_16b f_16c => ?_
           have sp_17 := entry_spec (thF (dAll x0 es).v ((t : Nat) : Int)) wa ((thF (dAll x0 es).v ((t : Nat) : Int)).length) wc (own 1 encU wa wc (thF (dAll x0 es).v ((t : Nat) : Int))) (by first | rfl | assumption | omega | (simp; done) | (simp; omega)) (rds_own encU_len (fun h => (f_16b h).1) f_16c) e.2.1
           refine l_call rfl rfl rfl rfl rfl rfl Try.call12 (sp_17) Ts ?_
           rintro ⟨⟩ -
           try simp only [List.cons_append, List.nil_append]
           refine ag_load_O (v := (.int .u64 ((clkF (vNew th va vo lk pl) es) i))) (j := 0) (k' := i) (enc := encU) (off := io139) rfl rfl rfl Try.isAgg35 ha139 encU_len hk_14 Tk (by first | rfl | exact (Nat.add_zero _).symm | omega) (by rfl) ?_
           refine ag_nil ?_
           refine q_int rfl rfl rfl rfl rfl (b_geq _ _ _ _) ?_
           refine q_neb rfl rfl rfl rfl rfl Try.underlying4 ?_
           refine q_pick_t rfl rfl rfl rfl rfl ?_
           refine r_done ?_
           refine s_keep [1, 2, 7, 8, 10, 11, 14, 16, 129, 130, 131, 132, 133, 134, 135, 136, 137, 138, 139, 140, 141, 142, 143] (e' := [(1, _), (2, _), (7, _), (8, _), (10, _), (11, _), (14, _), (16, _), (129, _), (130, _), (131, _), (132, _), (133, _), (134, _), (135, _), (136, _), (137, _), (138, _), (139, _), (140, _), (141, _), (142, _), (143, _)]) rfl ?_
           refine k_then_n ?_
           refine c_cond rfl (fun hg => by exfalso; rw [hkh] at hg; simp at hg) (fun hg => ?_)
           try simp only [Bool.and_eq_true, Bool.or_eq_true, Bool.not_eq_true', Bool.not_eq_false', Bool.and_eq_false_iff, Bool.or_eq_false_iff, decide_eq_true_eq, decide_eq_false_iff_not] at hg
           refine c_skip ?_
           refine k_blk_n ?_
           refine k_then_n ?_
           refine c_plain (.q 0 (.q 1 (.q 2 (.done)))) (by kernel_rfl) ?_
           refine q_move rfl rfl rfl rfl ?_
           refine q_int rfl rfl rfl rfl rfl (b_add' _ (by exact fits_i64 (by omega) (by omega))) ?_
           refine q_assign rfl rfl rfl rfl ?_
           refine r_done ?_
           refine k_then_n ?_
           refine loop_next (x := i) (i + 1) ?_ ?_ ?_ ?_
           · exact by show i + 1 ≤ m; omega
           · show m - (i + 1) < m - i; omega
           · exact ⟨rfl, rfl, rfl, rfl, rfl, rfl, rfl, rfl, trivial⟩
           · (try simp only [List.cons_append, List.nil_append]); exact Tf
          ·
           refine q_skip rfl rfl rfl rfl ?_
           refine q_skip rfl rfl rfl rfl ?_
           refine q_skip rfl rfl rfl rfl ?_
           refine q_skip rfl rfl rfl rfl ?_
           refine q_skip rfl rfl rfl rfl ?_
           refine q_skip rfl rfl rfl rfl ?_
           refine q_skip rfl rfl rfl rfl ?_
           refine q_skip rfl rfl rfl rfl ?_
           refine q_skip rfl rfl rfl rfl ?_
           refine q_skip rfl rfl rfl rfl ?_
           refine l_skip rfl rfl rfl rfl ?_
           refine l_skip rfl rfl rfl rfl ?_
           refine q_skip rfl rfl rfl rfl ?_
           refine q_skip rfl rfl rfl rfl ?_
           refine q_pick_f rfl rfl rfl rfl rfl ?_
           refine r_done ?_
           refine s_keep [1, 2, 7, 8, 10, 11, 14, 16, 129, 130, 131, 132, 133, 134, 135, 136, 137, 138, 139, 140, 141, 142, 143] (e' := [(1, _), (2, _), (7, _), (8, _), (10, _), (11, _), (14, _), (16, _), (129, _), (130, _), (131, _), (132, _), (133, _), (134, _), (135, _), (136, _), (137, _), (138, _), (139, _), (140, _), (141, _), (142, _), (143, _)]) rfl ?_
           refine k_then_n ?_
           refine c_cond_f rfl ?_
           refine c_skip ?_
           refine k_blk_n ?_
           refine k_then_n ?_
           refine c_plain (.q 0 (.q 1 (.q 2 (.done)))) (by kernel_rfl) ?_
           refine q_move rfl rfl rfl rfl ?_
           refine q_int rfl rfl rfl rfl rfl (b_add' _ (by exact fits_i64 (by omega) (by omega))) ?_
           refine q_assign rfl rfl rfl rfl ?_
           refine r_done ?_
           refine k_then_n ?_
           refine loop_next (x := i) (i + 1) ?_ ?_ ?_ ?_
           · exact by show i + 1 ≤ m; omega
           · show m - (i + 1) < m - i; omega
           · exact ⟨rfl, rfl, rfl, rfl, rfl, rfl, rfl, rfl, trivial⟩
           · (try simp only [List.cons_append, List.nil_append]); exact Tf
         ·
          refine c_exit ?_
          refine k_then_exit ?_
          refine k_then_exit ?_
          refine k_blk_here ?_
          refine k_blk_n ?_
          refine k_then_n ?_
          refine c_plain (.q 0 (.q 1 (.q 2 (.done)))) (by kernel_rfl) ?_
          refine q_move rfl rfl rfl rfl ?_
          refine q_int rfl rfl rfl rfl rfl (b_add' _ (by exact fits_i64 (by omega) (by omega))) ?_
          refine q_assign rfl rfl rfl rfl ?_
          refine r_done ?_
          refine s_keep [1, 2, 7, 8, 10] (e' := [(1, _), (2, _), (7, _), (8, _), (10, _)]) rfl ?_
          refine k_then_n ?_
          refine loop_next (x := t) (t + 1) ?_ ?_ ?_ ?_
          · exact by show t + 1 ≤ th.toNat; omega
          · show th.toNat - (t + 1) < th.toNat - t; omega
          · exact ⟨rfl, rfl, rfl, rfl, rfl, trivial⟩
          · (try simp only [List.cons_append, List.nil_append]); exact Tf
        ·
         refine s_take (A := own 3 enc3 ao108 cp108 ((es) ++ ([(1, ((t : Nat) : Int), 0)]))) Tk ?_
         refine own_fc fun f_18a f_18b f_18c => ?_
         refine s_heap (fun _ h => Bun.fold ((by (repeat ((with_reducible apply Z2); focus (first | (with_reducible (repeat (first | exact Z0 | apply Z1)); done) | (repeat (first | exact Z0 | apply Z1))))); exact Z3 : Takes _ [A, own 3 enc3 ao108 cp108 ((es) ++ ([(1, ((t : Nat) : Int), 0)]))] _) _ h)) ?_
         have sp_19 := onewbad1_spec th va vo lk pl ao n c (Bun [A, own 3 enc3 ao108 cp108 ((es) ++ ([(1, ((t : Nat) : Int), 0)]))]) (rds_bun (List.mem_cons_self) (hr)) (by first | rfl | assumption | omega | (simp; done) | (simp; omega)) (by omega) (es ++ [((1 : Int), ((t : Nat) : Int), (0 : Int))]) ao108 ((0 + m) + 1) cp108 (rds_bun (List.mem_cons_of_mem _ (List.mem_cons_self)) (rds_own enc3_len (fun h => (f_18b h).1) f_18c)) (by rw [List.length_append]; simp; omega) (by omega) hok (fun h => hg2 h.2)
         refine l_call rfl rfl rfl rfl rfl rfl Try.call9 (sp_19) Ts ?_
         rintro oe hoe
         try simp only [List.cons_append, List.nil_append]
         refine s_take (A := Bun [A, own 3 enc3 ao108 cp108 ((es) ++ ([(1, ((t : Nat) : Int), 0)]))]) Tk ?_
         refine s_bun ?_
         try simp only [List.cons_append, List.nil_append]
         try simp only [List.cons_append, List.nil_append]
         refine ag_nil ?_
         refine q_move rfl rfl rfl rfl ?_
         refine q_extract rfl rfl rfl rfl rfl ?_
         refine q_extract rfl rfl rfl rfl rfl ?_
         refine q_assign rfl rfl rfl rfl ?_
         refine q_assign rfl rfl rfl rfl ?_
         refine r_done ?_
         refine s_keep [1, 2, 7, 8, 10, 11, 14, 15] (e' := [(1, _), (2, _), (7, _), (8, _), (10, _), (11, _), (14, _), (15, _)]) rfl ?_
         refine k_then_n ?_
         refine c_seq ?_
         refine c_seq ?_
         refine c_plain (.q 0 (.q 1 (.done))) (by kernel_rfl) ?_
         refine q_move rfl rfl rfl rfl ?_
         refine q_int rfl rfl rfl rfl rfl (b_neq _ _ _ _) ?_
         refine r_done ?_
         refine k_then_n ?_
         refine c_cond_p rfl (fun hg => ?_) (fun hg => by exfalso; exact hoe (Classical.byContradiction hg))
         refine c_exit ?_
         refine k_then_exit ?_
         refine k_blk_here ?_
         refine k_then_n ?_
         refine c_plain (.q 0 (.q 1 (.q 2 (.done)))) (by kernel_rfl) ?_
         refine q_move rfl rfl rfl rfl ?_
         refine q_int rfl rfl rfl rfl rfl (b_add' _ (by exact fits_i64 (by omega) (by omega))) ?_
         refine q_assign rfl rfl rfl rfl ?_
         refine r_done ?_
         refine s_keep [1, 2, 7, 8, 10] (e' := [(1, _), (2, _), (7, _), (8, _), (10, _)]) rfl ?_
         refine k_then_n ?_
         refine loop_next (x := t) (t + 1) ?_ ?_ ?_ ?_
         · exact by show t + 1 ≤ th.toNat; omega
         · show th.toNat - (t + 1) < th.toNat - t; omega
         · exact ⟨rfl, rfl, rfl, rfl, rfl, trivial⟩
         · (try simp only [List.cons_append, List.nil_append]); exact Tf
       refine l_buildSlice rfl rfl rfl rfl (run_build1 (us := [_, _, _]) Try.underlying25 Try.sizeOf40 rfl Try.zeroValue40 rfl rfl rfl) ?_
       intro b107
       refine ag_loadN_c rfl rfl (us := [_, _, _, _, _]) rfl Try.isAgg24 Try.sizeOf24 Tk 0 (by first | rfl | exact (Nat.add_zero _).symm) rfl rfl ?_
       refine ag_nil ?_
       refine s_take (A := cells b102 0 []) Tk ?_
       refine s_heap (fun _ h => own_mk (sz := 3) (enc := enc3) (xs := []) (sp := []) (cap := 0) (Nat.le_refl _) rfl h) ?_
       refine l_append (sz := 3) (enc := enc3) (xs := []) rfl rfl rfl rfl rfl Try.underlying25 Try.typeInfo40 rfl rfl rfl (by decide) Tk Tk (by first | rfl | omega | (simp; done) | (simp; omega)) (ys := es) (he_) (by rfl) (by first | rfl | omega) (enc3_len) (enc3_one) (by omega) (by show _ * 24 ≤ _; omega) ?_
       intro ao104 cp104
       try simp only [List.nil_append]
       refine ag_loadN_c rfl rfl (us := [_, _, _, _, _]) rfl Try.isAgg24 Try.sizeOf24 Tk 0 (by first | rfl | exact (Nat.add_zero _).symm) rfl rfl ?_
       refine ag_nil ?_
       refine l_append (sz := 3) (enc := enc3) (xs := (es)) rfl rfl rfl rfl rfl Try.underlying25 Try.typeInfo40 rfl rfl rfl (by decide) Tk Tk (by first | rfl | omega | (simp; done) | (simp; omega)) (ys := [(1, ((t : Nat) : Int), 0)]) (rds_some rdn_cells) (by rfl) (by first | rfl | omega) (enc3_len) (enc3_one) (by omega) (by show _ * 24 ≤ _; omega) ?_
       intro ao108 cp108
       refine ag_loadN_c rfl rfl (us := [_, _, _, _, _]) rfl Try.isAgg24 Try.sizeOf24 Tk 0 (by first | rfl | exact (Nat.add_zero _).symm) rfl rfl ?_
       refine ag_nil ?_
       by_cases hg2 : allC (newF th va vo lk pl) (es ++ [((1 : Int), ((t : Nat) : Int), (0 : Int))]) (es ++ [((1 : Int), ((t : Nat) : Int), (0 : Int))]).length
       ·
        refine s_take (A := own 3 enc3 ao108 cp108 ((es) ++ ([(1, ((t : Nat) : Int), 0)]))) Tk ?_
        refine own_fc fun f_20a f_20b f_20c => ?_
        refine s_heap (fun _ h => Bun.fold ((by (repeat ((with_reducible apply Z2); focus (first | (with_reducible (repeat (first | exact Z0 | apply Z1)); done) | (repeat (first | exact Z0 | apply Z1))))); exact Z3 : Takes _ [A, own 3 enc3 ao108 cp108 ((es) ++ ([(1, ((t : Nat) : Int), 0)]))] _) _ h)) ?_
        have sp_21 := onew_spec th va vo lk pl ao n c (Bun [A, own 3 enc3 ao108 cp108 ((es) ++ ([(1, ((t : Nat) : Int), 0)]))]) (rds_bun (List.mem_cons_self) (hr)) (by first | rfl | assumption | omega | (simp; done) | (simp; omega)) (by omega) (es ++ [((1 : Int), ((t : Nat) : Int), (0 : Int))]) ao108 ((0 + m) + 1) cp108 (rds_bun (List.mem_cons_of_mem _ (List.mem_cons_self)) (rds_own enc3_len (fun h => (f_20b h).1) f_20c)) (by rw [List.length_append]; simp; omega) (by omega) hok (by rw [List.length_append]; simp; omega) hg2
        refine l_call rfl rfl rfl rfl rfl rfl Try.call9 (sp_21) Ts ?_
        rintro ob -
        try simp only [List.cons_append, List.nil_append]
        refine s_take (A := Bun [A, own 3 enc3 ao108 cp108 ((es) ++ ([(1, ((t : Nat) : Int), 0)]))]) Tk ?_
        refine s_bun ?_
        try simp only [List.cons_append, List.nil_append]
        try simp only [List.cons_append, List.nil_append]
        refine ag_nil ?_
        refine q_move rfl rfl rfl rfl ?_
        refine q_extract rfl rfl rfl rfl rfl ?_
        refine q_extract rfl rfl rfl rfl rfl ?_
        refine q_assign rfl rfl rfl rfl ?_
        refine q_assign rfl rfl rfl rfl ?_
        refine r_done ?_
        refine s_keep [1, 2, 7, 8, 10, 11, 14, 15] (e' := [(1, _), (2, _), (7, _), (8, _), (10, _), (11, _), (14, _), (15, _)]) rfl ?_
        refine k_then_n ?_
        refine c_seq ?_
        refine c_seq ?_
        refine c_plain (.q 0 (.q 1 (.done))) (by kernel_rfl) ?_
        refine q_move rfl rfl rfl rfl ?_
        refine q_int rfl rfl rfl rfl rfl (b_neq _ _ _ _) ?_
        refine s_eq 113 rfl (v' := .bool false) (by first | rfl | simp) ?_
        refine r_done ?_
        refine k_then_n ?_
        refine c_cond_f rfl ?_
        refine c_skip ?_
        refine k_then_n ?_
        refine c_seq ?_
        refine c_plain (.q 0 (.done)) (by kernel_rfl) ?_
        refine q_assign rfl rfl rfl rfl ?_
        refine r_done ?_
        refine k_then_n ?_
        refine c_block ?_
        refine c_loop2 (α := Nat) (fun (i : Nat) => i ≤ m) (fun (i : Nat) => [(16, .int .i64 ((i : Nat) : Int))]) (fun (i : Nat) => []) (fun (i : Nat) => m - i) [1, 2, 7, 8, 10, 11, 14] (er := [(1, _), (2, _), (7, _), (8, _), (10, _), (11, _), (14, _)]) rfl (0) ?_ (by exact ⟨rfl, trivial⟩) (by (try dsimp only); (try simp only [Nat.add_zero, Nat.zero_add]); (repeat ((with_reducible apply Z2); focus (first | (with_reducible (repeat (first | exact Z0 | apply Z1)); done) | (repeat (first | exact Z0 | apply Z1))))); exact Z3) ?_
        · exact Nat.zero_le _
        rintro i hle_i
        try simp only [List.cons_append, List.nil_append]
        refine c_seq ?_
        refine c_seq ?_
        refine c_plain (.q 0 (.q 1 (.q 2 (.q 3 (.done))))) (by kernel_rfl) ?_
        refine q_move rfl rfl rfl rfl ?_
        refine q_move rfl rfl rfl rfl ?_
        refine q_len rfl rfl rfl rfl Try.underlying25 ?_
        refine q_int rfl rfl rfl rfl rfl (b_lss _ _ _ _) ?_
        refine r_done ?_
        refine k_then_n ?_
        refine c_cond_p rfl (fun hilt => ?_) (fun hilt => ?_)
        ·
         obtain ⟨e, he⟩ := get_lt (l := es) (i := i) (by omega)
         have hkh := kn_hb hok (f := ((1 : Int), ((t : Nat) : Int), (0 : Int))) (.inl rfl) (by omega) hg2 he
         rw [← hx0, hem] at hkh
         refine c_skip ?_
         refine k_then_n ?_
         refine c_seq ?_
         refine c_block ?_
         refine c_seq ?_
         refine c_plain (.q 0 (.q 1 (.q 2 (.q 3 (.q 4 (.q 5 (.done))))))) (by kernel_rfl) ?_
         refine q_move rfl rfl rfl rfl ?_
         refine q_move rfl rfl rfl rfl ?_
         refine q_idxR (sz := 2) (k := i) rfl rfl rfl rfl rfl Try.underlying25 Try.sizeOf40 (he_) he enc3_len (by first | rfl | omega) (by omega) ?_
         intro ib122 io122 _ hd122
         refine q_field (k := 1) rfl rfl rfl rfl Try.underlying40 rfl Try.sizeOf3 rfl ?_
         refine q_load rfl rfl rfl rfl Try.isAgg3 Tk (hd122 1 (.int .i64 e.2.1) rfl) ?_
         refine q_assign rfl rfl rfl rfl ?_
         refine r_done ?_
         refine s_keep [1, 2, 7, 8, 10, 11, 14, 16, 17] (e' := [(1, _), (2, _), (7, _), (8, _), (10, _), (11, _), (14, _), (16, _), (17, _)]) rfl ?_
         refine k_then_n ?_
         refine c_seq ?_
         refine c_draw rfl (.q 0 (.q 1 (.q 2 (.q 3 (.q 4 (.q 5 (.q 6 (.q 7 (.q 9 (.q 10 (.q 12 (.q 13 (.q 14 (.q 15 ((.l 8 [15] ((.l 11 [15] (.q 16 (.q 17 (.q 18 (.done)))))))))))))))))))))) (by kernel_rfl) ?_
         refine q_move rfl rfl rfl rfl ?_
         refine q_move rfl rfl rfl rfl ?_
         refine q_int rfl rfl rfl rfl rfl (b_neq _ _ _ _) ?_
         refine q_move rfl rfl rfl rfl ?_
         refine s_bool_p 128 rfl (fun hne2 => ?_) (fun hne2 => ?_)
         ·
          refine q_move rfl rfl rfl rfl ?_
          refine q_move rfl rfl rfl rfl ?_
          refine q_move rfl rfl rfl rfl ?_
          refine q_len rfl rfl rfl rfl Try.underlying25 ?_
          refine q_move rfl rfl rfl rfl ?_
          refine q_move rfl rfl rfl rfl ?_
          refine q_move rfl rfl rfl rfl ?_
          refine q_move rfl rfl rfl rfl ?_
          have hk_22 : (mks (clkF (vNew th va vo lk pl) es) m)[i]? = some ((clkF (vNew th va vo lk pl) es) i) := (mks_get _ (by omega))
          refine q_idxO (sz := 0) (k := i) (enc := encU) (xs := (mks (clkF (vNew th va vo lk pl) es) m)) rfl rfl rfl rfl rfl Try.underlying31 Try.sizeOf35 hk_22 (by first | rfl | omega) (by omega) Tk ?_
          intro ib139 io139 ha139 hl139 hc139
          refine q_load_O (v := (.int .u64 ((clkF (vNew th va vo lk pl) es) i))) (j := 0) (k' := i) (enc := encU) (off := io139) rfl rfl rfl rfl Try.isAgg35 ha139 encU_len hk_22 Tk (by first | rfl | exact (Nat.add_zero _).symm | omega) (by rfl) ?_
          have sp_23 := ohap_spec ob (es ++ [((1 : Int), ((t : Nat) : Int), (0 : Int))]) (rnds (newF th va vo lk pl) (es ++ [((1 : Int), ((t : Nat) : Int), (0 : Int))])) (by rw [List.length_append]; simp; omega) i m (by rw [List.length_append]; simp; omega) (by rw [List.length_append]; simp; omega)
          refine l_call rfl rfl rfl rfl rfl rfl Try.call14 (sp_23) Ts ?_
          rintro ⟨⟩ -
          try simp only [List.cons_append, List.nil_append]
          refine ag_load_O (v := (.int .u64 ((clkF (vNew th va vo lk pl) es) i))) (j := 0) (k' := i) (enc := encU) (off := io139) rfl rfl rfl Try.isAgg35 ha139 encU_len hk_22 Tk (by first | rfl | exact (Nat.add_zero _).symm | omega) (by rfl) ?_
          refine ag_nil ?_
          refine s_take (A := own 1 encU wa wc (thF (dAll x0 es).v ((t : Nat) : Int))) Tk ?_
          refine own_fc fun f_24a f_24b f_24c => ?_
          have sp_25 := entry_spec (thF (dAll x0 es).v ((t : Nat) : Int)) wa ((thF (dAll x0 es).v ((t : Nat) : Int)).length) wc (own 1 encU wa wc (thF (dAll x0 es).v ((t : Nat) : Int))) (by first | rfl | assumption | omega | (simp; done) | (simp; omega)) (rds_own encU_len (fun h => (f_24b h).1) f_24c) e.2.1
          refine l_call rfl rfl rfl rfl rfl rfl Try.call12 (sp_25) Ts ?_
          rintro ⟨⟩ -
          try simp only [List.cons_append, List.nil_append]
          refine ag_load_O (v := (.int .u64 ((clkF (vNew th va vo lk pl) es) i))) (j := 0) (k' := i) (enc := encU) (off := io139) rfl rfl rfl Try.isAgg35 ha139 encU_len hk_22 Tk (by first | rfl | exact (Nat.add_zero _).symm | omega) (by rfl) ?_
          refine ag_nil ?_
          refine q_int rfl rfl rfl rfl rfl (b_geq _ _ _ _) ?_
          refine q_neb rfl rfl rfl rfl rfl Try.underlying4 ?_
          refine q_pick_t rfl rfl rfl rfl rfl ?_
          refine r_done ?_
          refine s_keep [1, 2, 7, 8, 10, 11, 14, 16, 129, 130, 131, 132, 133, 134, 135, 136, 137, 138, 139, 140, 141, 142, 143] (e' := [(1, _), (2, _), (7, _), (8, _), (10, _), (11, _), (14, _), (16, _), (129, _), (130, _), (131, _), (132, _), (133, _), (134, _), (135, _), (136, _), (137, _), (138, _), (139, _), (140, _), (141, _), (142, _), (143, _)]) rfl ?_
          refine k_then_n ?_
          refine c_cond rfl (fun hg => by exfalso; rw [hkh] at hg; simp at hg) (fun hg => ?_)
          try simp only [Bool.and_eq_true, Bool.or_eq_true, Bool.not_eq_true', Bool.not_eq_false', Bool.and_eq_false_iff, Bool.or_eq_false_iff, decide_eq_true_eq, decide_eq_false_iff_not] at hg
          refine c_skip ?_
          refine k_blk_n ?_
          refine k_then_n ?_
          refine c_plain (.q 0 (.q 1 (.q 2 (.done)))) (by kernel_rfl) ?_
          refine q_move rfl rfl rfl rfl ?_
          refine q_int rfl rfl rfl rfl rfl (b_add' _ (by exact fits_i64 (by omega) (by omega))) ?_
          refine q_assign rfl rfl rfl rfl ?_
          refine r_done ?_
          refine k_then_n ?_
          refine loop_next (x := i) (i + 1) ?_ ?_ ?_ ?_
          · exact by show i + 1 ≤ m; omega
          · show m - (i + 1) < m - i; omega
          · exact ⟨rfl, rfl, rfl, rfl, rfl, rfl, rfl, rfl, trivial⟩
          · (try simp only [List.cons_append, List.nil_append]); exact Tf
         ·
          refine q_skip rfl rfl rfl rfl ?_
          refine q_skip rfl rfl rfl rfl ?_
          refine q_skip rfl rfl rfl rfl ?_
          refine q_skip rfl rfl rfl rfl ?_
          refine q_skip rfl rfl rfl rfl ?_
          refine q_skip rfl rfl rfl rfl ?_
          refine q_skip rfl rfl rfl rfl ?_
          refine q_skip rfl rfl rfl rfl ?_
          refine q_skip rfl rfl rfl rfl ?_
          refine q_skip rfl rfl rfl rfl ?_
          refine l_skip rfl rfl rfl rfl ?_
          refine l_skip rfl rfl rfl rfl ?_
          refine q_skip rfl rfl rfl rfl ?_
          refine q_skip rfl rfl rfl rfl ?_
          refine q_pick_f rfl rfl rfl rfl rfl ?_
          refine r_done ?_
          refine s_keep [1, 2, 7, 8, 10, 11, 14, 16, 129, 130, 131, 132, 133, 134, 135, 136, 137, 138, 139, 140, 141, 142, 143] (e' := [(1, _), (2, _), (7, _), (8, _), (10, _), (11, _), (14, _), (16, _), (129, _), (130, _), (131, _), (132, _), (133, _), (134, _), (135, _), (136, _), (137, _), (138, _), (139, _), (140, _), (141, _), (142, _), (143, _)]) rfl ?_
          refine k_then_n ?_
          refine c_cond_f rfl ?_
          refine c_skip ?_
          refine k_blk_n ?_
          refine k_then_n ?_
          refine c_plain (.q 0 (.q 1 (.q 2 (.done)))) (by kernel_rfl) ?_
          refine q_move rfl rfl rfl rfl ?_
          refine q_int rfl rfl rfl rfl rfl (b_add' _ (by exact fits_i64 (by omega) (by omega))) ?_
          refine q_assign rfl rfl rfl rfl ?_
          refine r_done ?_
          refine k_then_n ?_
          refine loop_next (x := i) (i + 1) ?_ ?_ ?_ ?_
          · exact by show i + 1 ≤ m; omega
          · show m - (i + 1) < m - i; omega
          · exact ⟨rfl, rfl, rfl, rfl, rfl, rfl, rfl, rfl, trivial⟩
          · (try simp only [List.cons_append, List.nil_append]); exact Tf
        ·
         refine c_exit ?_
         refine k_then_exit ?_
         refine k_then_exit ?_
         refine k_blk_here ?_
         refine k_blk_n ?_
         refine k_then_n ?_
         refine c_plain (.q 0 (.q 1 (.q 2 (.done)))) (by kernel_rfl) ?_
         refine q_move rfl rfl rfl rfl ?_
         refine q_int rfl rfl rfl rfl rfl (b_add' _ (by exact fits_i64 (by omega) (by omega))) ?_
         refine q_assign rfl rfl rfl rfl ?_
         refine r_done ?_
         refine s_keep [1, 2, 7, 8, 10] (e' := [(1, _), (2, _), (7, _), (8, _), (10, _)]) rfl ?_
         refine k_then_n ?_
         refine loop_next (x := t) (t + 1) ?_ ?_ ?_ ?_
         · exact by show t + 1 ≤ th.toNat; omega
         · show th.toNat - (t + 1) < th.toNat - t; omega
         · exact ⟨rfl, rfl, rfl, rfl, rfl, trivial⟩
         · (try simp only [List.cons_append, List.nil_append]); exact Tf
       ·
        refine s_take (A := own 3 enc3 ao108 cp108 ((es) ++ ([(1, ((t : Nat) : Int), 0)]))) Tk ?_
        refine own_fc fun f_26a f_26b f_26c => ?_
        refine s_heap (fun _ h => Bun.fold ((by (repeat ((with_reducible apply Z2); focus (first | (with_reducible (repeat (first | exact Z0 | apply Z1)); done) | (repeat (first | exact Z0 | apply Z1))))); exact Z3 : Takes _ [A, own 3 enc3 ao108 cp108 ((es) ++ ([(1, ((t : Nat) : Int), 0)]))] _) _ h)) ?_
        have sp_27 := onewbad1_spec th va vo lk pl ao n c (Bun [A, own 3 enc3 ao108 cp108 ((es) ++ ([(1, ((t : Nat) : Int), 0)]))]) (rds_bun (List.mem_cons_self) (hr)) (by first | rfl | assumption | omega | (simp; done) | (simp; omega)) (by omega) (es ++ [((1 : Int), ((t : Nat) : Int), (0 : Int))]) ao108 ((0 + m) + 1) cp108 (rds_bun (List.mem_cons_of_mem _ (List.mem_cons_self)) (rds_own enc3_len (fun h => (f_26b h).1) f_26c)) (by rw [List.length_append]; simp; omega) (by omega) hok (fun h => hg2 h.2)
        refine l_call rfl rfl rfl rfl rfl rfl Try.call9 (sp_27) Ts ?_
        rintro oe hoe
        try simp only [List.cons_append, List.nil_append]
        refine s_take (A := Bun [A, own 3 enc3 ao108 cp108 ((es) ++ ([(1, ((t : Nat) : Int), 0)]))]) Tk ?_
        refine s_bun ?_
        try simp only [List.cons_append, List.nil_append]
        try simp only [List.cons_append, List.nil_append]
        refine ag_nil ?_
        refine q_move rfl rfl rfl rfl ?_
        refine q_extract rfl rfl rfl rfl rfl ?_
        refine q_extract rfl rfl rfl rfl rfl ?_
        refine q_assign rfl rfl rfl rfl ?_
        refine q_assign rfl rfl rfl rfl ?_
        refine r_done ?_
        refine s_keep [1, 2, 7, 8, 10, 11, 14, 15] (e' := [(1, _), (2, _), (7, _), (8, _), (10, _), (11, _), (14, _), (15, _)]) rfl ?_
        refine k_then_n ?_
        refine c_seq ?_
        refine c_seq ?_
        refine c_plain (.q 0 (.q 1 (.done))) (by kernel_rfl) ?_
        refine q_move rfl rfl rfl rfl ?_
        refine q_int rfl rfl rfl rfl rfl (b_neq _ _ _ _) ?_
        refine r_done ?_
        refine k_then_n ?_
        refine c_cond_p rfl (fun hg => ?_) (fun hg => by exfalso; exact hoe (Classical.byContradiction hg))
        refine c_exit ?_
        refine k_then_exit ?_
        refine k_blk_here ?_
        refine k_then_n ?_
        refine c_plain (.q 0 (.q 1 (.q 2 (.done)))) (by kernel_rfl) ?_
        refine q_move rfl rfl rfl rfl ?_
        refine q_int rfl rfl rfl rfl rfl (b_add' _ (by exact fits_i64 (by omega) (by omega))) ?_
        refine q_assign rfl rfl rfl rfl ?_
        refine r_done ?_
        refine s_keep [1, 2, 7, 8, 10] (e' := [(1, _), (2, _), (7, _), (8, _), (10, _)]) rfl ?_
        refine k_then_n ?_
        refine loop_next (x := t) (t + 1) ?_ ?_ ?_ ?_
        · exact by show t + 1 ≤ th.toNat; omega
        · show th.toNat - (t + 1) < th.toNat - t; omega
        · exact ⟨rfl, rfl, rfl, rfl, rfl, trivial⟩
        · (try simp only [List.cons_append, List.nil_append]); exact Tf
      refine l_buildSlice rfl rfl rfl rfl (run_build1 (us := [_, _, _]) Try.underlying25 Try.sizeOf40 rfl Try.zeroValue40 rfl rfl rfl) ?_
      intro b107
      refine ag_loadN_c rfl rfl (us := [_, _, _, _, _]) rfl Try.isAgg24 Try.sizeOf24 Tk 0 (by first | rfl | exact (Nat.add_zero _).symm) rfl rfl ?_
      refine ag_nil ?_
      refine l_buildSlice0 rfl rfl rfl rfl Try.underlying25 Try.sizeOf40 ?_
      intro b102
      refine ag_loadN_c rfl rfl (us := [_, _, _, _, _]) rfl Try.isAgg24 Try.sizeOf24 Tk 0 (by first | rfl | exact (Nat.add_zero _).symm) rfl rfl ?_
      refine ag_nil ?_
      refine s_take (A := cells b102 0 []) Tk ?_
      refine s_heap (fun _ h => own_mk (sz := 3) (enc := enc3) (xs := []) (sp := []) (cap := 0) (Nat.le_refl _) rfl h) ?_
      refine l_append (sz := 3) (enc := enc3) (xs := []) rfl rfl rfl rfl rfl Try.underlying25 Try.typeInfo40 rfl rfl rfl (by decide) Tk Tk (by first | rfl | omega | (simp; done) | (simp; omega)) (ys := es) (he_) (by rfl) (by first | rfl | omega) (enc3_len) (enc3_one) (by omega) (by show _ * 24 ≤ _; omega) ?_
      intro ao104 cp104
      try simp only [List.nil_append]
      refine ag_loadN_c rfl rfl (us := [_, _, _, _, _]) rfl Try.isAgg24 Try.sizeOf24 Tk 0 (by first | rfl | exact (Nat.add_zero _).symm) rfl rfl ?_
      refine ag_nil ?_
      refine l_append (sz := 3) (enc := enc3) (xs := (es)) rfl rfl rfl rfl rfl Try.underlying25 Try.typeInfo40 rfl rfl rfl (by decide) Tk Tk (by first | rfl | omega | (simp; done) | (simp; omega)) (ys := [(1, ((t : Nat) : Int), 0)]) (rds_some rdn_cells) (by rfl) (by first | rfl | omega) (enc3_len) (enc3_one) (by omega) (by show _ * 24 ≤ _; omega) ?_
      intro ao108 cp108
      refine ag_loadN_c rfl rfl (us := [_, _, _, _, _]) rfl Try.isAgg24 Try.sizeOf24 Tk 0 (by first | rfl | exact (Nat.add_zero _).symm) rfl rfl ?_
      refine ag_nil ?_
      by_cases hg2 : allC (newF th va vo lk pl) (es ++ [((1 : Int), ((t : Nat) : Int), (0 : Int))]) (es ++ [((1 : Int), ((t : Nat) : Int), (0 : Int))]).length
      ·
       refine s_take (A := own 3 enc3 ao108 cp108 ((es) ++ ([(1, ((t : Nat) : Int), 0)]))) Tk ?_
       refine own_fc fun f_28a f_28b f_28c => ?_
       refine s_heap (fun _ h => Bun.fold ((by (repeat ((with_reducible apply Z2); focus (first | (with_reducible (repeat (first | exact Z0 | apply Z1)); done) | (repeat (first | exact Z0 | apply Z1))))); exact Z3 : Takes _ [A, own 3 enc3 ao108 cp108 ((es) ++ ([(1, ((t : Nat) : Int), 0)]))] _) _ h)) ?_
       have sp_29 := onew_spec th va vo lk pl ao n c (Bun [A, own 3 enc3 ao108 cp108 ((es) ++ ([(1, ((t : Nat) : Int), 0)]))]) (rds_bun (List.mem_cons_self) (hr)) (by first | rfl | assumption | omega | (simp; done) | (simp; omega)) (by omega) (es ++ [((1 : Int), ((t : Nat) : Int), (0 : Int))]) ao108 ((0 + m) + 1) cp108 (rds_bun (List.mem_cons_of_mem _ (List.mem_cons_self)) (rds_own enc3_len (fun h => (f_28b h).1) f_28c)) (by rw [List.length_append]; simp; omega) (by omega) hok (by rw [List.length_append]; simp; omega) hg2
       refine l_call rfl rfl rfl rfl rfl rfl Try.call9 (sp_29) Ts ?_
       rintro ob -
       try simp only [List.cons_append, List.nil_append]
       refine s_take (A := Bun [A, own 3 enc3 ao108 cp108 ((es) ++ ([(1, ((t : Nat) : Int), 0)]))]) Tk ?_
       refine s_bun ?_
       try simp only [List.cons_append, List.nil_append]
       try simp only [List.cons_append, List.nil_append]
       refine ag_nil ?_
       refine q_move rfl rfl rfl rfl ?_
       refine q_extract rfl rfl rfl rfl rfl ?_
       refine q_extract rfl rfl rfl rfl rfl ?_
       refine q_assign rfl rfl rfl rfl ?_
       refine q_assign rfl rfl rfl rfl ?_
       refine r_done ?_
       refine s_keep [1, 2, 7, 8, 10, 11, 14, 15] (e' := [(1, _), (2, _), (7, _), (8, _), (10, _), (11, _), (14, _), (15, _)]) rfl ?_
       refine k_then_n ?_
       refine c_seq ?_
       refine c_seq ?_
       refine c_plain (.q 0 (.q 1 (.done))) (by kernel_rfl) ?_
       refine q_move rfl rfl rfl rfl ?_
       refine q_int rfl rfl rfl rfl rfl (b_neq _ _ _ _) ?_
       refine s_eq 113 rfl (v' := .bool false) (by first | rfl | simp) ?_
       refine r_done ?_
       refine k_then_n ?_
       refine c_cond_f rfl ?_
       refine c_skip ?_
       refine k_then_n ?_
       refine c_seq ?_
       refine c_plain (.q 0 (.done)) (by kernel_rfl) ?_
       refine q_assign rfl rfl rfl rfl ?_
       refine r_done ?_
       refine k_then_n ?_
       refine c_block ?_
       refine c_loop2 (α := Nat) (fun (i : Nat) => i ≤ m) (fun (i : Nat) => [(16, .int .i64 ((i : Nat) : Int))]) (fun (i : Nat) => []) (fun (i : Nat) => m - i) [1, 2, 7, 8, 10, 11, 14] (er := [(1, _), (2, _), (7, _), (8, _), (10, _), (11, _), (14, _)]) rfl (0) ?_ (by exact ⟨rfl, trivial⟩) (by (try dsimp only); (try simp only [Nat.add_zero, Nat.zero_add]); (repeat ((with_reducible apply Z2); focus (first | (with_reducible (repeat (first | exact Z0 | apply Z1)); done) | (repeat (first | exact Z0 | apply Z1))))); exact Z3) ?_
       · exact Nat.zero_le _
       rintro i hle_i
       try simp only [List.cons_append, List.nil_append]
       refine c_seq ?_
       refine c_seq ?_
       refine c_plain (.q 0 (.q 1 (.q 2 (.q 3 (.done))))) (by kernel_rfl) ?_
       refine q_move rfl rfl rfl rfl ?_
       refine q_move rfl rfl rfl rfl ?_
       refine q_len rfl rfl rfl rfl Try.underlying25 ?_
       refine q_int rfl rfl rfl rfl rfl (b_lss _ _ _ _) ?_
       refine r_done ?_
       refine k_then_n ?_
       refine c_cond_p rfl (fun hilt => ?_) (fun hilt => ?_)
       ·
        obtain ⟨e, he⟩ := get_lt (l := es) (i := i) (by omega)
        have hkh := kn_hb hok (f := ((1 : Int), ((t : Nat) : Int), (0 : Int))) (.inl rfl) (by omega) hg2 he
        rw [← hx0, hem] at hkh
        refine c_skip ?_
        refine k_then_n ?_
        refine c_seq ?_
        refine c_block ?_
        refine c_seq ?_
        refine c_plain (.q 0 (.q 1 (.q 2 (.q 3 (.q 4 (.q 5 (.done))))))) (by kernel_rfl) ?_
        refine q_move rfl rfl rfl rfl ?_
        refine q_move rfl rfl rfl rfl ?_
        refine q_idxR (sz := 2) (k := i) rfl rfl rfl rfl rfl Try.underlying25 Try.sizeOf40 (he_) he enc3_len (by first | rfl | omega) (by omega) ?_
        intro ib122 io122 _ hd122
        refine q_field (k := 1) rfl rfl rfl rfl Try.underlying40 rfl Try.sizeOf3 rfl ?_
        refine q_load rfl rfl rfl rfl Try.isAgg3 Tk (hd122 1 (.int .i64 e.2.1) rfl) ?_
        refine q_assign rfl rfl rfl rfl ?_
        refine r_done ?_
        refine s_keep [1, 2, 7, 8, 10, 11, 14, 16, 17] (e' := [(1, _), (2, _), (7, _), (8, _), (10, _), (11, _), (14, _), (16, _), (17, _)]) rfl ?_
        refine k_then_n ?_
        refine c_seq ?_
        refine c_draw rfl (.q 0 (.q 1 (.q 2 (.q 3 (.q 4 (.q 5 (.q 6 (.q 7 (.q 9 (.q 10 (.q 12 (.q 13 (.q 14 (.q 15 ((.l 8 [15] ((.l 11 [15] (.q 16 (.q 17 (.q 18 (.done)))))))))))))))))))))) (by kernel_rfl) ?_
        refine q_move rfl rfl rfl rfl ?_
        refine q_move rfl rfl rfl rfl ?_
        refine q_int rfl rfl rfl rfl rfl (b_neq _ _ _ _) ?_
        refine q_move rfl rfl rfl rfl ?_
        refine s_bool_p 128 rfl (fun hne2 => ?_) (fun hne2 => ?_)
        ·
         refine q_move rfl rfl rfl rfl ?_
         refine q_move rfl rfl rfl rfl ?_
         refine q_move rfl rfl rfl rfl ?_
         refine q_len rfl rfl rfl rfl Try.underlying25 ?_
         refine q_move rfl rfl rfl rfl ?_
         refine q_move rfl rfl rfl rfl ?_
         refine q_move rfl rfl rfl rfl ?_
         refine q_move rfl rfl rfl rfl ?_
         have hk_30 : (mks (clkF (vNew th va vo lk pl) es) m)[i]? = some ((clkF (vNew th va vo lk pl) es) i) := (mks_get _ (by omega))
         refine q_idxO (sz := 0) (k := i) (enc := encU) (xs := (mks (clkF (vNew th va vo lk pl) es) m)) rfl rfl rfl rfl rfl Try.underlying31 Try.sizeOf35 hk_30 (by first | rfl | omega) (by omega) Tk ?_
         intro ib139 io139 ha139 hl139 hc139
         refine q_load_O (v := (.int .u64 ((clkF (vNew th va vo lk pl) es) i))) (j := 0) (k' := i) (enc := encU) (off := io139) rfl rfl rfl rfl Try.isAgg35 ha139 encU_len hk_30 Tk (by first | rfl | exact (Nat.add_zero _).symm | omega) (by rfl) ?_
         have sp_31 := ohap_spec ob (es ++ [((1 : Int), ((t : Nat) : Int), (0 : Int))]) (rnds (newF th va vo lk pl) (es ++ [((1 : Int), ((t : Nat) : Int), (0 : Int))])) (by rw [List.length_append]; simp; omega) i m (by rw [List.length_append]; simp; omega) (by rw [List.length_append]; simp; omega)
         refine l_call rfl rfl rfl rfl rfl rfl Try.call14 (sp_31) Ts ?_
         rintro ⟨⟩ -
         try simp only [List.cons_append, List.nil_append]
         refine ag_load_O (v := (.int .u64 ((clkF (vNew th va vo lk pl) es) i))) (j := 0) (k' := i) (enc := encU) (off := io139) rfl rfl rfl Try.isAgg35 ha139 encU_len hk_30 Tk (by first | rfl | exact (Nat.add_zero _).symm | omega) (by rfl) ?_
         refine ag_nil ?_
         refine s_take (A := own 1 encU wa wc (thF (dAll x0 es).v ((t : Nat) : Int))) Tk ?_
         refine own_fc fun f_32a f_32b f_32c => ?_
         have sp_33 := entry_spec (thF (dAll x0 es).v ((t : Nat) : Int)) wa ((thF (dAll x0 es).v ((t : Nat) : Int)).length) wc (own 1 encU wa wc (thF (dAll x0 es).v ((t : Nat) : Int))) (by first | rfl | assumption | omega | (simp; done) | (simp; omega)) (rds_own encU_len (fun h => (f_32b h).1) f_32c) e.2.1
         refine l_call rfl rfl rfl rfl rfl rfl Try.call12 (sp_33) Ts ?_
         rintro ⟨⟩ -
         try simp only [List.cons_append, List.nil_append]
         refine ag_load_O (v := (.int .u64 ((clkF (vNew th va vo lk pl) es) i))) (j := 0) (k' := i) (enc := encU) (off := io139) rfl rfl rfl Try.isAgg35 ha139 encU_len hk_30 Tk (by first | rfl | exact (Nat.add_zero _).symm | omega) (by rfl) ?_
         refine ag_nil ?_
         refine q_int rfl rfl rfl rfl rfl (b_geq _ _ _ _) ?_
         refine q_neb rfl rfl rfl rfl rfl Try.underlying4 ?_
         refine q_pick_t rfl rfl rfl rfl rfl ?_
         refine r_done ?_
         refine s_keep [1, 2, 7, 8, 10, 11, 14, 16, 129, 130, 131, 132, 133, 134, 135, 136, 137, 138, 139, 140, 141, 142, 143] (e' := [(1, _), (2, _), (7, _), (8, _), (10, _), (11, _), (14, _), (16, _), (129, _), (130, _), (131, _), (132, _), (133, _), (134, _), (135, _), (136, _), (137, _), (138, _), (139, _), (140, _), (141, _), (142, _), (143, _)]) rfl ?_
         refine k_then_n ?_
         refine c_cond rfl (fun hg => by exfalso; rw [hkh] at hg; simp at hg) (fun hg => ?_)
         try simp only [Bool.and_eq_true, Bool.or_eq_true, Bool.not_eq_true', Bool.not_eq_false', Bool.and_eq_false_iff, Bool.or_eq_false_iff, decide_eq_true_eq, decide_eq_false_iff_not] at hg
         refine c_skip ?_
         refine k_blk_n ?_
         refine k_then_n ?_
         refine c_plain (.q 0 (.q 1 (.q 2 (.done)))) (by kernel_rfl) ?_
         refine q_move rfl rfl rfl rfl ?_
         refine q_int rfl rfl rfl rfl rfl (b_add' _ (by exact fits_i64 (by omega) (by omega))) ?_
         refine q_assign rfl rfl rfl rfl ?_
         refine r_done ?_
         refine k_then_n ?_
         refine loop_next (x := i) (i + 1) ?_ ?_ ?_ ?_
         · exact by show i + 1 ≤ m; omega
         · show m - (i + 1) < m - i; omega
         · exact ⟨rfl, rfl, rfl, rfl, rfl, rfl, rfl, rfl, trivial⟩
         · (try simp only [List.cons_append, List.nil_append]); exact Tf
        ·
         refine q_skip rfl rfl rfl rfl ?_
         refine q_skip rfl rfl rfl rfl ?_
         refine q_skip rfl rfl rfl rfl ?_
         refine q_skip rfl rfl rfl rfl ?_
         refine q_skip rfl rfl rfl rfl ?_
         refine q_skip rfl rfl rfl rfl ?_
         refine q_skip rfl rfl rfl rfl ?_
         refine q_skip rfl rfl rfl rfl ?_
         refine q_skip rfl rfl rfl rfl ?_
         refine q_skip rfl rfl rfl rfl ?_
         refine l_skip rfl rfl rfl rfl ?_
         refine l_skip rfl rfl rfl rfl ?_
         refine q_skip rfl rfl rfl rfl ?_
         refine q_skip rfl rfl rfl rfl ?_
         refine q_pick_f rfl rfl rfl rfl rfl ?_
         refine r_done ?_
         refine s_keep [1, 2, 7, 8, 10, 11, 14, 16, 129, 130, 131, 132, 133, 134, 135, 136, 137, 138, 139, 140, 141, 142, 143] (e' := [(1, _), (2, _), (7, _), (8, _), (10, _), (11, _), (14, _), (16, _), (129, _), (130, _), (131, _), (132, _), (133, _), (134, _), (135, _), (136, _), (137, _), (138, _), (139, _), (140, _), (141, _), (142, _), (143, _)]) rfl ?_
         refine k_then_n ?_
         refine c_cond_f rfl ?_
         refine c_skip ?_
         refine k_blk_n ?_
         refine k_then_n ?_
         refine c_plain (.q 0 (.q 1 (.q 2 (.done)))) (by kernel_rfl) ?_
         refine q_move rfl rfl rfl rfl ?_
         refine q_int rfl rfl rfl rfl rfl (b_add' _ (by exact fits_i64 (by omega) (by omega))) ?_
         refine q_assign rfl rfl rfl rfl ?_
         refine r_done ?_
         refine k_then_n ?_
         refine loop_next (x := i) (i + 1) ?_ ?_ ?_ ?_
         · exact by show i + 1 ≤ m; omega
         · show m - (i + 1) < m - i; omega
         · exact ⟨rfl, rfl, rfl, rfl, rfl, rfl, rfl, rfl, trivial⟩
         · (try simp only [List.cons_append, List.nil_append]); exact Tf
       ·
        refine c_exit ?_
        refine k_then_exit ?_
        refine k_then_exit ?_
        refine k_blk_here ?_
        refine k_blk_n ?_
        refine k_then_n ?_
        refine c_plain (.q 0 (.q 1 (.q 2 (.done)))) (by kernel_rfl) ?_
        refine q_move rfl rfl rfl rfl ?_
        refine q_int rfl rfl rfl rfl rfl (b_add' _ (by exact fits_i64 (by omega) (by omega))) ?_
        refine q_assign rfl rfl rfl rfl ?_
        refine r_done ?_
        refine s_keep [1, 2, 7, 8, 10] (e' := [(1, _), (2, _), (7, _), (8, _), (10, _)]) rfl ?_
        refine k_then_n ?_
        refine loop_next (x := t) (t + 1) ?_ ?_ ?_ ?_
        · exact by show t + 1 ≤ th.toNat; omega
        · show th.toNat - (t + 1) < th.toNat - t; omega
        · exact ⟨rfl, rfl, rfl, rfl, rfl, trivial⟩
        · (try simp only [List.cons_append, List.nil_append]); exact Tf
      ·
       refine s_take (A := own 3 enc3 ao108 cp108 ((es) ++ ([(1, ((t : Nat) : Int), 0)]))) Tk ?_
       refine own_fc fun f_34a f_34b f_34c => ?_
       refine s_heap (fun _ h => Bun.fold ((by (repeat ((with_reducible apply Z2); focus (first | (with_reducible (repeat (first | exact Z0 | apply Z1)); done) | (repeat (first | exact Z0 | apply Z1))))); exact Z3 : Takes _ [A, own 3 enc3 ao108 cp108 ((es) ++ ([(1, ((t : Nat) : Int), 0)]))] _) _ h)) ?_
       have sp_35 := onewbad1_spec th va vo lk pl ao n c (Bun [A, own 3 enc3 ao108 cp108 ((es) ++ ([(1, ((t : Nat) : Int), 0)]))]) (rds_bun (List.mem_cons_self) (hr)) (by first | rfl | assumption | omega | (simp; done) | (simp; omega)) (by omega) (es ++ [((1 : Int), ((t : Nat) : Int), (0 : Int))]) ao108 ((0 + m) + 1) cp108 (rds_bun (List.mem_cons_of_mem _ (List.mem_cons_self)) (rds_own enc3_len (fun h => (f_34b h).1) f_34c)) (by rw [List.length_append]; simp; omega) (by omega) hok (fun h => hg2 h.2)
       refine l_call rfl rfl rfl rfl rfl rfl Try.call9 (sp_35) Ts ?_
       rintro oe hoe
       try simp only [List.cons_append, List.nil_append]
       refine s_take (A := Bun [A, own 3 enc3 ao108 cp108 ((es) ++ ([(1, ((t : Nat) : Int), 0)]))]) Tk ?_
       refine s_bun ?_
       try simp only [List.cons_append, List.nil_append]
       try simp only [List.cons_append, List.nil_append]
       refine ag_nil ?_
       refine q_move rfl rfl rfl rfl ?_
       refine q_extract rfl rfl rfl rfl rfl ?_
       refine q_extract rfl rfl rfl rfl rfl ?_
       refine q_assign rfl rfl rfl rfl ?_
       refine q_assign rfl rfl rfl rfl ?_
       refine r_done ?_
       refine s_keep [1, 2, 7, 8, 10, 11, 14, 15] (e' := [(1, _), (2, _), (7, _), (8, _), (10, _), (11, _), (14, _), (15, _)]) rfl ?_
       refine k_then_n ?_
       refine c_seq ?_
       refine c_seq ?_
       refine c_plain (.q 0 (.q 1 (.done))) (by kernel_rfl) ?_
       refine q_move rfl rfl rfl rfl ?_
       refine q_int rfl rfl rfl rfl rfl (b_neq _ _ _ _) ?_
       refine r_done ?_
       refine k_then_n ?_
       refine c_cond_p rfl (fun hg => ?_) (fun hg => by exfalso; exact hoe (Classical.byContradiction hg))
       refine c_exit ?_
       refine k_then_exit ?_
       refine k_blk_here ?_
       refine k_then_n ?_
       refine c_plain (.q 0 (.q 1 (.q 2 (.done)))) (by kernel_rfl) ?_
       refine q_move rfl rfl rfl rfl ?_
       refine q_int rfl rfl rfl rfl rfl (b_add' _ (by exact fits_i64 (by omega) (by omega))) ?_
       refine q_assign rfl rfl rfl rfl ?_
       refine r_done ?_
       refine s_keep [1, 2, 7, 8, 10] (e' := [(1, _), (2, _), (7, _), (8, _), (10, _)]) rfl ?_
       refine k_then_n ?_
       refine loop_next (x := t) (t + 1) ?_ ?_ ?_ ?_
       · exact by show t + 1 ≤ th.toNat; omega
       · show th.toNat - (t + 1) < th.toNat - t; omega
       · exact ⟨rfl, rfl, rfl, rfl, rfl, trivial⟩
       · (try simp only [List.cons_append, List.nil_append]); exact Tf
    ·
     refine c_exit ?_
     refine k_then_exit ?_
     refine k_then_exit ?_
     refine k_blk_here ?_
     refine k_then_n ?_
     refine c_seq ?_
     refine c_plain (.q 0 (.done)) (by kernel_rfl) ?_
     refine q_assign rfl rfl rfl rfl ?_
     refine r_done ?_
     refine s_keep [4] (e' := [(4, _)]) rfl ?_
     refine k_then_n ?_
     refine c_ret ?_
     refine ret1 rfl rfl (()) (by first | rfl | (first | rfl | (congr 1; done) | (congr 1 <;> first | rfl | omega | (simp; done) | (simp; omega)))) (by trivial) ?_
     exact Tf
theorem knows_bad1 (th va vo lk : Int) (pl : List Int) (ao : Option Addr) (n c : Nat) (A : HProp) (hr : RdS A ao (pl.flatMap encZ)) (hn : pl.length = n) (hb : n ≤ 4000000) (hok : OkS th va vo lk pl) (es : List T3) (eo : Option Addr) (m ec : Nat) (he_ : RdS A eo (es.flatMap enc3)) (hem : es.length = m) (hmb : m ≤ 4000000) (hbad : ¬ (es.length ≤ 2048 ∧ allC (newF th va vo lk pl) es es.length)) : Spec Try.prog 3 [.agg #[.int .i64 th, .int .i64 va, .int .i64 vo, .int .i64 lk, .slice ao n c], .slice eo m ec] [A] (fun (_ : Unit) => .bool true) (fun _ => True) (fun _ => [A]) := by
 refine spec_mk (n := 144) Try.func3 rfl rfl rfl ?_
 intro Γ w0
 simp only [argE, List.cons_append, List.nil_append, Nat.zero_add, Nat.reduceAdd]
 refine c_seq ?_
 refine c_plain ((.l 0 [] (.q 1 (.done)))) (by kernel_rfl) ?_
 refine l_box rfl rfl rfl rfl (us := [_, _, _, _, _]) rfl ?_
 intro b2
 refine ag_nil ?_
 refine q_assign rfl rfl rfl rfl ?_
 refine r_done ?_
 refine k_then_n ?_
 refine c_seq ?_
 refine c_seq ?_
 refine c_plain ((.l 0 [] (.q 1 (.q 2 (.q 3 (.q 4 (.q 5 (.q 6 (.q 7 (.q 8 (.q 9 (.q 10 (.q 11 (.q 12 (.q 13 (.q 14 (.q 15 (.q 16 (.done))))))))))))))))))) (by kernel_rfl) ?_
 refine l_call rfl rfl rfl rfl rfl rfl Try.call8 (works_spec) Ts ?_
 rintro ⟨⟩ -
 try simp only [List.cons_append, List.nil_append]
 refine ag_nil ?_
 refine q_not rfl rfl rfl rfl ?_
 refine s_eq 19 rfl (v' := .bool false) rfl ?_
 refine q_move rfl rfl rfl rfl ?_
 refine q_move rfl rfl rfl rfl ?_
 refine q_len rfl rfl rfl rfl Try.underlying25 ?_
 refine q_int rfl rfl rfl rfl rfl (b_gtr _ _ _ _) ?_
 refine q_pick_f rfl rfl rfl rfl rfl ?_
 refine q_move rfl rfl rfl rfl ?_
 refine s_bool_p 25 rfl (fun hb1 => ?_) (fun hb1 => ?_)
 ·
  refine q_skip rfl rfl rfl rfl ?_
  refine q_skip rfl rfl rfl rfl ?_
  refine q_skip rfl rfl rfl rfl ?_
  refine q_pick_t rfl rfl rfl rfl rfl ?_
  refine q_move rfl rfl rfl rfl ?_
  refine q_skip rfl rfl rfl rfl ?_
  refine q_skip rfl rfl rfl rfl ?_
  refine q_skip rfl rfl rfl rfl ?_
  refine q_pick_t rfl rfl rfl rfl rfl ?_
  refine r_done ?_
  refine s_keep [1, 2, 34] (e' := [(1, _), (2, _), (34, _)]) rfl ?_
  refine k_then_n ?_
  refine c_cond_t rfl ?_
  refine c_seq ?_
  refine c_plain ((.l 0 [] (.q 1 (.done)))) (by kernel_rfl) ?_
  refine l_call rfl rfl rfl rfl rfl rfl Try.call8 (works_spec) Ts ?_
  rintro ⟨⟩ -
  try simp only [List.cons_append, List.nil_append]
  refine ag_nil ?_
  refine q_assign rfl rfl rfl rfl ?_
  refine r_done ?_
  refine s_keep [4] (e' := [(4, _)]) rfl ?_
  refine k_then_n ?_
  refine c_ret ?_
  refine k_then_ret ?_
  refine ret1 rfl rfl (()) (by first | rfl | (first | rfl | (congr 1; done) | (congr 1 <;> first | rfl | omega | (simp; done) | (simp; omega)))) (by trivial) ?_
  exact Tf
 ·
  refine q_field (k := 0) rfl rfl rfl rfl Try.underlying24 rfl Try.sizeOf3 rfl ?_
  refine q_load_c (j := 0) rfl rfl rfl rfl Try.isAgg3 Tk (by first | rfl | exact (Nat.add_zero _).symm) (by rfl) ?_
  refine q_int rfl rfl rfl rfl rfl (b_gtr _ _ _ _) ?_
  refine q_pick_f rfl rfl rfl rfl rfl ?_
  refine q_move rfl rfl rfl rfl ?_
  refine s_bool_p 30 rfl (fun hb2 => ?_) (fun hb2 => ?_)
  ·
   refine q_skip rfl rfl rfl rfl ?_
   refine q_skip rfl rfl rfl rfl ?_
   refine q_skip rfl rfl rfl rfl ?_
   refine q_pick_t rfl rfl rfl rfl rfl ?_
   refine r_done ?_
   refine s_keep [1, 2, 34] (e' := [(1, _), (2, _), (34, _)]) rfl ?_
   refine k_then_n ?_
   refine c_cond_t rfl ?_
   refine c_seq ?_
   refine c_plain ((.l 0 [] (.q 1 (.done)))) (by kernel_rfl) ?_
   refine l_call rfl rfl rfl rfl rfl rfl Try.call8 (works_spec) Ts ?_
   rintro ⟨⟩ -
   try simp only [List.cons_append, List.nil_append]
   refine ag_nil ?_
   refine q_assign rfl rfl rfl rfl ?_
   refine r_done ?_
   refine s_keep [4] (e' := [(4, _)]) rfl ?_
   refine k_then_n ?_
   refine c_ret ?_
   refine k_then_ret ?_
   refine ret1 rfl rfl (()) (by first | rfl | (first | rfl | (congr 1; done) | (congr 1 <;> first | rfl | omega | (simp; done) | (simp; omega)))) (by trivial) ?_
   exact Tf
  ·
   refine q_field (k := 1) rfl rfl rfl rfl Try.underlying24 rfl Try.sizeOf3 rfl ?_
   refine q_load_c (j := 1) rfl rfl rfl rfl Try.isAgg3 Tk (by first | rfl | exact (Nat.add_zero _).symm) (by rfl) ?_
   refine q_int rfl rfl rfl rfl rfl (b_lss _ _ _ _) ?_
   refine q_pick_f rfl rfl rfl rfl rfl ?_
   refine r_done ?_
   refine s_keep [1, 2, 34] (e' := [(1, _), (2, _), (34, _)]) rfl ?_
   refine k_then_n ?_
   refine c_cond_p rfl (fun hb3 => ?_) (fun hb3 => ?_)
   ·
    refine c_seq ?_
    refine c_plain ((.l 0 [] (.q 1 (.done)))) (by kernel_rfl) ?_
    refine l_call rfl rfl rfl rfl rfl rfl Try.call8 (works_spec) Ts ?_
    rintro ⟨⟩ -
    try simp only [List.cons_append, List.nil_append]
    refine ag_nil ?_
    refine q_assign rfl rfl rfl rfl ?_
    refine r_done ?_
    refine s_keep [4] (e' := [(4, _)]) rfl ?_
    refine k_then_n ?_
    refine c_ret ?_
    refine k_then_ret ?_
    refine ret1 rfl rfl (()) (by first | rfl | (first | rfl | (congr 1; done) | (congr 1 <;> first | rfl | omega | (simp; done) | (simp; omega)))) (by trivial) ?_
    exact Tf
   ·
    refine c_skip ?_
    refine k_then_n ?_
    refine c_seq ?_
    refine c_plain (.q 0 (.q 1 ((.l 2 [] (.q 3 (.q 4 (.q 5 (.q 6 (.q 7 (.done)))))))))) (by kernel_rfl) ?_
    refine q_loadN_c rfl rfl rfl rfl Try.isAgg24 Try.sizeOf24 Tk 0 (us := [_, _, _, _, _]) (by first | rfl | exact (Nat.add_zero _).symm) rfl rfl ?_
    refine q_move rfl rfl rfl rfl ?_
    have sp_1 := onewbad1_spec th va vo lk pl ao n c A hr hn hb es eo m ec he_ hem hmb hok hbad
    refine l_call rfl rfl rfl rfl rfl rfl Try.call9 (sp_1) Ts ?_
    rintro oe hoe
    try simp only [List.cons_append, List.nil_append]
    refine ag_nil ?_
    refine q_move rfl rfl rfl rfl ?_
    refine q_extract rfl rfl rfl rfl rfl ?_
    refine q_extract rfl rfl rfl rfl rfl ?_
    refine q_assign rfl rfl rfl rfl ?_
    refine q_assign rfl rfl rfl rfl ?_
    refine r_done ?_
    refine s_keep [1, 2, 6] (e' := [(1, _), (2, _), (6, _)]) rfl ?_
    refine k_then_n ?_
    refine c_seq ?_
    refine c_seq ?_
    refine c_plain (.q 0 (.q 1 (.done))) (by kernel_rfl) ?_
    refine q_move rfl rfl rfl rfl ?_
    refine q_int rfl rfl rfl rfl rfl (b_neq _ _ _ _) ?_
    refine r_done ?_
    refine k_then_n ?_
    refine c_cond_p rfl (fun hg => ?_) (fun hg => by exfalso; exact hoe (Classical.byContradiction hg))
    refine c_seq ?_
    refine c_plain (.q 0 (.done)) (by kernel_rfl) ?_
    refine q_assign rfl rfl rfl rfl ?_
    refine r_done ?_
    refine s_keep [4] (e' := [(4, _)]) rfl ?_
    refine k_then_n ?_
    refine c_ret ?_
    refine k_then_ret ?_
    refine ret1 rfl rfl (()) (by first | rfl | (first | rfl | (congr 1; done) | (congr 1 <;> first | rfl | omega | (simp; done) | (simp; omega)))) (by trivial) ?_
    exact Tf
theorem knows_bad2 (th va vo lk : Int) (pl : List Int) (ao : Option Addr) (n c : Nat) (A : HProp) (hr : RdS A ao (pl.flatMap encZ)) (hn : pl.length = n) (hb : n ≤ 4000000) (hok : ¬ OkS th va vo lk pl) (es : List T3) (eo : Option Addr) (m ec : Nat) (he_ : RdS A eo (es.flatMap enc3)) (hem : es.length = m) (hmb : m ≤ 4000000) : Spec Try.prog 3 [.agg #[.int .i64 th, .int .i64 va, .int .i64 vo, .int .i64 lk, .slice ao n c], .slice eo m ec] [A] (fun (_ : Unit) => .bool true) (fun _ => True) (fun _ => [A]) := by
 refine spec_mk (n := 144) Try.func3 rfl rfl rfl ?_
 intro Γ w0
 simp only [argE, List.cons_append, List.nil_append, Nat.zero_add, Nat.reduceAdd]
 refine c_seq ?_
 refine c_plain ((.l 0 [] (.q 1 (.done)))) (by kernel_rfl) ?_
 refine l_box rfl rfl rfl rfl (us := [_, _, _, _, _]) rfl ?_
 intro b2
 refine ag_nil ?_
 refine q_assign rfl rfl rfl rfl ?_
 refine r_done ?_
 refine k_then_n ?_
 refine c_seq ?_
 refine c_seq ?_
 refine c_plain ((.l 0 [] (.q 1 (.q 2 (.q 3 (.q 4 (.q 5 (.q 6 (.q 7 (.q 8 (.q 9 (.q 10 (.q 11 (.q 12 (.q 13 (.q 14 (.q 15 (.q 16 (.done))))))))))))))))))) (by kernel_rfl) ?_
 refine l_call rfl rfl rfl rfl rfl rfl Try.call8 (works_spec) Ts ?_
 rintro ⟨⟩ -
 try simp only [List.cons_append, List.nil_append]
 refine ag_nil ?_
 refine q_not rfl rfl rfl rfl ?_
 refine s_eq 19 rfl (v' := .bool false) rfl ?_
 refine q_move rfl rfl rfl rfl ?_
 refine q_move rfl rfl rfl rfl ?_
 refine q_len rfl rfl rfl rfl Try.underlying25 ?_
 refine q_int rfl rfl rfl rfl rfl (b_gtr _ _ _ _) ?_
 refine q_pick_f rfl rfl rfl rfl rfl ?_
 refine q_move rfl rfl rfl rfl ?_
 refine s_bool_p 25 rfl (fun hb1 => ?_) (fun hb1 => ?_)
 ·
  refine q_skip rfl rfl rfl rfl ?_
  refine q_skip rfl rfl rfl rfl ?_
  refine q_skip rfl rfl rfl rfl ?_
  refine q_pick_t rfl rfl rfl rfl rfl ?_
  refine q_move rfl rfl rfl rfl ?_
  refine q_skip rfl rfl rfl rfl ?_
  refine q_skip rfl rfl rfl rfl ?_
  refine q_skip rfl rfl rfl rfl ?_
  refine q_pick_t rfl rfl rfl rfl rfl ?_
  refine r_done ?_
  refine s_keep [1, 2, 34] (e' := [(1, _), (2, _), (34, _)]) rfl ?_
  refine k_then_n ?_
  refine c_cond_t rfl ?_
  refine c_seq ?_
  refine c_plain ((.l 0 [] (.q 1 (.done)))) (by kernel_rfl) ?_
  refine l_call rfl rfl rfl rfl rfl rfl Try.call8 (works_spec) Ts ?_
  rintro ⟨⟩ -
  try simp only [List.cons_append, List.nil_append]
  refine ag_nil ?_
  refine q_assign rfl rfl rfl rfl ?_
  refine r_done ?_
  refine s_keep [4] (e' := [(4, _)]) rfl ?_
  refine k_then_n ?_
  refine c_ret ?_
  refine k_then_ret ?_
  refine ret1 rfl rfl (()) (by first | rfl | (first | rfl | (congr 1; done) | (congr 1 <;> first | rfl | omega | (simp; done) | (simp; omega)))) (by trivial) ?_
  exact Tf
 ·
  refine q_field (k := 0) rfl rfl rfl rfl Try.underlying24 rfl Try.sizeOf3 rfl ?_
  refine q_load_c (j := 0) rfl rfl rfl rfl Try.isAgg3 Tk (by first | rfl | exact (Nat.add_zero _).symm) (by rfl) ?_
  refine q_int rfl rfl rfl rfl rfl (b_gtr _ _ _ _) ?_
  refine q_pick_f rfl rfl rfl rfl rfl ?_
  refine q_move rfl rfl rfl rfl ?_
  refine s_bool_p 30 rfl (fun hb2 => ?_) (fun hb2 => ?_)
  ·
   refine q_skip rfl rfl rfl rfl ?_
   refine q_skip rfl rfl rfl rfl ?_
   refine q_skip rfl rfl rfl rfl ?_
   refine q_pick_t rfl rfl rfl rfl rfl ?_
   refine r_done ?_
   refine s_keep [1, 2, 34] (e' := [(1, _), (2, _), (34, _)]) rfl ?_
   refine k_then_n ?_
   refine c_cond_t rfl ?_
   refine c_seq ?_
   refine c_plain ((.l 0 [] (.q 1 (.done)))) (by kernel_rfl) ?_
   refine l_call rfl rfl rfl rfl rfl rfl Try.call8 (works_spec) Ts ?_
   rintro ⟨⟩ -
   try simp only [List.cons_append, List.nil_append]
   refine ag_nil ?_
   refine q_assign rfl rfl rfl rfl ?_
   refine r_done ?_
   refine s_keep [4] (e' := [(4, _)]) rfl ?_
   refine k_then_n ?_
   refine c_ret ?_
   refine k_then_ret ?_
   refine ret1 rfl rfl (()) (by first | rfl | (first | rfl | (congr 1; done) | (congr 1 <;> first | rfl | omega | (simp; done) | (simp; omega)))) (by trivial) ?_
   exact Tf
  ·
   refine q_field (k := 1) rfl rfl rfl rfl Try.underlying24 rfl Try.sizeOf3 rfl ?_
   refine q_load_c (j := 1) rfl rfl rfl rfl Try.isAgg3 Tk (by first | rfl | exact (Nat.add_zero _).symm) (by rfl) ?_
   refine q_int rfl rfl rfl rfl rfl (b_lss _ _ _ _) ?_
   refine q_pick_f rfl rfl rfl rfl rfl ?_
   refine r_done ?_
   refine s_keep [1, 2, 34] (e' := [(1, _), (2, _), (34, _)]) rfl ?_
   refine k_then_n ?_
   refine c_cond_p rfl (fun hb3 => ?_) (fun hb3 => ?_)
   ·
    refine c_seq ?_
    refine c_plain ((.l 0 [] (.q 1 (.done)))) (by kernel_rfl) ?_
    refine l_call rfl rfl rfl rfl rfl rfl Try.call8 (works_spec) Ts ?_
    rintro ⟨⟩ -
    try simp only [List.cons_append, List.nil_append]
    refine ag_nil ?_
    refine q_assign rfl rfl rfl rfl ?_
    refine r_done ?_
    refine s_keep [4] (e' := [(4, _)]) rfl ?_
    refine k_then_n ?_
    refine c_ret ?_
    refine k_then_ret ?_
    refine ret1 rfl rfl (()) (by first | rfl | (first | rfl | (congr 1; done) | (congr 1 <;> first | rfl | omega | (simp; done) | (simp; omega)))) (by trivial) ?_
    exact Tf
   ·
    refine c_skip ?_
    refine k_then_n ?_
    refine c_seq ?_
    refine c_plain (.q 0 (.q 1 ((.l 2 [] (.q 3 (.q 4 (.q 5 (.q 6 (.q 7 (.done)))))))))) (by kernel_rfl) ?_
    refine q_loadN_c rfl rfl rfl rfl Try.isAgg24 Try.sizeOf24 Tk 0 (us := [_, _, _, _, _]) (by first | rfl | exact (Nat.add_zero _).symm) rfl rfl ?_
    refine q_move rfl rfl rfl rfl ?_
    have sp_1 := onewbad2_spec th va vo lk pl ao n c A hr hn hb es eo m ec he_ hem hmb hok
    refine l_call rfl rfl rfl rfl rfl rfl Try.call9 (sp_1) Ts ?_
    rintro oe hoe
    try simp only [List.cons_append, List.nil_append]
    refine ag_nil ?_
    refine q_move rfl rfl rfl rfl ?_
    refine q_extract rfl rfl rfl rfl rfl ?_
    refine q_extract rfl rfl rfl rfl rfl ?_
    refine q_assign rfl rfl rfl rfl ?_
    refine q_assign rfl rfl rfl rfl ?_
    refine r_done ?_
    refine s_keep [1, 2, 6] (e' := [(1, _), (2, _), (6, _)]) rfl ?_
    refine k_then_n ?_
    refine c_seq ?_
    refine c_seq ?_
    refine c_plain (.q 0 (.q 1 (.done))) (by kernel_rfl) ?_
    refine q_move rfl rfl rfl rfl ?_
    refine q_int rfl rfl rfl rfl rfl (b_neq _ _ _ _) ?_
    refine r_done ?_
    refine k_then_n ?_
    refine c_cond_p rfl (fun hg => ?_) (fun hg => by exfalso; exact hoe (Classical.byContradiction hg))
    refine c_seq ?_
    refine c_plain (.q 0 (.done)) (by kernel_rfl) ?_
    refine q_assign rfl rfl rfl rfl ?_
    refine r_done ?_
    refine s_keep [4] (e' := [(4, _)]) rfl ?_
    refine k_then_n ?_
    refine c_ret ?_
    refine k_then_ret ?_
    refine ret1 rfl rfl (()) (by first | rfl | (first | rfl | (congr 1; done) | (congr 1 <;> first | rfl | omega | (simp; done) | (simp; omega)))) (by trivial) ?_
    exact Tf
theorem knows_spec (th va vo lk : Int) (pl : List Int) (ao : Option Addr) (n c : Nat) (A : HProp) (hr : RdS A ao (pl.flatMap encZ)) (hn : pl.length = n) (hb : n ≤ 4000000) (es : List T3) (eo : Option Addr) (m ec : Nat) (he_ : RdS A eo (es.flatMap enc3)) (hem : es.length = m) (hmb : m ≤ 4000000) : Spec Try.prog 3 [.agg #[.int .i64 th, .int .i64 va, .int .i64 vo, .int .i64 lk, .slice ao n c], .slice eo m ec] [A] (fun (_ : Unit) => .bool true) (fun _ => True) (fun _ => [A]) := by
  by_cases hok : OkS th va vo lk pl
  · by_cases hall : es.length ≤ 2048 ∧ allC (newF th va vo lk pl) es es.length
    · exact knows_ok th va vo lk pl ao n c A hr hn hb hok es eo m ec he_ hem hmb hall.2
    · exact knows_bad1 th va vo lk pl ao n c A hr hn hb hok es eo m ec he_ hem hmb hall
  · exact knows_bad2 th va vo lk pl ao n c A hr hn hb hok es eo m ec he_ hem hmb
end Go.Ab.DjO
set_option linter.unusedVariables false
set_option linter.unusedSimpArgs false
namespace Go.Proofs.Ytkoclbjiaofkhaa.frame
open Go Go.Ab Go.ChangeShapes Go.WideShapes Go.ChangeAt Go.RowKit
/-! The bound. -/
theorem one_le {H : Type} (d : DataW H) : 1 ≤ Rows.uptoBulk d := by
  cases d with
  | lit l => cases l <;> simp [Rows.uptoBulk]
  | nil => simp [Rows.uptoBulk]
  | ptr d => simp [Rows.uptoBulk]
  | slice elems spare => simp [Rows.uptoBulk]
  | agg parts => simp [Rows.uptoBulk]
  | iface t d => simp [Rows.uptoBulk]
  | map entries => simp [Rows.uptoBulk]
  | held h => simp [Rows.uptoBulk]
theorem part_le {H : Type} {d : DataW H} {l : List (DataW H)} (h : d ∈ l) : Rows.uptoBulk d ≤ Rows.uptoBulkAll l := by
  induction l with
  | nil => cases h
  | cons x r ih =>
    simp only [Rows.uptoBulkAll]
    cases List.mem_cons.1 h with
    | inl e => subst e; omega
    | inr e => have := ih e; omega
theorem length_le {H : Type} (l : List (DataW H)) : l.length ≤ Rows.uptoBulkAll l := by
  induction l with
  | nil => simp [Rows.uptoBulkAll]
  | cons x r ih => have := one_le x; simp only [Rows.uptoBulkAll, List.length_cons]; omega
theorem bound {H : Type} {l : List (DataW H)} (hk : Rows.uptoSmall H l = true) : Rows.uptoBulkAll l ≤ 1048576 := of_decide_eq_true hk
theorem bound_mem {H : Type} {l : List (DataW H)} {d : DataW H} (hk : Rows.uptoSmall H l = true) (h : d ∈ l) : Rows.uptoBulk d ≤ 1048576 := Nat.le_trans (part_le h) (bound hk)
theorem bulk_slice {H : Type} {es rs : List (DataW H)} {d : DataW H} (h : d ∈ es) : Rows.uptoBulk d ≤ Rows.uptoBulk (.slice es rs) := by
  have := part_le h
  simp only [Rows.uptoBulk]; omega
theorem bulk_len {H : Type} (es rs : List (DataW H)) : es.length ≤ Rows.uptoBulk (.slice es rs) := by
  have := length_le es
  simp only [Rows.uptoBulk]; omega
/-! The arguments read behind the call as before. -/
theorem trodAll_below {H : Type} {enc : TypeId × Value → H} {P : Program} (hl : laidOutB P = true) {W W' : World} (hb : Below W.heap.size W W') : ∀ {ts : List TypeId} {vs : List Value} {ds : List (DataW H)} {ps : List MemPlace}, (∀ t ∈ ts, P.readableRec t = true ∧ t < P.types.size) →
    DataW.TrodAll enc P W 0 (fun _ => true) true ts vs ds ps → (∀ x ∈ ps, x.block < W.heap.size) → DataW.TrodAll enc P W' 0 (fun b => decide (b < W.heap.size)) true ts vs ds ps
  | [], [], [], _, _, h, _ => h
  | t :: ts, v :: vs, d :: ds, ps, hr, ⟨p, q, h, hs, e⟩, hlt => by
    subst e
    exact ⟨p, q, Below.trod hl (hr t (by simp)).1 (hr t (by simp)).2 h hb (fun x hx => hlt x (List.mem_append_left _ hx)), trodAll_below hl hb (fun t ht => hr t (List.mem_cons_of_mem _ ht)) hs (fun x hx => hlt x (List.mem_append_right _ hx)), rfl⟩
theorem law_post {H : Type} {enc : TypeId × Value → H} {P : Program} {f : Func} {s : ChangeSpec} {W W' : World} {args : Array Value} {ds gs : List (DataW H)} {before : List MemPlace} {tb : TypeId}
    (hl : laidOutB P = true) (hr : ∀ t ∈ f.params.toList, P.readableRec t = true ∧ t < P.types.size) (hvars : s.vars = []) (hres : f.resultTypes = #[tb]) (hb : P.underlying tb = some .bool)
    (hf : s.fn H (ds ++ gs) = { results := [.lit (.bool true)], args := ds, vars := [] }) (hW : DataW.Whole enc P f.params.toList s.vars false W args.toList ds gs before) (bel : Below W.heap.size W W') : s.post enc P f false true false false W args (.bool true) W' := by
  have hW' := hW
  obtain ⟨p, q, hA, hV, rfl, hfz, hnd⟩ := hW
  rw [hvars] at hV
  obtain ⟨rfl, rfl⟩ := trodVars_none hV
  have hA' : DataW.TrodAll enc P W 0 (fun _ => true) true f.params.toList args.toList ds p := hA
  refine ⟨ds, [], p ++ [], [], p, [], hW', ?_, ?_, ?_, bel.frame _, fun h => by cases h⟩
  · rw [hf, hres]
    exact trodAll_mk1 (shut_bool hb true)
  · rw [hf]
    exact trodAll_below hl bel hr hA' (fun x hx => hW'.lt x (List.mem_append_left _ hx))
  · rw [hf, hvars]
    exact rfl
theorem spec_calls {P : Program} {f : FuncId} {args : List Value} {W : World} (h : Ab.Spec P f args [base W] (fun (_ : Unit) => .bool true) (fun _ => True) (fun _ => [base W])) : Calls P f args.toArray W fun e W' => e = .returned (.bool true) ∧ Below W.heap.size W W' :=
  (h [] W (base_self W)).mono fun e w' ⟨_, e1, _, s, a⟩ => ⟨e1, below_of_base s a⟩
/-! Arguments are opened. -/
theorem spot_of_cell {W : World} {a : Addr} {v : Value} (h : W.cell? a = some v) : a.spot = none := by
  unfold World.cell? at h
  split at h
  · split at h
    · cases h
    · rename_i hs; simpa using hs
  · cases h
theorem choose_list {α : Type} : ∀ (n : Nat) (Q : Nat → α → Prop), (∀ i, i < n → ∃ x, Q i x) → ∃ xs : List α, xs.length = n ∧ ∀ i x, xs[i]? = some x → Q i x
  | 0, Q, _ => ⟨[], rfl, fun i x h => by simp at h⟩
  | n + 1, Q, h => by
    obtain ⟨xs, h1, h2⟩ := choose_list n Q (fun i hi => h i (by omega))
    obtain ⟨x, hx⟩ := h n (by omega)
    refine ⟨xs ++ [x], by simp [h1], fun i y hy => ?_⟩
    rcases Nat.lt_trichotomy i n with hi | hi | hi
    · rw [List.getElem?_append_left (by omega)] at hy; exact h2 i y hy
    · subst hi; rw [List.getElem?_append_right (by omega), h1, Nat.sub_self] at hy; simp at hy; subst hy; exact hx
    · rw [List.getElem?_eq_none (by simp; omega)] at hy; cases hy
theorem rdn_flat_mk {α : Type} {A : HProp} {b sz : Nat} {enc : α → List Value} (hsz : ∀ x, (enc x).length = sz) : ∀ (xs : List α) (o : Nat), (∀ i x, xs[i]? = some x → RdN A b (o + i * sz) (enc x)) → RdN A b o (xs.flatMap enc)
  | [], o, _ => fun i v h => by simp at h
  | x :: xs, o, h => fun i v hv => by
    rw [List.flatMap_cons] at hv
    by_cases hi : i < (enc x).length
    · rw [List.getElem?_append_left hi] at hv
      have := h 0 x rfl i v hv
      rwa [Nat.zero_mul, Nat.add_zero] at this
    · rw [List.getElem?_append_right (by omega), hsz] at hv
      rw [hsz] at hi
      have ih := rdn_flat_mk hsz xs (o + sz) (fun i y hy => by
        have := h (i + 1) y (by simpa using hy)
        rw [Nat.succ_mul] at this
        rwa [show o + sz + i * sz = o + (i * sz + sz) from by omega])
      have := ih (i - sz) v hv
      rwa [show o + sz + (i - sz) = o + i from by omega] at this
/-- A slice among what is read: its elements are opened by 'hel'. -/
theorem open_sl {α H : Type} {enc : TypeId × Value → H} {P : Program} {W : World} {t e : TypeId} {ao : Option Addr} {len cap sz fuel : Nat} {y : DataW H × List MemPlace} {enc' : α → List Value} {Q : α → DataW H → Prop} (ht : P.underlying t = some (.slice e)) (hc : P.cellsOf e = sz + 1) (hsz : ∀ x, (enc' x).length = sz + 1)
    (hel : ∀ n cs y, DataW.trod enc P W 0 (fun _ => true) true n e cs = some y → cs.length = sz + 1 → ∃ x : α, enc' x = cs ∧ Q x y.1)
    (h : DataW.trod enc P W 0 (fun _ => true) true fuel t [.slice ao len cap] = some y) :
    ∃ xs : List α, xs.length = len ∧ RdS (base W) ao (xs.flatMap enc') ∧ len ≤ cap ∧ cap ≤ maxLen ∧ xs.length ≤ Rows.uptoBulk y.1 ∧ (∀ x ∈ xs, ∃ d, Q x d ∧ Rows.uptoBulk d ≤ Rows.uptoBulk y.1) ∧ (ao = none → cap = 0) := by
  rcases DataW.trod_slice ht h with ⟨h1, h2⟩ | ⟨a, len', cap', elems, rest, n, -, h1, h2, -, hl, hm, hlen, hel', -⟩
  · simp only [List.cons.injEq, Value.slice.injEq, and_true] at h1
    obtain ⟨rfl, rfl, rfl⟩ := h1
    exact ⟨[], rfl, .inl rfl, Nat.le_refl _, Nat.zero_le _, Nat.zero_le _, fun _ h => (by cases h), fun _ => rfl⟩
  · simp only [List.cons.injEq, Value.slice.injEq, and_true] at h1
    obtain ⟨rfl, rfl, rfl⟩ := h1
    subst h2
    have key : ∀ i, i < len → ∃ x : α, ∃ cs y, W.cells? 0 (a.add (i * (sz + 1))) (sz + 1) = some cs ∧ elems[i]? = some y ∧ enc' x = cs ∧ Q x y.1 := by
      intro i hi
      have h3 := hel' i hi
      rw [List.getElem?_eq_getElem (by omega), hc, Option.bind_eq_some_iff] at h3
      obtain ⟨cs, h4, h5⟩ := h3
      have h6 := World.cells?_some h4
      obtain ⟨x, hx, hq⟩ := hel n cs _ h5 (by have := mapM_some_length (by unfold World.cells? at h4; rwa [if_pos (Nat.zero_le _)] at h4); simpa using this)
      exact ⟨x, cs, _, h4, List.getElem?_eq_getElem (by omega), hx, hq⟩
    obtain ⟨xs, hx1, hx2⟩ := choose_list len _ key
    have hcell : ∀ i x, xs[i]? = some x → ∀ j v, (enc' x)[j]? = some v → W.cell? ((a.add (i * (sz + 1))).add j) = some v := by
      intro i x hx j v hv
      obtain ⟨cs, y, h4, -, h5, -⟩ := hx2 i x hx
      subst h5
      unfold World.cells? at h4
      rw [if_pos (Nat.zero_le _)] at h4
      have hj : j < sz + 1 := by rw [← hsz x]; exact (List.getElem?_eq_some_iff.1 hv).1
      have := mapM_some_get h4 j j (by simp [hj])
      rw [this, hv]
    refine ⟨xs, hx1, ?_, hl, hm, ?_, ?_, fun h => by cases h⟩
    · cases hxs : xs with
      | nil => exact .inl rfl
      | cons x0 xs' =>
        obtain ⟨v0, hv0⟩ := get_lt (l := enc' x0) (i := 0) (by rw [hsz]; omega)
        have h6 := hcell 0 x0 (by rw [hxs]; rfl) 0 v0 hv0
        rw [Nat.zero_mul] at h6
        have hsp : a.spot = none := spot_of_cell (by simpa [Addr.add] using h6)
        obtain ⟨b, o, sp⟩ := a
        simp only at hsp
        subst hsp
        refine .inr ⟨b, o, rfl, ?_⟩
        rw [← hxs]
        refine rdn_flat_mk hsz xs o fun i x hx j v hv => rd_base ?_
        have := hcell i x hx j v hv
        rwa [add_none, add_none] at this
    · have := bulk_len (elems.map (·.1)) (rest.map (·.1))
      rw [List.length_map, hlen] at this
      rw [hx1]; exact this
    · intro x hx
      obtain ⟨i, hi⟩ := List.getElem?_of_mem hx
      obtain ⟨cs, y, -, h5, -, h7⟩ := hx2 i x hi
      exact ⟨y.1, h7, bulk_slice (List.mem_map_of_mem (List.mem_of_getElem? h5))⟩
/-- Whole arguments. -/
theorem arg_sl {α H : Type} {enc : TypeId × Value → H} {P : Program} {W : World} {t e : TypeId} {v : Value} {d : DataW H} {ps : List MemPlace} {bs sz : Nat} {enc' : α → List Value} {Q : α → DataW H → Prop} (ht : P.underlying t = some (.slice e)) (hc : P.cellsOf e = sz + 1) (hsz : ∀ x, (enc' x).length = sz + 1)
    (hel : ∀ n cs y, DataW.trod enc P W 0 (fun _ => true) true n e cs = some y → cs.length = sz + 1 → ∃ x : α, enc' x = cs ∧ Q x y.1)
    (hval : Value.okWide P W .any bs t v) (h : DataW.Trod enc P W 0 (fun _ => true) true t v d ps) :
    ∃ (xs : List α) (ao : Option Addr) (cap : Nat), v = .slice ao xs.length cap ∧ RdS (base W) ao (xs.flatMap enc') ∧ xs.length ≤ cap ∧ cap ≤ maxLen ∧ xs.length ≤ Rows.uptoBulk d ∧ (∀ x ∈ xs, ∃ y, Q x y ∧ Rows.uptoBulk y ≤ Rows.uptoBulk d) ∧ (ao = none → cap = 0) := by
  obtain ⟨ao, len, cap, rfl⟩ := okWide_slice ht hval
  obtain ⟨n, hn⟩ := h
  obtain ⟨xs, h1, h2, h3, h4, h5, h6, h7⟩ := open_sl ht hc hsz hel (y := (d, ps)) (by simpa [Value.cells] using hn)
  subst h1
  exact ⟨xs, ao, cap, rfl, h2, h3, h4, h5, h6, h7⟩
/-- A slice of an element of a slice. -/
theorem el_sl {α H : Type} {enc : TypeId × Value → H} {P : Program} {W : World} {t e : TypeId} {sz : Nat} {enc' : α → List Value} {Q : α → DataW H → Prop} (ht : P.underlying t = some (.slice e)) (hc : P.cellsOf e = sz + 1) (hsz : ∀ x, (enc' x).length = sz + 1)
    (hel : ∀ n cs y, DataW.trod enc P W 0 (fun _ => true) true n e cs = some y → cs.length = sz + 1 → ∃ x : α, enc' x = cs ∧ Q x y.1)
    (n : Nat) (cs : List Value) (y : DataW H × List MemPlace) (h : DataW.trod enc P W 0 (fun _ => true) true n t cs = some y) (hl : cs.length = 0 + 1) :
    ∃ x : LstA α, encH x = cs ∧ (RdS (base W) x.1 (x.2.2.flatMap enc') ∧ x.2.2.length ≤ Rows.uptoBulk y.1 ∧ (∀ z ∈ x.2.2, ∃ d, Q z d ∧ Rows.uptoBulk d ≤ Rows.uptoBulk y.1) ∧ x.2.2.length ≤ x.2.1) := by
  have h0 : ∃ ao len cap, cs = [.slice ao len cap] := by
    rcases DataW.trod_slice ht h with ⟨h1, -⟩ | ⟨a, len', cap', elems, rest, n, -, h1, -⟩
    · exact ⟨_, _, _, h1⟩
    · exact ⟨_, _, _, h1⟩
  obtain ⟨ao, len, cap, rfl⟩ := h0
  obtain ⟨xs, h1, h2, h3, h4, h5, h6, h7⟩ := open_sl ht hc hsz hel h
  subst h1
  exact ⟨(ao, cap, xs), rfl, h2, h5, h6, h3⟩
/-- An integer. -/
theorem el_int {H : Type} {enc : TypeId × Value → H} {P : Program} {W : World} {e : TypeId} {k : IntKind} (he : P.underlying e = some (.int k)) (n : Nat) (cs : List Value) (y : DataW H × List MemPlace) (h : DataW.trod enc P W 0 (fun _ => true) true n e cs = some y) (hl : cs.length = 0 + 1) : ∃ x : Int, [Value.int k x] = cs ∧ (Lit.int k x).wf = true := by
  obtain ⟨m, rfl, rfl, hw⟩ := DataW.trod_int he h
  exact ⟨m, rfl, hw⟩
end Go.Proofs.Ytkoclbjiaofkhaa.frame
set_option linter.unusedVariables false
set_option linter.unusedSimpArgs false
namespace Go.Proofs.Ytkoclbjiaofkhaa.frame
open Go Go.Ab Go.ChangeShapes Go.WideShapes Go.ChangeAt Go.RowKit
variable {α β H : Type} {enc : TypeId × Value → H} {P : Program} {W : World} {e : TypeId} {fs : Array Field} {m : Nat} {cs : List Value} {B : Nat}
/-- How an element of type e is opened. -/
abbrev El (enc : TypeId × Value → H) (P : Program) (W : World) (e : TypeId) (sz : Nat) (encA : α → List Value) (Q : α → DataW H → Prop) : Prop :=
  ∀ n cs y, DataW.trod enc P W 0 (fun _ => true) true n e cs = some y → cs.length = sz → ∃ x : α, encA x = cs ∧ Q x y.1
/-- What is known of the fields from i on. -/
def FR (enc : TypeId × Value → H) (P : Program) (W : World) (fs : Array Field) (m i : Nat) (cs : List Value) (B : Nat) : Prop :=
  ∀ j f, i ≤ j → fs[j]? = some f → ∃ y : DataW H × List MemPlace, DataW.trod enc P W 0 (fun _ => true) true m f.type ((cs.drop f.offset).take (P.cellsOf f.type)) = some y ∧ Rows.uptoBulk y.1 ≤ B
theorem fr_start {n : Nat} {y : DataW H × List MemPlace} (he : P.underlying e = some (.struct fs)) (h : DataW.trod enc P W 0 (fun _ => true) true n e cs = some y) : ∃ m, FR enc P W fs m 0 cs (Rows.uptoBulk y.1) := by
  obtain ⟨xs, m, -, hy, -, hxs, hf⟩ := DataW.trod_struct he h
  refine ⟨m, fun j f _ hj => ?_⟩
  have hlt : j < xs.length := by rw [hxs]; exact (Array.getElem?_eq_some_iff.1 hj).1
  have := hf j f hj
  rw [List.getElem?_eq_getElem hlt] at this
  refine ⟨_, this, ?_⟩
  rw [hy]
  have hp := part_le (l := xs.map (·.1)) (d := xs[j].1) (List.mem_map_of_mem (List.getElem_mem hlt))
  simp only [Rows.uptoBulk]
  omega
/-- Fields from i on, opened. -/
abbrev Fo (enc : TypeId × Value → H) (P : Program) (W : World) (fs : Array Field) (i off sz : Nat) (encA : α → List Value) (Q : α → Nat → Prop) : Prop :=
  ∀ m cs B, FR enc P W fs m i cs B → cs.length = off + sz → ∃ x : α, encA x = cs.drop off ∧ Q x B
theorem fo_last {i off sz : Nat} {f : Field} {encA : α → List Value} {Q : α → DataW H → Prop} (hf : fs[i]? = some f) (ho : f.offset = off) (hc : P.cellsOf f.type = sz) (el : El enc P W f.type sz encA Q) :
    Fo enc P W fs i off sz encA (fun x B => ∃ d, Q x d ∧ Rows.uptoBulk d ≤ B) := by
  intro m cs B h hl
  obtain ⟨y, hy, hb⟩ := h i f (Nat.le_refl _) hf
  rw [ho, hc, List.take_of_length_le (by rw [List.length_drop]; omega)] at hy
  obtain ⟨x, hx, hq⟩ := el m _ y hy (by rw [List.length_drop]; omega)
  exact ⟨x, hx, y.1, hq, hb⟩
theorem fo_cons {i off sz n : Nat} {f : Field} {encA : α → List Value} {Q : α → DataW H → Prop} {encB : β → List Value} {R : β → Nat → Prop} (hf : fs[i]? = some f) (ho : f.offset = off) (hc : P.cellsOf f.type = sz) (el : El enc P W f.type sz encA Q)
    (rest : Fo enc P W fs (i + 1) (off + sz) n encB R) : Fo enc P W fs i off (sz + n) (fun x : α × β => encA x.1 ++ encB x.2) (fun x B => (∃ d, Q x.1 d ∧ Rows.uptoBulk d ≤ B) ∧ R x.2 B) := by
  intro m cs B h hl
  obtain ⟨y, hy, hb⟩ := h i f (Nat.le_refl _) hf
  rw [ho, hc] at hy
  obtain ⟨x, hx, hq⟩ := el m _ y hy (by rw [List.length_take, List.length_drop]; omega)
  obtain ⟨z, hz, hr⟩ := rest m cs B (fun j g hj hg => h j g (by omega) hg) (by omega)
  refine ⟨(x, z), ?_, ⟨y.1, hq, hb⟩, hr⟩
  show encA x ++ encB z = _
  rw [hx, hz, ← List.drop_drop, List.take_append_drop]
theorem el_struct {sz : Nat} {encA : α → List Value} {Q : α → Nat → Prop} (he : P.underlying e = some (.struct fs)) (fo : Fo enc P W fs 0 0 sz encA Q) : El enc P W e sz encA (fun x d => Q x (Rows.uptoBulk d)) := by
  intro n cs y h hl
  obtain ⟨m, hm⟩ := fr_start he h
  obtain ⟨x, hx, hq⟩ := fo m cs _ hm (by omega)
  exact ⟨x, hx, hq⟩
/-- A struct handed in. -/
theorem arg_struct {t : TypeId} {v : Value} {d : DataW H} {ps : List MemPlace} {bs sz : Nat} {encA : α → List Value} {Q : α → DataW H → Prop} (ht : P.underlying t = some (.struct fs)) (hc : P.cellsOf t = sz) (el : El enc P W t sz encA Q)
    (hval : Value.okWide P W .any bs t v) (h : DataW.Trod enc P W 0 (fun _ => true) true t v d ps) : ∃ x : α, v = .agg (encA x).toArray ∧ Q x d := by
  obtain ⟨cs, rfl, hs⟩ := okWide_struct ht hval
  obtain ⟨n, hn⟩ := h
  obtain ⟨x, hx, hq⟩ := el n cs.toList (d, ps) (by simpa [Value.cells] using hn) (by simpa [hc] using hs)
  exact ⟨x, by rw [hx], hq⟩
end Go.Proofs.Ytkoclbjiaofkhaa.frame
