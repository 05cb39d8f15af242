/- What the law First rests on, part 5 of 5. -/
import Derived.Test.YtkoclbjiaofkhaaFirstD
import Derived.Test.YtkoclbjiaofkhaaRows
import Derived.WalkKit
import Derived.ProofKit
import Derived.OpenShut
import Derived.JoinedCond
import Derived.Carry
set_option linter.unusedVariables false
set_option linter.unusedSimpArgs false
set_option maxRecDepth 100000
namespace Go.Ab.Ord
open Go Go.Proofs Go.Ab Go.Ab.Fe
def rndT (x : CS) (e : T3) : Int := if e.1 = 9 then (opF x e.2.2).1 else if e.1 = 10 then (stF x e.2.1).2.2 else 0
/-- The round of event q. -/
def rnE (x : CS) (es : List T3) (q : Nat) : Int := rndT (sN x es q) (es.getD q (0, 0, 0))
def rnds (x : CS) (es : List T3) : List Int := mks (rnE x es) es.length
theorem rnE_at {x : CS} {es : List T3} {q : Nat} {e : T3} (h : es[q]? = some e) : rnE x es q = rndT (sN x es q) e := by rw [rnE, getD_some h]
theorem oclose_spec (b n ec rc : Nat) (ea ra : Option Addr) (es : List T3) (rs : List Int) (hn : es.length = n) (hr : rs.length = n) (hb : n ≤ 4000000) : Spec Try.prog 37 [.pointer (some ⟨b, 0, none⟩)] [cells b 0 [.slice ea n ec, .slice ra n rc, .slice none 0 0], own 3 enc3 ea ec es, own 1 encZ ra rc rs] (fun (_ : Unit) => .tuple #[]) (fun _ => True) (fun _ => [ordR b es rs]) := by
 refine spec_mk (n := 79) Try.func37 rfl rfl rfl ?_
 intro Γ w0
 simp only [argE, List.cons_append, List.nil_append, Nat.zero_add, Nat.reduceAdd]
 refine c_seq ?_
 refine c_plain (.q 0 (.q 1 (.q 2 (.q 3 (.q 4 (.q 5 (.done))))))) (by kernel_rfl) ?_
 refine q_move rfl rfl rfl rfl ?_
 refine q_nil_p rfl rfl rfl rfl ?_
 refine q_field (k := 0) rfl rfl rfl rfl Try.underlying71 rfl Try.sizeOf25 rfl ?_
 refine q_load_c (j := 0) rfl rfl rfl rfl Try.isAgg25 Tk (by first | rfl | exact (Nat.add_zero _).symm) (by rfl) ?_
 refine q_len rfl rfl rfl rfl Try.underlying25 ?_
 refine q_assign rfl rfl rfl rfl ?_
 refine r_done ?_
 refine s_keep [0, 2] (e' := [(0, _), (2, _)]) rfl ?_
 refine k_then_n ?_
 refine c_seq ?_
 refine c_plain (.q 0 (.q 1 ((.l 2 [] (.q 3 (.q 4 ((.l 5 [] (.done))))))))) (by kernel_rfl) ?_
 refine q_move rfl rfl rfl rfl ?_
 refine q_move rfl rfl rfl rfl ?_
 refine l_make (sz := 1) (enc := encH) (len := n) (cap := n) (((none, 0, []) : RowB)) rfl rfl rfl rfl rfl (by first | rfl | omega) (by first | rfl | omega) Try.underlying69 Try.typeInfo94 rfl rfl rfl (by decide) (by omega) (by omega) (by show 24 * _ ≤ _; omega) (by rfl) (encH_len) ?_
 intro b14
 refine ag_nil ?_
 refine q_nil_p rfl rfl rfl rfl ?_
 refine q_field (k := 2) rfl rfl rfl rfl Try.underlying71 rfl Try.sizeOf69 rfl ?_
 refine l_store (j := 2) rfl rfl rfl rfl Try.sizeOf69 (us := [_]) rfl rfl rfl Tk (by first | rfl | exact (Nat.add_zero _).symm) (by first | decide | (simp; done) | omega) ?_
 simp only [setL, List.set]
 refine ag_nil ?_
 refine r_done ?_
 refine s_big_rep (sz := 1) (enc := encB) n ?_
 refine s_keep [0, 2] (e' := [(0, _), (2, _)]) rfl ?_
 refine k_then_n ?_
 refine c_seq ?_
 refine c_plain (.q 0 (.q 1 (.q 2 (.done)))) (by kernel_rfl) ?_
 refine q_move rfl rfl rfl rfl ?_
 refine q_int rfl rfl rfl rfl rfl (b_sub' _ (by exact fits_i64 (by omega) (by omega))) ?_
 refine q_assign rfl rfl rfl rfl ?_
 refine r_done ?_
 refine k_then_n ?_
 refine c_block ?_
 refine c_loop2 (α := Nat × List RowB) (fun (x_ : Nat × List RowB) => match x_ with | (k, G) => k ≤ n ∧ G.length = n ∧ (∀ (q : Nat) (x : RowB), k ≤ q → G[q]? = some x → x.2.2 = mks (hbF es (rf rs) q) n)) (fun (x_ : Nat × List RowB) => match x_ with | (k, G) => [(3, .int .i64 (((k : Nat) : Int) - 1))]) (fun (x_ : Nat × List RowB) => match x_ with | (k, G) => [bigS (owA 1 encB) G, cells b 0 [.slice ea n ec, .slice ra n rc, .slice (some ⟨b14, 0, none⟩) n n], own 3 enc3 ea ec es, own 1 encZ ra rc rs, own 1 encH (some ⟨b14, 0, none⟩) n G]) (fun (x_ : Nat × List RowB) => match x_ with | (k, G) => k) [0, 2] (er := [(0, _), (2, _)]) rfl (n, List.replicate n ((none, 0, []) : RowB)) ?_ (by exact ⟨rfl, trivial⟩) (by (try dsimp only); (try simp only [Nat.add_zero, Nat.zero_add]); (repeat ((with_reducible apply Z2); focus (first | (with_reducible (repeat (first | exact Z0 | apply Z1)); done) | (repeat (first | exact Z0 | apply Z1))))); exact Z3) ?_
 · exact ⟨Nat.le_refl _, List.length_replicate, fun q x h1 h2 => by have := (List.getElem?_eq_some_iff.1 h2).1; simp at this; omega⟩
 rintro ⟨k, G⟩ ⟨hkn, hGl, hGq⟩
 try simp only [List.cons_append, List.nil_append]
 refine c_seq ?_
 refine c_seq ?_
 refine c_plain (.q 0 (.q 1 (.done))) (by kernel_rfl) ?_
 refine q_move rfl rfl rfl rfl ?_
 refine q_int rfl rfl rfl rfl rfl (b_geq _ _ _ _) ?_
 refine r_done ?_
 refine k_then_n ?_
 refine c_cond_p rfl (fun hk0 => ?_) (fun hk0 => ?_)
 ·
  obtain ⟨i, rfl⟩ : ∃ i, k = i + 1 := ⟨k - 1, by omega⟩
  refine s_eq 3 rfl (v' := .int .i64 ((i : Nat) : Int)) (by congr 1; omega) ?_
  obtain ⟨x, hx⟩ := get_lt (l := es) (i := i) (by omega)
  obtain ⟨p, hp⟩ := get_lt (l := rs) (i := i) (by omega)
  obtain ⟨g0, hg0⟩ := get_lt (l := G) (i := i) (by omega)
  refine c_skip ?_
  refine k_then_n ?_
  refine c_seq ?_
  refine c_block ?_
  refine c_seq ?_
  refine c_plain (.q 0 ((.l 1 [] (.q 2 (.done))))) (by kernel_rfl) ?_
  refine q_move rfl rfl rfl rfl ?_
  refine l_make (sz := 1) (enc := encB) (len := n) (cap := n) (false) rfl rfl rfl rfl rfl (by first | rfl | omega) (by first | rfl | omega) Try.underlying94 Try.typeInfo4 rfl rfl rfl (by decide) (by omega) (by omega) (by show 1 * _ ≤ _; omega) (by rfl) (encB_len) ?_
  intro b24
  refine ag_nil ?_
  refine q_assign rfl rfl rfl rfl ?_
  refine r_done ?_
  rw [rep_mks (f := rowF es (rf rs) i (i + 1)) (v := false) (n := n) (fun q _ => rowF_start)]
  refine s_keep [0, 2, 3, 4] (e' := [(0, _), (2, _), (3, _), (4, _)]) rfl ?_
  refine k_then_n ?_
  refine c_seq ?_
  refine c_seq ?_
  refine c_plain (.q 0 (.q 1 (.q 2 (.done)))) (by kernel_rfl) ?_
  refine q_move rfl rfl rfl rfl ?_
  refine q_int rfl rfl rfl rfl rfl (b_add' _ (by exact fits_i64 (by omega) (by omega))) ?_
  refine q_assign rfl rfl rfl rfl ?_
  refine r_done ?_
  refine k_then_n ?_
  refine c_block ?_
  refine c_loop2 (α := Nat) (fun (j : Nat) => i < j ∧ j ≤ n) (fun (j : Nat) => [(5, .int .i64 ((j : Nat) : Int))]) (fun (j : Nat) => [own 1 encB (some ⟨b24, 0, none⟩) n (mks (rowF es (rf rs) i j) n)]) (fun (j : Nat) => n - j) [0, 2, 3, 4] (er := [(0, _), (2, _), (3, _), (4, _)]) rfl (i + 1) ?_ (by exact ⟨rfl, trivial⟩) (by (try dsimp only); (try simp only [Nat.add_zero, Nat.zero_add]); (repeat ((with_reducible apply Z2); focus (first | (with_reducible (repeat (first | exact Z0 | apply Z1)); done) | (repeat (first | exact Z0 | apply Z1))))); exact Z3) ?_
  · exact ⟨Nat.lt_succ_self _, by omega⟩
  rintro j ⟨hij, hjn⟩
  try simp only [List.cons_append, List.nil_append]
  refine c_seq ?_
  refine c_seq ?_
  refine c_plain (.q 0 (.q 1 (.q 2 (.done)))) (by kernel_rfl) ?_
  refine q_move rfl rfl rfl rfl ?_
  refine q_move rfl rfl rfl rfl ?_
  refine q_int rfl rfl rfl rfl rfl (b_lss _ _ _ _) ?_
  refine r_done ?_
  refine k_then_n ?_
  refine c_cond_p rfl (fun hjlt => ?_) (fun hjlt => ?_)
  ·
   obtain ⟨y, hy⟩ := get_lt (l := es) (i := j) (by omega)
   obtain ⟨q, hq⟩ := get_lt (l := rs) (i := j) (by omega)
   have hE := edgeB_at (R := rf rs) hx hy hij
   rw [rf_at hp, rf_at hq] at hE
   refine c_skip ?_
   refine k_then_n ?_
   refine c_seq ?_
   refine c_block ?_
   refine c_seq ?_
   refine c_seq ?_
   refine c_plain (.q 0 (.q 1 (.q 2 (.q 3 (.q 4 (.q 5 (.q 6 (.q 7 ((.l 8 [] (.q 9 (.q 10 (.done))))))))))))) (by kernel_rfl) ?_
   refine q_move rfl rfl rfl rfl ?_
   refine q_move rfl rfl rfl rfl ?_
   have hk_1 : (mks (rowF es (rf rs) i j) n)[j]? = some (rowF es (rf rs) i j j) := (mks_get _ (by omega))
   refine q_idxO (sz := 0) (k := j) (enc := encB) (xs := mks (rowF es (rf rs) i j) n) rfl rfl rfl rfl rfl Try.underlying94 Try.sizeOf4 hk_1 (by first | rfl | omega) (by omega) Tk ?_
   intro ib34 io34 ha34 hl34 hc34
   refine q_load_O (v := (.bool (rowF es (rf rs) i j j))) (j := 0) (k' := j) (enc := encB) (off := io34) rfl rfl rfl rfl Try.isAgg4 ha34 encB_len hk_1 Tk (by first | rfl | exact (Nat.add_zero _).symm | omega) (by rfl) ?_
   refine q_move rfl rfl rfl rfl ?_
   refine s_bool 36 rfl (fun hr => ?_) (fun hr => ?_)
   ·
    try simp only [Bool.and_eq_true, Bool.or_eq_true, Bool.not_eq_true', Bool.not_eq_false', Bool.and_eq_false_iff, Bool.or_eq_false_iff, decide_eq_true_eq, decide_eq_false_iff_not] at hr
    have hskip : rowF es (rf rs) i j j = true ∨ edgeB es (rf rs) i j = false := .inl hr
    refine q_skip rfl rfl rfl rfl ?_
    refine q_skip rfl rfl rfl rfl ?_
    refine q_skip rfl rfl rfl rfl ?_
    refine l_skip rfl rfl rfl rfl ?_
    refine q_skip rfl rfl rfl rfl ?_
    refine q_pick_t rfl rfl rfl rfl rfl ?_
    refine r_done ?_
    refine s_keep [0, 2, 3, 4, 5, 37, 38, 39, 40, 41, 42] (e' := [(0, _), (2, _), (3, _), (4, _), (5, _), (37, _), (38, _), (39, _), (40, _), (41, _), (42, _)]) rfl ?_
    refine k_then_n ?_
    refine c_cond_t rfl ?_
    refine c_exit ?_
    refine k_then_exit ?_
    refine k_blk_here ?_
    refine k_then_n ?_
    refine c_plain (.q 0 (.q 1 (.q 2 (.done)))) (by kernel_rfl) ?_
    refine q_move rfl rfl rfl rfl ?_
    refine q_int rfl rfl rfl rfl rfl (b_add' _ (by exact fits_i64 (by omega) (by omega))) ?_
    refine q_assign rfl rfl rfl rfl ?_
    refine r_done ?_
    refine k_then_n ?_
    rw [mks_ext (f := rowF es (rf rs) i j) (g := rowF es (rf rs) i (j + 1)) (fun q _ => (rowF_skip hskip).symm)]
    refine loop_next (x := j) (j + 1) ?_ ?_ ?_ ?_
    · exact ⟨by omega, by omega⟩
    · show n - (j + 1) < n - j; omega
    · exact ⟨rfl, rfl, rfl, rfl, rfl, trivial⟩
    · (try simp only [List.cons_append, List.nil_append]); exact Tf
   ·
    try simp only [Bool.and_eq_true, Bool.or_eq_true, Bool.not_eq_true', Bool.not_eq_false', Bool.and_eq_false_iff, Bool.or_eq_false_iff, decide_eq_true_eq, decide_eq_false_iff_not] at hr
    refine q_move rfl rfl rfl rfl ?_
    refine q_move rfl rfl rfl rfl ?_
    refine q_move rfl rfl rfl rfl ?_
    have sp_2 := owhy_spec b n ec rc ea ra (.slice (some ⟨b14, 0, none⟩) n n) es rs (by first | rfl | assumption | omega | (simp; done) | (simp; omega)) (by first | rfl | assumption | omega | (simp; done) | (simp; omega)) (by omega) i j (by omega) (by omega) x y p q hx hy hp hq
    refine l_call rfl rfl rfl rfl rfl rfl Try.call54 (sp_2) Ts ?_
    rintro ⟨⟩ -
    try simp only [List.cons_append, List.nil_append]
    refine ag_nil ?_
    refine q_int rfl rfl rfl rfl rfl (b_eql _ _ _ _) ?_
    refine q_pick_f rfl rfl rfl rfl rfl ?_
    refine r_done ?_
    refine s_keep [0, 2, 3, 4, 5, 37, 38, 39, 40, 41, 42] (e' := [(0, _), (2, _), (3, _), (4, _), (5, _), (37, _), (38, _), (39, _), (40, _), (41, _), (42, _)]) rfl ?_
    refine k_then_n ?_
    refine c_cond_p rfl (fun hw => ?_) (fun hw => ?_)
    ·
     have hskip : rowF es (rf rs) i j j = true ∨ edgeB es (rf rs) i j = false := .inr (by rw [hE, decide_eq_false (whyC_zero.1 hw)])
     refine c_exit ?_
     refine k_then_exit ?_
     refine k_blk_here ?_
     refine k_then_n ?_
     refine c_plain (.q 0 (.q 1 (.q 2 (.done)))) (by kernel_rfl) ?_
     refine q_move rfl rfl rfl rfl ?_
     refine q_int rfl rfl rfl rfl rfl (b_add' _ (by exact fits_i64 (by omega) (by omega))) ?_
     refine q_assign rfl rfl rfl rfl ?_
     refine r_done ?_
     refine k_then_n ?_
     rw [mks_ext (f := rowF es (rf rs) i j) (g := rowF es (rf rs) i (j + 1)) (fun q _ => (rowF_skip hskip).symm)]
     refine loop_next (x := j) (j + 1) ?_ ?_ ?_ ?_
     · exact ⟨by omega, by omega⟩
     · show n - (j + 1) < n - j; omega
     · exact ⟨rfl, rfl, rfl, rfl, rfl, trivial⟩
     · (try simp only [List.cons_append, List.nil_append]); exact Tf
    ·
     have hed : edgeB es (rf rs) i j = true := by rw [hE, decide_eq_true_eq]; exact Classical.byContradiction fun h => hw (whyC_zero.2 h)
     refine c_skip ?_
     refine k_then_n ?_
     refine c_seq ?_
     refine c_plain (.q 0 (.q 1 (.q 2 ((.l 3 [] (.done)))))) (by kernel_rfl) ?_
     refine q_move rfl rfl rfl rfl ?_
     refine q_move rfl rfl rfl rfl ?_
     refine q_idxO (sz := 0) (k := j) (enc := encB) (xs := mks (rowF es (rf rs) i j) n) rfl rfl rfl rfl rfl Try.underlying94 Try.sizeOf4 hk_1 (by first | rfl | omega) (by omega) Tk ?_
     intro ib45 io45 ha45 hl45 hc45
     refine l_store_O (j := 0) (k := j) (q := true) (enc := encB) (off := io45) rfl rfl rfl rfl Try.sizeOf4 (us := [_]) rfl rfl rfl ha45 encB_len hk_1 Tk (by first | rfl | exact (Nat.add_zero _).symm | omega) (by first | decide | exact Nat.le_of_ble_eq_true rfl) (by rfl) ?_
     refine ag_nil ?_
     refine r_done ?_
     rw [mid_start hed (by omega)]
     obtain ⟨gj, hgj⟩ := get_lt (l := G) (i := j) (by omega)
     have hgv := hGq j gj (by omega) hgj
     refine s_owA (sz := 1) (enc := encB) (T := G) Tk hgj fun ho1 ho2 => ?_
     have hrj : RdS (bigS (owA 1 encB) G) gj.1 ((mks (hbF es (rf rs) j) n).flatMap encB) := rds_big (f := owA 1 encB) (List.mem_of_getElem? hgj) (by rw [← hgv]; exact rds_own encB_len ho1 ho2)
     refine s_keep [0, 2, 3, 4, 5, 37, 38, 39, 40, 41] (e' := [(0, _), (2, _), (3, _), (4, _), (5, _), (37, _), (38, _), (39, _), (40, _), (41, _)]) rfl ?_
     refine k_then_n ?_
     refine c_seq ?_
     refine c_plain (.q 0 (.q 1 (.q 2 (.done)))) (by kernel_rfl) ?_
     refine q_move rfl rfl rfl rfl ?_
     refine q_int rfl rfl rfl rfl rfl (b_add' _ (by exact fits_i64 (by omega) (by omega))) ?_
     refine q_assign rfl rfl rfl rfl ?_
     refine r_done ?_
     refine k_then_n ?_
     refine c_block ?_
     refine c_loop2 (α := Nat) (fun (k : Nat) => j < k ∧ k ≤ n) (fun (k : Nat) => [(6, .int .i64 ((k : Nat) : Int))]) (fun (k : Nat) => [own 1 encB (some ⟨b24, 0, none⟩) n (mks (midF es (rf rs) i j k) n)]) (fun (k : Nat) => n - k) [0, 2, 3, 4, 5, 37, 38, 39, 40, 41] (er := [(0, _), (2, _), (3, _), (4, _), (5, _), (37, _), (38, _), (39, _), (40, _), (41, _)]) rfl (j + 1) ?_ (by exact ⟨rfl, trivial⟩) (by (try dsimp only); (try simp only [Nat.add_zero, Nat.zero_add]); (repeat ((with_reducible apply Z2); focus (first | (with_reducible (repeat (first | exact Z0 | apply Z1)); done) | (repeat (first | exact Z0 | apply Z1))))); exact Z3) ?_
     · exact ⟨Nat.lt_succ_self _, by omega⟩
     rintro k ⟨hjk, hkn2⟩
     try simp only [List.cons_append, List.nil_append]
     refine c_seq ?_
     refine c_seq ?_
     refine c_plain (.q 0 (.q 1 (.q 2 (.done)))) (by kernel_rfl) ?_
     refine q_move rfl rfl rfl rfl ?_
     refine q_move rfl rfl rfl rfl ?_
     refine q_int rfl rfl rfl rfl rfl (b_lss _ _ _ _) ?_
     refine r_done ?_
     refine k_then_n ?_
     refine c_cond_p rfl (fun hklt => ?_) (fun hklt => ?_)
     ·
      refine c_skip ?_
      refine k_then_n ?_
      refine c_seq ?_
      refine c_block ?_
      refine c_plain (.q 0 (.q 1 (.q 2 (.q 3 (.q 4 (.q 5 (.q 6 (.q 7 (.q 8 (.q 9 (.q 10 (.q 11 (.q 12 (.q 13 (.q 14 (.q 15 (.q 16 (.q 17 (.q 18 ((.l 19 [] (.done)))))))))))))))))))))) (by kernel_rfl) ?_
      refine q_move rfl rfl rfl rfl ?_
      refine q_move rfl rfl rfl rfl ?_
      refine q_move rfl rfl rfl rfl ?_
      refine q_move rfl rfl rfl rfl ?_
      have hk_3 : (mks (midF es (rf rs) i j k) n)[k]? = some (rowF es (rf rs) i j k) := ((mks_get _ (by omega)).trans (by rw [mid_at]))
      refine q_idxO (sz := 0) (k := k) (enc := encB) (xs := mks (midF es (rf rs) i j k) n) rfl rfl rfl rfl rfl Try.underlying94 Try.sizeOf4 hk_3 (by first | rfl | omega) (by omega) Tk ?_
      intro ib57 io57 ha57 hl57 hc57
      refine q_load_O (v := (.bool (rowF es (rf rs) i j k))) (j := 0) (k' := k) (enc := encB) (off := io57) rfl rfl rfl rfl Try.isAgg4 ha57 encB_len hk_3 Tk (by first | rfl | exact (Nat.add_zero _).symm | omega) (by rfl) ?_
      refine q_move rfl rfl rfl rfl ?_
      refine s_bool 59 rfl (fun hrk => ?_) (fun hrk => ?_)
      ·
       try simp only [Bool.and_eq_true, Bool.or_eq_true, Bool.not_eq_true', Bool.not_eq_false', Bool.and_eq_false_iff, Bool.or_eq_false_iff, decide_eq_true_eq, decide_eq_false_iff_not] at hrk
       refine q_skip rfl rfl rfl rfl ?_
       refine q_skip rfl rfl rfl rfl ?_
       refine q_skip rfl rfl rfl rfl ?_
       refine q_skip rfl rfl rfl rfl ?_
       refine q_skip rfl rfl rfl rfl ?_
       refine q_skip rfl rfl rfl rfl ?_
       refine q_skip rfl rfl rfl rfl ?_
       refine q_skip rfl rfl rfl rfl ?_
       refine q_skip rfl rfl rfl rfl ?_
       refine q_skip rfl rfl rfl rfl ?_
       refine q_pick_t rfl rfl rfl rfl rfl ?_
       refine q_idxO (sz := 0) (k := k) (enc := encB) (xs := mks (midF es (rf rs) i j k) n) rfl rfl rfl rfl rfl Try.underlying94 Try.sizeOf4 hk_3 (by first | rfl | omega) (by omega) Tk ?_
       intro ib71 io71 ha71 hl71 hc71
       refine l_store_O (j := 0) (k := k) (q := true) (enc := encB) (off := io71) rfl rfl rfl rfl Try.sizeOf4 (us := [_]) rfl rfl rfl ha71 encB_len hk_3 Tk (by first | rfl | exact (Nat.add_zero _).symm | omega) (by first | decide | exact Nat.le_of_ble_eq_true rfl) (by rfl) ?_
       refine ag_nil ?_
       refine r_done ?_
       refine s_keep [0, 2, 3, 4, 5, 6, 37, 38, 39, 40, 41, 60, 61, 62, 63, 64, 65, 66, 67, 68, 69] (e' := [(0, _), (2, _), (3, _), (4, _), (5, _), (6, _), (37, _), (38, _), (39, _), (40, _), (41, _), (60, _), (61, _), (62, _), (63, _), (64, _), (65, _), (66, _), (67, _), (68, _), (69, _)]) rfl ?_
       refine k_blk_n ?_
       refine k_then_n ?_
       refine c_plain (.q 0 (.q 1 (.q 2 (.done)))) (by kernel_rfl) ?_
       refine q_move rfl rfl rfl rfl ?_
       refine q_int rfl rfl rfl rfl rfl (b_add' _ (by exact fits_i64 (by omega) (by omega))) ?_
       refine q_assign rfl rfl rfl rfl ?_
       refine r_done ?_
       refine k_then_n ?_
       rw [show ((mks (midF es (rf rs) i j k) n).set k true) = mks (midF es (rf rs) i j (k + 1)) n from by rw [← mid_next hed hjk (by omega)]; simp [hrk]]
       refine loop_next (x := k) (k + 1) ?_ ?_ ?_ ?_
       · exact ⟨by omega, by omega⟩
       · show n - (k + 1) < n - k; omega
       · exact ⟨rfl, rfl, rfl, rfl, rfl, rfl, rfl, rfl, rfl, rfl, rfl, trivial⟩
       · (try simp only [List.cons_append, List.nil_append]); exact Tf
      ·
       try simp only [Bool.and_eq_true, Bool.or_eq_true, Bool.not_eq_true', Bool.not_eq_false', Bool.and_eq_false_iff, Bool.or_eq_false_iff, decide_eq_true_eq, decide_eq_false_iff_not] at hrk
       refine q_move rfl rfl rfl rfl ?_
       refine q_nil_p rfl rfl rfl rfl ?_
       refine q_field (k := 2) rfl rfl rfl rfl Try.underlying71 rfl Try.sizeOf69 rfl ?_
       refine q_load_c (j := 2) rfl rfl rfl rfl Try.isAgg69 Tk (by first | rfl | exact (Nat.add_zero _).symm) (by rfl) ?_
       refine q_move rfl rfl rfl rfl ?_
       refine q_idxO (sz := 0) (k := j) (enc := encH) (xs := G) rfl rfl rfl rfl rfl Try.underlying69 Try.sizeOf94 hgj (by first | rfl | omega) (by omega) Tk ?_
       intro ib65 io65 ha65 hl65 hc65
       refine q_load_O (v := (.slice gj.1 gj.2.2.length gj.2.1)) (j := 0) (k' := j) (enc := encH) (off := io65) rfl rfl rfl rfl Try.isAgg94 ha65 encH_len hgj Tk (by first | rfl | exact (Nat.add_zero _).symm | omega) (by rfl) ?_
       refine q_move rfl rfl rfl rfl ?_
       have hk_4 : (mks (hbF es (rf rs) j) n)[k]? = some (hbF es (rf rs) j k) := (mks_get _ (by omega))
       refine q_idxR (sz := 0) (k := k) rfl rfl rfl rfl rfl Try.underlying94 Try.sizeOf4 (hrj) hk_4 encB_len (by first | rfl | omega) (by rw [hgv, mks_len]; omega) ?_
       intro ib68 io68 _ hd68
       refine q_load rfl rfl rfl rfl Try.isAgg4 Tk (hd68 0 (.bool (hbF es (rf rs) j k)) rfl) ?_
       refine q_pick_f rfl rfl rfl rfl rfl ?_
       refine q_idxO (sz := 0) (k := k) (enc := encB) (xs := mks (midF es (rf rs) i j k) n) rfl rfl rfl rfl rfl Try.underlying94 Try.sizeOf4 hk_3 (by first | rfl | omega) (by omega) Tk ?_
       intro ib71 io71 ha71 hl71 hc71
       refine l_store_O (j := 0) (k := k) (q := (hbF es (rf rs) j k)) (enc := encB) (off := io71) rfl rfl rfl rfl Try.sizeOf4 (us := [_]) rfl rfl rfl ha71 encB_len hk_3 Tk (by first | rfl | exact (Nat.add_zero _).symm | omega) (by first | decide | exact Nat.le_of_ble_eq_true rfl) (by rfl) ?_
       refine ag_nil ?_
       refine r_done ?_
       refine s_keep [0, 2, 3, 4, 5, 6, 37, 38, 39, 40, 41, 60, 61, 62, 63, 64, 65, 66, 67, 68, 69] (e' := [(0, _), (2, _), (3, _), (4, _), (5, _), (6, _), (37, _), (38, _), (39, _), (40, _), (41, _), (60, _), (61, _), (62, _), (63, _), (64, _), (65, _), (66, _), (67, _), (68, _), (69, _)]) rfl ?_
       refine k_blk_n ?_
       refine k_then_n ?_
       refine c_plain (.q 0 (.q 1 (.q 2 (.done)))) (by kernel_rfl) ?_
       refine q_move rfl rfl rfl rfl ?_
       refine q_int rfl rfl rfl rfl rfl (b_add' _ (by exact fits_i64 (by omega) (by omega))) ?_
       refine q_assign rfl rfl rfl rfl ?_
       refine r_done ?_
       refine k_then_n ?_
       rw [show ((mks (midF es (rf rs) i j k) n).set k (hbF es (rf rs) j k)) = mks (midF es (rf rs) i j (k + 1)) n from by rw [← mid_next hed hjk (by omega)]; simp [hrk]]
       refine loop_next (x := k) (k + 1) ?_ ?_ ?_ ?_
       · exact ⟨by omega, by omega⟩
       · show n - (k + 1) < n - k; omega
       · exact ⟨rfl, rfl, rfl, rfl, rfl, rfl, rfl, rfl, rfl, rfl, rfl, trivial⟩
       · (try simp only [List.cons_append, List.nil_append]); exact Tf
     ·
      obtain rfl : n = k := by omega
      rw [mid_end]
      refine c_exit ?_
      refine k_then_exit ?_
      refine k_then_exit ?_
      refine k_blk_here ?_
      refine k_blk_n ?_
      refine k_then_n ?_
      refine c_plain (.q 0 (.q 1 (.q 2 (.done)))) (by kernel_rfl) ?_
      refine q_move rfl rfl rfl rfl ?_
      refine q_int rfl rfl rfl rfl rfl (b_add' _ (by exact fits_i64 (by omega) (by omega))) ?_
      refine q_assign rfl rfl rfl rfl ?_
      refine r_done ?_
      refine s_keep [0, 2, 3, 4, 5, 37, 38, 39, 40, 41] (e' := [(0, _), (2, _), (3, _), (4, _), (5, _), (37, _), (38, _), (39, _), (40, _), (41, _)]) rfl ?_
      refine k_then_n ?_
      refine loop_next (x := j) (j + 1) ?_ ?_ ?_ ?_
      · exact ⟨by omega, by omega⟩
      · show n - (j + 1) < n - j; omega
      · exact ⟨rfl, rfl, rfl, rfl, rfl, trivial⟩
      · (try simp only [List.cons_append, List.nil_append]); exact Tf
  ·
   obtain rfl : n = j := by omega
   refine c_exit ?_
   refine k_then_exit ?_
   refine k_then_exit ?_
   refine k_blk_here ?_
   refine k_then_n ?_
   rw [mks_ext (f := rowF es (rf rs) i n) (g := hbF es (rf rs) i) (fun q _ => rowF_end (by omega))]
   refine c_plain (.q 0 (.q 1 (.q 2 (.q 3 (.q 4 (.q 5 (.q 6 ((.l 7 [] (.done)))))))))) (by kernel_rfl) ?_
   refine q_move rfl rfl rfl rfl ?_
   refine q_nil_p rfl rfl rfl rfl ?_
   refine q_field (k := 2) rfl rfl rfl rfl Try.underlying71 rfl Try.sizeOf69 rfl ?_
   refine q_load_c (j := 2) rfl rfl rfl rfl Try.isAgg69 Tk (by first | rfl | exact (Nat.add_zero _).symm) (by rfl) ?_
   refine q_move rfl rfl rfl rfl ?_
   refine q_move rfl rfl rfl rfl ?_
   refine q_idxO (sz := 0) (k := i) (enc := encH) (xs := G) rfl rfl rfl rfl rfl Try.underlying69 Try.sizeOf94 hg0 (by first | rfl | omega) (by omega) Tk ?_
   intro ib78 io78 ha78 hl78 hc78
   refine l_store_O (j := 0) (k := i) (q := ((some ⟨b24, 0, none⟩, n, mks (hbF es (rf rs) i) n) : RowB)) (enc := encH) (off := io78) rfl rfl rfl rfl Try.sizeOf94 (us := [_]) rfl rfl rfl ha78 encH_len hg0 Tk (by first | rfl | exact (Nat.add_zero _).symm | omega) (by first | decide | exact Nat.le_of_ble_eq_true rfl) (by simp only [encH, mks_len]; rfl) ?_
   refine ag_nil ?_
   refine r_done ?_
   refine s_keep [0, 2, 3] (e' := [(0, _), (2, _), (3, _)]) rfl ?_
   refine k_blk_n ?_
   refine k_then_n ?_
   refine c_plain (.q 0 (.q 1 (.q 2 (.done)))) (by kernel_rfl) ?_
   refine q_move rfl rfl rfl rfl ?_
   refine q_int rfl rfl rfl rfl rfl (b_sub' _ (by exact fits_i64 (by omega) (by omega))) ?_
   refine q_assign rfl rfl rfl rfl ?_
   refine r_done ?_
   refine k_then_n ?_
   refine s_big_take (f := owA 1 encB) (L := G) (i := i) (x := g0) Tk hg0 ?_
   refine s_big_put (f := owA 1 encB) (L := G) (i := i) (y := ((some ⟨b24, 0, none⟩, n, mks (hbF es (rf rs) i) n) : RowB)) Ts (by omega) ?_
   refine loop_next (x := (i + 1, G)) ((i, (G.set i ((some ⟨b24, 0, none⟩, n, mks (hbF es (rf rs) i) n) : RowB)))) ?_ ?_ ?_ ?_
   · try dsimp only
     refine ⟨by omega, by rw [List.length_set]; exact hGl, fun q x h1 h2 => ?_⟩
     by_cases e : q = i
     · subst e
       rw [List.getElem?_set_self (by omega)] at h2; cases h2; rfl
     · rw [List.getElem?_set_ne (Ne.symm e)] at h2
       exact hGq q x (by omega) h2
   · show i < i + 1; omega
   · exact ⟨rfl, rfl, rfl, trivial⟩
   · (try simp only [List.cons_append, List.nil_append]); exact Tf
 ·
  obtain rfl : k = 0 := by omega
  refine c_exit ?_
  refine k_then_exit ?_
  refine k_then_exit ?_
  refine k_blk_here ?_
  refine ret_end ?_
  refine ord_fold (b := b) (es := es) (rs := rs) Ts hn.symm hn.symm hn.symm (hGl.trans hn.symm) (fun q x hx => by rw [hn]; exact hGq q x (Nat.zero_le _) hx) ?_
  refine ret0 rfl (()) (by first | rfl | (first | rfl | (congr 1; done) | (congr 1 <;> first | rfl | omega | (simp; done) | (simp; omega)))) (by trivial) ?_
  exact Tf
theorem onew_spec (th va vo lk : Int) (pl : List Int) (ao : Option Addr) (n c : Nat) (A : HProp) (hr : RdS A ao (pl.flatMap encZ)) (hn : pl.length = n) (hb : n ≤ 4000000) (es : List T3) (eo : Option Addr) (m ec : Nat) (he : RdS A eo (es.flatMap enc3)) (hem : es.length = m) (hmb : m ≤ 4000000) (hok : OkS th va vo lk pl) (hl : es.length ≤ 2048) (hall : allC (newF th va vo lk pl) es es.length) : Spec Try.prog 9 [.agg #[.int .i64 th, .int .i64 va, .int .i64 vo, .int .i64 lk, .slice ao n c], .slice eo m ec] [A] (fun (r : Nat) => .tuple #[.pointer (some ⟨r, 0, none⟩), .int .i64 0]) (fun r => True) (fun r => [A, ordR r es (rnds (newF th va vo lk pl) es)]) := by
 refine spec_mk (n := 100) Try.func9 rfl rfl rfl ?_
 intro Γ w0
 simp only [argE, List.cons_append, List.nil_append, Nat.zero_add, Nat.reduceAdd]
 refine c_seq ?_
 refine c_plain ((.l 0 [] (.q 1 (.q 2 (.done))))) (by kernel_rfl) ?_
 refine l_box rfl rfl rfl rfl (us := [_, _, _, _, _]) rfl ?_
 intro b2
 refine ag_nil ?_
 refine q_assign rfl rfl rfl rfl ?_
 refine q_assign rfl rfl rfl rfl ?_
 refine r_done ?_
 refine k_then_n ?_
 refine c_seq ?_
 refine c_seq ?_
 refine c_plain (.q 0 ((.l 1 [] (.q 2 (.done))))) (by kernel_rfl) ?_
 refine q_loadN_c rfl rfl rfl rfl Try.isAgg24 Try.sizeOf24 Tk 0 (us := [_, _, _, _, _]) (by first | rfl | exact (Nat.add_zero _).symm) rfl rfl ?_
 have sp_1 := rshape_spec th va vo lk pl ao n c A (hr) (by first | rfl | assumption | omega | (simp; done) | (simp; omega)) (by omega)
 refine l_call rfl rfl rfl rfl rfl rfl Try.call33 (sp_1) Ts ?_
 rintro ⟨⟩ -
 try simp only [List.cons_append, List.nil_append]
 refine ag_nil ?_
 refine s_eq 17 rfl (v' := .int .i64 0) (by rw [if_pos hok]) ?_
 refine q_int rfl rfl rfl rfl rfl (b_neq _ _ _ _) ?_
 refine s_eq 18 rfl (v' := .bool false) (by first | rfl | simp) ?_
 refine r_done ?_
 refine s_keep [1, 2, 18] (e' := [(1, _), (2, _), (18, _)]) rfl ?_
 refine k_then_n ?_
 refine c_cond_f rfl ?_
 refine c_skip ?_
 refine k_then_n ?_
 refine c_seq ?_
 refine c_seq ?_
 refine c_plain (.q 0 (.q 1 (.q 2 (.done)))) (by kernel_rfl) ?_
 refine q_move rfl rfl rfl rfl ?_
 refine q_len rfl rfl rfl rfl Try.underlying25 ?_
 refine q_int rfl rfl rfl rfl rfl (b_gtr _ _ _ _) ?_
 refine r_done ?_
 refine k_then_n ?_
 refine c_cond_p rfl (fun hg => by exfalso; omega) (fun hg => ?_)
 refine c_skip ?_
 refine k_then_n ?_
 refine c_seq ?_
 refine c_plain (.q 0 ((.l 1 [] (.q 2 (.q 3 (.q 4 (.q 5 (.q 6 (.done))))))))) (by kernel_rfl) ?_
 refine q_loadN_c rfl rfl rfl rfl Try.isAgg24 Try.sizeOf24 Tk 0 (us := [_, _, _, _, _]) (by first | rfl | exact (Nat.add_zero _).symm) rfl rfl ?_
 have sp_2 := rnew_spec th va vo lk pl ao n c A (hr) (by first | rfl | assumption | omega | (simp; done) | (simp; omega)) (by omega) hok
 refine l_call rfl rfl rfl rfl rfl rfl Try.call24 (sp_2) Ts ?_
 rintro ⟨kq, kqp, kqc⟩ -
 try simp only [List.cons_append, List.nil_append]
 refine ag_nil ?_
 refine q_move rfl rfl rfl rfl ?_
 refine q_extract rfl rfl rfl rfl rfl ?_
 refine q_extract rfl rfl rfl rfl rfl ?_
 refine q_assign rfl rfl rfl rfl ?_
 refine q_assign rfl rfl rfl rfl ?_
 refine r_done ?_
 refine s_keep [1, 6] (e' := [(1, _), (6, _)]) rfl ?_
 refine k_then_n ?_
 refine c_seq ?_
 refine c_plain (.q 0 ((.l 1 [] (.q 2 (.done))))) (by kernel_rfl) ?_
 refine q_build rfl rfl rfl rfl (vs := [_, _, _]) (run_buildS Try.underlying71 Try.zeroValue71 (ps := [(0, 1), (1, 1), (2, 1)]) ⟨rfl, Try.sizeOf25, rfl, Try.sizeOf22, rfl, Try.sizeOf69, trivial⟩ rfl) ?_
 refine l_box rfl rfl rfl rfl (us := [_, _, _]) rfl ?_
 intro b28
 refine ag_nil ?_
 refine q_assign rfl rfl rfl rfl ?_
 refine r_done ?_
 refine s_heap (fun _ h => own_nil (sz := 3) (enc := enc3) h) ?_
 refine s_heap (fun _ h => own_nil (sz := 1) (enc := encZ) h) ?_
 refine k_then_n ?_
 refine c_seq ?_
 refine c_seq ?_
 refine c_plain (.q 0 (.done)) (by kernel_rfl) ?_
 refine q_assign rfl rfl rfl rfl ?_
 refine r_done ?_
 refine k_then_n ?_
 refine c_block ?_
 refine c_loop2 (α := Nat × Option Addr × Nat × Option Addr × Nat) (fun (x_ : Nat × Option Addr × Nat × Option Addr × Nat) => match x_ with | (i, ga, gc, qa, qc) => i ≤ m ∧ (allC (newF th va vo lk pl) es i)) (fun (x_ : Nat × Option Addr × Nat × Option Addr × Nat) => match x_ with | (i, ga, gc, qa, qc) => [(9, .int .i64 ((i : Nat) : Int))]) (fun (x_ : Nat × Option Addr × Nat × Option Addr × Nat) => match x_ with | (i, ga, gc, qa, qc) => [rk kqp kqc kq (sN (newF th va vo lk pl) es i), own 1 encZ kqp kqc pl, cells b28 0 [.slice ga i gc, .slice qa i qc, .slice none 0 0], own 3 enc3 ga gc (es.take i), own 1 encZ qa qc (mks (rnE (newF th va vo lk pl) es) i)]) (fun (x_ : Nat × Option Addr × Nat × Option Addr × Nat) => match x_ with | (i, ga, gc, qa, qc) => m - i) [1, 6, 8] (er := [(1, _), (6, _), (8, _)]) rfl (0, none, 0, none, 0) ?_ (by exact ⟨rfl, trivial⟩) (by (try dsimp only); rw [sN_zero]; (repeat ((with_reducible apply Z2); focus (first | (with_reducible (repeat (first | exact Z0 | apply Z1)); done) | (repeat (first | exact Z0 | apply Z1))))); exact Z3) ?_
 · exact ⟨Nat.zero_le _, allC_zero _ _⟩
 rintro ⟨i, ga, gc, qa, qc⟩ ⟨hle_i, hI⟩
 try simp only [List.cons_append, List.nil_append]
 have hsn := (sN_n (newF th va vo lk pl) es i).2
 have hz0 : (newF th va vo lk pl).n = 0 := rfl
 refine c_seq ?_
 refine c_seq ?_
 refine c_plain (.q 0 (.q 1 (.q 2 (.q 3 (.done))))) (by kernel_rfl) ?_
 refine q_move rfl rfl rfl rfl ?_
 refine q_move rfl rfl rfl rfl ?_
 refine q_len rfl rfl rfl rfl Try.underlying25 ?_
 refine q_int rfl rfl rfl rfl rfl (b_lss _ _ _ _) ?_
 refine r_done ?_
 refine k_then_n ?_
 refine c_cond_p rfl (fun hlt => ?_) (fun hlt => ?_)
 ·
  obtain ⟨e, he_⟩ := get_lt (l := es) (i := i) (by omega)
  refine c_skip ?_
  refine k_then_n ?_
  refine c_seq ?_
  refine c_block ?_
  refine c_seq ?_
  refine c_plain (.q 0 (.q 1 (.q 2 (.q 3 ((.l 4 [] ((.l 5 [] (.done))))))))) (by kernel_rfl) ?_
  refine q_move rfl rfl rfl rfl ?_
  refine q_move rfl rfl rfl rfl ?_
  refine q_idxR (sz := 2) (k := i) rfl rfl rfl rfl rfl Try.underlying25 Try.sizeOf40 (he) he_ enc3_len (by first | rfl | omega) (by omega) ?_
  intro ib37 io37 _ hd37
  refine q_loadN (vs := [_, _, _]) rfl rfl rfl rfl Try.isAgg40 Try.sizeOf40 Tk (hd37) rfl ?_
  refine l_alloc rfl rfl rfl Try.zeroValue40 (zs := [.int .i64 0, .int .i64 0, .int .i64 0]) rfl ?_
  intro b10
  refine ag_nil ?_
  refine l_store (j := 0) rfl rfl rfl rfl Try.sizeOf40 (us := [_, _, _]) rfl rfl rfl Tk (by first | rfl | exact (Nat.add_zero _).symm) (by first | decide | (simp; done) | omega) ?_
  simp only [setL, List.set]
  refine ag_nil ?_
  refine r_done ?_
  refine s_keep [1, 6, 8, 9, 10] (e' := [(1, _), (6, _), (8, _), (9, _), (10, _)]) rfl ?_
  refine k_then_n ?_
  refine c_seq ?_
  refine c_plain (.q 0 (.done)) (by kernel_rfl) ?_
  refine q_assign rfl rfl rfl rfl ?_
  refine r_done ?_
  refine k_then_n ?_
  refine c_seq ?_
  refine c_seq ?_
  refine c_plain (.q 0 (.q 1 ((.l 2 [] (.q 3 (.q 4 (.q 5 (.q 6 (.q 7 (.done)))))))))) (by kernel_rfl) ?_
  refine q_move rfl rfl rfl rfl ?_
  refine q_loadN_c rfl rfl rfl rfl Try.isAgg40 Try.sizeOf40 Tk 0 (us := [_, _, _]) (by first | rfl | exact (Nat.add_zero _).symm) rfl rfl ?_
  have sp_3 := rcan_spec kqp kqc kq (sN (newF th va vo lk pl) es i) (sN_inv (new_inv hok) es i) e.1 e.2.1 e.2.2
  refine l_call rfl rfl rfl rfl rfl rfl Try.call34 (sp_3) Ts ?_
  rintro ⟨⟩ -
  try simp only [List.cons_append, List.nil_append]
  refine ag_nil ?_
  refine q_move rfl rfl rfl rfl ?_
  refine s_bool_p 42 rfl (fun hc1 => ?_) (fun hc1 => by exfalso; exact hc1 (hall i e (by omega) he_))
  refine q_field (k := 0) rfl rfl rfl rfl Try.underlying40 rfl Try.sizeOf38 rfl ?_
  refine q_load_c (j := 0) rfl rfl rfl rfl Try.isAgg38 Tk (by first | rfl | exact (Nat.add_zero _).symm) (by rfl) ?_
  refine q_int rfl rfl rfl rfl rfl (b_eql _ _ _ _) ?_
  refine q_pick_t rfl rfl rfl rfl rfl ?_
  refine r_done ?_
  refine s_keep [1, 6, 8, 9, 10, 11, 43, 44, 45, 46] (e' := [(1, _), (6, _), (8, _), (9, _), (10, _), (11, _), (43, _), (44, _), (45, _), (46, _)]) rfl ?_
  refine k_then_n ?_
  refine c_cond_p rfl (fun k9 => ?_) (fun k9 => ?_)
  ·
   have hyes : 0 ≤ e.2.2 ∧ e.2.2 < ((sN (newF th va vo lk pl) es i).B.length : Int) := by
     obtain ⟨p0, p1, -⟩ := (can_obj (sN_inv (new_inv hok) es i) hc1).2.2.1 k9
     exact ⟨p0, by omega⟩
   have hrn : (opF (sN (newF th va vo lk pl) es i) e.2.2).1 = rnE (newF th va vo lk pl) es i := by rw [rnE_at he_, rndT, if_pos k9]
   refine c_seq ?_
   refine c_plain (.q 0 (.q 1 (.q 2 ((.l 3 [] (.q 4 (.q 5 (.q 6 ((.l 7 [] ((.l 8 [] (.q 9 (.done)))))))))))))) (by kernel_rfl) ?_
   refine q_move rfl rfl rfl rfl ?_
   refine q_field (k := 2) rfl rfl rfl rfl Try.underlying40 rfl Try.sizeOf3 rfl ?_
   refine q_load_c (j := 2) rfl rfl rfl rfl Try.isAgg3 Tk (by first | rfl | exact (Nat.add_zero _).symm) (by rfl) ?_
   have sp_4 := rround_spec kqp kqc kq (sN (newF th va vo lk pl) es i) e.2.2
   refine l_call rfl rfl rfl rfl rfl rfl Try.call35 (sp_4) Ts ?_
   rintro ⟨⟩ -
   try simp only [List.cons_append, List.nil_append]
   refine ag_nil ?_
   refine s_eq 51 rfl (v' := .tuple #[.agg #[.int .i64 ((opF (sN (newF th va vo lk pl) es i) e.2.2).1), .int .i64 ((opF (sN (newF th va vo lk pl) es i) e.2.2).2)], .int .i64 0]) (by rw [if_pos hyes, if_pos hyes]) ?_
   refine q_move rfl rfl rfl rfl ?_
   refine q_extract rfl rfl rfl rfl rfl ?_
   refine q_extract rfl rfl rfl rfl rfl ?_
   refine l_alloc rfl rfl rfl Try.zeroValue74 (zs := [.int .i64 0, .int .i64 0]) rfl ?_
   intro b12
   refine ag_nil ?_
   refine l_store (j := 0) rfl rfl rfl rfl Try.sizeOf74 (us := [_, _]) rfl rfl rfl Tk (by first | rfl | exact (Nat.add_zero _).symm) (by first | decide | (simp; done) | omega) ?_
   simp only [setL, List.set]
   refine ag_nil ?_
   refine q_assign rfl rfl rfl rfl ?_
   refine r_done ?_
   refine s_keep [1, 6, 8, 9, 10, 12, 43, 44, 45] (e' := [(1, _), (6, _), (8, _), (9, _), (10, _), (12, _), (43, _), (44, _), (45, _)]) rfl ?_
   refine k_then_n ?_
   refine c_plain (.q 0 (.q 1 (.q 2 (.done)))) (by kernel_rfl) ?_
   refine q_field (k := 0) rfl rfl rfl rfl Try.underlying74 rfl Try.sizeOf3 rfl ?_
   refine q_load_c (j := 0) rfl rfl rfl rfl Try.isAgg3 Tk (by first | rfl | exact (Nat.add_zero _).symm) (by rfl) ?_
   refine q_assign rfl rfl rfl rfl ?_
   refine r_done ?_
   refine k_then_n ?_
   refine c_seq ?_
   refine c_seq ?_
   refine c_plain (.q 0 (.q 1 ((.l 2 [] (.q 3 (.q 4 (.q 5 (.q 6 (.q 7 (.done)))))))))) (by kernel_rfl) ?_
   refine q_move rfl rfl rfl rfl ?_
   refine q_loadN_c rfl rfl rfl rfl Try.isAgg40 Try.sizeOf40 Tk 0 (us := [_, _, _]) (by first | rfl | exact (Nat.add_zero _).symm) rfl rfl ?_
   have sp_5 := rcan_spec kqp kqc kq (sN (newF th va vo lk pl) es i) (sN_inv (new_inv hok) es i) e.1 e.2.1 e.2.2
   refine l_call rfl rfl rfl rfl rfl rfl Try.call34 (sp_5) Ts ?_
   rintro ⟨⟩ -
   try simp only [List.cons_append, List.nil_append]
   refine ag_nil ?_
   refine q_move rfl rfl rfl rfl ?_
   refine s_bool_p 59 rfl (fun hg => ?_) (fun hg => by exfalso; exact hg hc1)
   refine q_field (k := 0) rfl rfl rfl rfl Try.underlying40 rfl Try.sizeOf38 rfl ?_
   refine q_load_c (j := 0) rfl rfl rfl rfl Try.isAgg38 Tk (by first | rfl | exact (Nat.add_zero _).symm) (by rfl) ?_
   refine q_int rfl rfl rfl rfl rfl (b_eql _ _ _ _) ?_
   refine q_pick_t rfl rfl rfl rfl rfl ?_
   refine r_done ?_
   refine s_keep [1, 6, 8, 9, 10, 11, 43, 44, 45, 60, 61, 62, 63] (e' := [(1, _), (6, _), (8, _), (9, _), (10, _), (11, _), (43, _), (44, _), (45, _), (60, _), (61, _), (62, _), (63, _)]) rfl ?_
   refine k_then_n ?_
   refine c_cond_p rfl (fun hg => by exfalso; omega) (fun hg => ?_)
   refine c_skip ?_
   refine k_then_n ?_
   refine c_seq ?_
   refine c_seq ?_
   refine c_plain (.q 0 (.q 1 ((.l 2 [] (.q 3 (.done)))))) (by kernel_rfl) ?_
   refine q_move rfl rfl rfl rfl ?_
   refine q_loadN_c rfl rfl rfl rfl Try.isAgg40 Try.sizeOf40 Tk 0 (us := [_, _, _]) (by first | rfl | exact (Nat.add_zero _).symm) rfl rfl ?_
   have sp_6 := rnext_spec kqp kqc kq (sN (newF th va vo lk pl) es i) (sN_inv (new_inv hok) es i) (by omega) pl (((sN_sh _ _ _).1)) e.1 e.2.1 e.2.2
   refine l_call rfl rfl rfl rfl rfl rfl Try.call27 (sp_6) Ts ?_
   rintro ⟨⟩ -
   try simp only [List.cons_append, List.nil_append]
   refine ag_nil ?_
   refine q_int rfl rfl rfl rfl rfl (b_neq _ _ _ _) ?_
   refine r_done ?_
   refine s_keep [1, 6, 8, 9, 10, 11, 43, 44, 45, 60, 61, 62, 76] (e' := [(1, _), (6, _), (8, _), (9, _), (10, _), (11, _), (43, _), (44, _), (45, _), (60, _), (61, _), (62, _), (76, _)]) rfl ?_
   refine k_then_n ?_
   refine c_cond_p rfl (fun hg => by exfalso; exact hg (if_pos hc1)) (fun hg => ?_)
   refine c_skip ?_
   refine k_then_n ?_
   refine c_seq ?_
   refine c_draw rfl (.q 0 (.q 1 (.q 2 (.q 3 (.q 4 (.q 5 ((.l 6 [4] ((.l 7 [] (.q 8 (.q 9 ((.l 10 [] (.done))))))))))))))) (by kernel_rfl) ?_
   refine q_move rfl rfl rfl rfl ?_
   refine q_move rfl rfl rfl rfl ?_
   refine q_nil_p rfl rfl rfl rfl ?_
   refine q_field (k := 0) rfl rfl rfl rfl Try.underlying71 rfl Try.sizeOf25 rfl ?_
   refine q_load_c (j := 0) rfl rfl rfl rfl Try.isAgg25 Tk (by first | rfl | exact (Nat.add_zero _).symm) (by rfl) ?_
   refine q_loadN_c rfl rfl rfl rfl Try.isAgg40 Try.sizeOf40 Tk 0 (us := [_, _, _]) (by first | rfl | exact (Nat.add_zero _).symm) rfl rfl ?_
   refine l_buildSlice rfl rfl rfl rfl (run_build1 (us := [_, _, _]) Try.underlying25 Try.sizeOf40 rfl Try.zeroValue40 rfl rfl rfl) ?_
   intro b83
   refine ag_load_c (q := 0) rfl rfl rfl Try.isAgg25 Tk (by first | rfl | exact (Nat.add_zero _).symm) (by rfl) ?_
   refine ag_nil ?_
   refine l_append (sz := 3) (enc := enc3) (xs := (es.take i)) rfl rfl rfl rfl rfl Try.underlying25 Try.typeInfo40 rfl rfl rfl (by decide) Tk Tk (by first | rfl | omega | (simp; done) | (simp; omega)) (ys := [(e.1, e.2.1, e.2.2)]) (rds_some rdn_cells) (by rfl) (by first | rfl | omega) (enc3_len) (enc3_one) (by omega) (by show _ * 24 ≤ _; omega) ?_
   intro ao84 cp84
   refine ag_nil ?_
   refine q_nil_p rfl rfl rfl rfl ?_
   refine q_field (k := 0) rfl rfl rfl rfl Try.underlying71 rfl Try.sizeOf25 rfl ?_
   refine l_store (j := 0) rfl rfl rfl rfl Try.sizeOf25 (us := [_]) rfl rfl rfl Tk (by first | rfl | exact (Nat.add_zero _).symm) (by first | decide | (simp; done) | omega) ?_
   simp only [setL, List.set]
   refine ag_nil ?_
   refine r_done ?_
   refine s_keep [1, 6, 8, 9, 11, 43, 44, 45, 60, 61, 62] (e' := [(1, _), (6, _), (8, _), (9, _), (11, _), (43, _), (44, _), (45, _), (60, _), (61, _), (62, _)]) rfl ?_
   refine k_then_n ?_
   refine c_plain (.q 0 (.q 1 (.q 2 (.q 3 (.q 4 (.q 5 ((.l 6 [] ((.l 7 [] (.q 8 (.q 9 ((.l 10 [] (.done))))))))))))))) (by kernel_rfl) ?_
   refine q_move rfl rfl rfl rfl ?_
   refine q_move rfl rfl rfl rfl ?_
   refine q_nil_p rfl rfl rfl rfl ?_
   refine q_field (k := 1) rfl rfl rfl rfl Try.underlying71 rfl Try.sizeOf22 rfl ?_
   refine q_load_c (j := 1) rfl rfl rfl rfl Try.isAgg22 Tk (by first | rfl | exact (Nat.add_zero _).symm) (by rfl) ?_
   refine q_move rfl rfl rfl rfl ?_
   refine s_eq 92 rfl (v' := .int .i64 (rnE (newF th va vo lk pl) es i)) (by rw [hrn]) ?_
   refine l_buildSlice rfl rfl rfl rfl (run_build1 (us := [_]) Try.underlying22 Try.sizeOf3 rfl Try.zeroValue3 rfl rfl rfl) ?_
   intro b93
   refine ag_nil ?_
   refine l_append (sz := 1) (enc := encZ) (xs := (mks (rnE (newF th va vo lk pl) es) i)) rfl rfl rfl rfl rfl Try.underlying22 Try.typeInfo3 rfl rfl rfl (by decide) Tk Tk (by exact mks_len _ _) (ys := [(rnE (newF th va vo lk pl) es i)]) (rds_some rdn_cells) (by rfl) (by first | rfl | omega) (encZ_len) (encZ_one) (by omega) (by show _ * 8 ≤ _; omega) ?_
   intro ao94 cp94
   refine ag_nil ?_
   refine q_nil_p rfl rfl rfl rfl ?_
   refine q_field (k := 1) rfl rfl rfl rfl Try.underlying71 rfl Try.sizeOf22 rfl ?_
   refine l_store (j := 1) rfl rfl rfl rfl Try.sizeOf22 (us := [_]) rfl rfl rfl Tk (by first | rfl | exact (Nat.add_zero _).symm) (by first | decide | (simp; done) | omega) ?_
   simp only [setL, List.set]
   refine ag_nil ?_
   refine r_done ?_
   refine s_keep [1, 6, 8, 9, 43, 44, 45, 60, 61, 62] (e' := [(1, _), (6, _), (8, _), (9, _), (43, _), (44, _), (45, _), (60, _), (61, _), (62, _)]) rfl ?_
   refine k_blk_n ?_
   refine k_then_n ?_
   refine c_plain (.q 0 (.q 1 (.q 2 (.done)))) (by kernel_rfl) ?_
   refine q_move rfl rfl rfl rfl ?_
   refine q_int rfl rfl rfl rfl rfl (b_add' _ (by exact fits_i64 (by omega) (by omega))) ?_
   refine q_assign rfl rfl rfl rfl ?_
   refine r_done ?_
   refine k_then_n ?_
   rw [← sN_next he_, ← take_next he_, mks_next]
   refine loop_next (x := (i, ga, gc, qa, qc)) ((i + 1, ao84, cp84, ao94, cp94)) ?_ ?_ ?_ ?_
   · try dsimp only
     exact ⟨by omega, allC_next hI he_ hc1⟩
   · show m - (i + 1) < m - i; omega
   · exact ⟨rfl, rfl, rfl, rfl, trivial⟩
   · (try simp only [List.cons_append, List.nil_append]); exact Tf
  ·
   refine c_skip ?_
   refine k_then_n ?_
   refine c_seq ?_
   refine c_seq ?_
   refine c_plain (.q 0 (.q 1 ((.l 2 [] (.q 3 (.q 4 (.q 5 (.q 6 (.q 7 (.done)))))))))) (by kernel_rfl) ?_
   refine q_move rfl rfl rfl rfl ?_
   refine q_loadN_c rfl rfl rfl rfl Try.isAgg40 Try.sizeOf40 Tk 0 (us := [_, _, _]) (by first | rfl | exact (Nat.add_zero _).symm) rfl rfl ?_
   have sp_7 := rcan_spec kqp kqc kq (sN (newF th va vo lk pl) es i) (sN_inv (new_inv hok) es i) e.1 e.2.1 e.2.2
   refine l_call rfl rfl rfl rfl rfl rfl Try.call34 (sp_7) Ts ?_
   rintro ⟨⟩ -
   try simp only [List.cons_append, List.nil_append]
   refine ag_nil ?_
   refine q_move rfl rfl rfl rfl ?_
   refine s_bool_p 59 rfl (fun hg => ?_) (fun hg => by exfalso; exact hg hc1)
   refine q_field (k := 0) rfl rfl rfl rfl Try.underlying40 rfl Try.sizeOf38 rfl ?_
   refine q_load_c (j := 0) rfl rfl rfl rfl Try.isAgg38 Tk (by first | rfl | exact (Nat.add_zero _).symm) (by rfl) ?_
   refine q_int rfl rfl rfl rfl rfl (b_eql _ _ _ _) ?_
   refine q_pick_t rfl rfl rfl rfl rfl ?_
   refine r_done ?_
   refine s_keep [1, 6, 8, 9, 10, 11, 43, 44, 45, 60, 61, 62, 63] (e' := [(1, _), (6, _), (8, _), (9, _), (10, _), (11, _), (43, _), (44, _), (45, _), (60, _), (61, _), (62, _), (63, _)]) rfl ?_
   refine k_then_n ?_
   refine c_cond_p rfl (fun k10 => ?_) (fun k10 => ?_)
   ·
    have hrn : (stF (sN (newF th va vo lk pl) es i) e.2.1).2.2 = rnE (newF th va vo lk pl) es i := by rw [rnE_at he_, rndT, if_neg k9, if_pos k10]
    refine c_seq ?_
    refine c_plain (.q 0 (.q 1 (.q 2 ((.l 3 [] (.q 4 (.q 5 (.q 6 ((.l 7 [] ((.l 8 [] (.q 9 (.done)))))))))))))) (by kernel_rfl) ?_
    refine q_move rfl rfl rfl rfl ?_
    refine q_field (k := 1) rfl rfl rfl rfl Try.underlying40 rfl Try.sizeOf3 rfl ?_
    refine q_load_c (j := 1) rfl rfl rfl rfl Try.isAgg3 Tk (by first | rfl | exact (Nat.add_zero _).symm) (by rfl) ?_
    have sp_8 := rstand_spec kqp kqc kq (sN (newF th va vo lk pl) es i) (sN_inv (new_inv hok) es i) e.2.1
    refine l_call rfl rfl rfl rfl rfl rfl Try.call36 (sp_8) Ts ?_
    rintro ⟨⟩ -
    try simp only [List.cons_append, List.nil_append]
    refine ag_nil ?_
    refine q_move rfl rfl rfl rfl ?_
    refine q_extract rfl rfl rfl rfl rfl ?_
    refine q_extract rfl rfl rfl rfl rfl ?_
    refine l_alloc rfl rfl rfl Try.zeroValue79 (zs := [.int .i64 0, .int .i64 0, .int .i64 0]) rfl ?_
    intro b14
    refine ag_nil ?_
    refine l_store (j := 0) rfl rfl rfl rfl Try.sizeOf79 (us := [_, _, _]) rfl rfl rfl Tk (by first | rfl | exact (Nat.add_zero _).symm) (by first | decide | (simp; done) | omega) ?_
    simp only [setL, List.set]
    refine ag_nil ?_
    refine q_assign rfl rfl rfl rfl ?_
    refine r_done ?_
    refine s_keep [1, 6, 8, 9, 10, 14, 43, 44, 45, 60, 61, 62] (e' := [(1, _), (6, _), (8, _), (9, _), (10, _), (14, _), (43, _), (44, _), (45, _), (60, _), (61, _), (62, _)]) rfl ?_
    refine k_then_n ?_
    refine c_plain (.q 0 (.q 1 (.q 2 (.done)))) (by kernel_rfl) ?_
    refine q_field (k := 2) rfl rfl rfl rfl Try.underlying79 rfl Try.sizeOf3 rfl ?_
    refine q_load_c (j := 2) rfl rfl rfl rfl Try.isAgg3 Tk (by first | rfl | exact (Nat.add_zero _).symm) (by rfl) ?_
    refine q_assign rfl rfl rfl rfl ?_
    refine r_done ?_
    refine k_then_n ?_
    refine c_seq ?_
    refine c_seq ?_
    refine c_plain (.q 0 (.q 1 ((.l 2 [] (.q 3 (.done)))))) (by kernel_rfl) ?_
    refine q_move rfl rfl rfl rfl ?_
    refine q_loadN_c rfl rfl rfl rfl Try.isAgg40 Try.sizeOf40 Tk 0 (us := [_, _, _]) (by first | rfl | exact (Nat.add_zero _).symm) rfl rfl ?_
    have sp_9 := rnext_spec kqp kqc kq (sN (newF th va vo lk pl) es i) (sN_inv (new_inv hok) es i) (by omega) pl (((sN_sh _ _ _).1)) e.1 e.2.1 e.2.2
    refine l_call rfl rfl rfl rfl rfl rfl Try.call27 (sp_9) Ts ?_
    rintro ⟨⟩ -
    try simp only [List.cons_append, List.nil_append]
    refine ag_nil ?_
    refine q_int rfl rfl rfl rfl rfl (b_neq _ _ _ _) ?_
    refine r_done ?_
    refine s_keep [1, 6, 8, 9, 10, 11, 43, 44, 45, 60, 61, 62, 76] (e' := [(1, _), (6, _), (8, _), (9, _), (10, _), (11, _), (43, _), (44, _), (45, _), (60, _), (61, _), (62, _), (76, _)]) rfl ?_
    refine k_then_n ?_
    refine c_cond_p rfl (fun hg => by exfalso; exact hg (if_pos hc1)) (fun hg => ?_)
    refine c_skip ?_
    refine k_then_n ?_
    refine c_seq ?_
    refine c_draw rfl (.q 0 (.q 1 (.q 2 (.q 3 (.q 4 (.q 5 ((.l 6 [4] ((.l 7 [] (.q 8 (.q 9 ((.l 10 [] (.done))))))))))))))) (by kernel_rfl) ?_
    refine q_move rfl rfl rfl rfl ?_
    refine q_move rfl rfl rfl rfl ?_
    refine q_nil_p rfl rfl rfl rfl ?_
    refine q_field (k := 0) rfl rfl rfl rfl Try.underlying71 rfl Try.sizeOf25 rfl ?_
    refine q_load_c (j := 0) rfl rfl rfl rfl Try.isAgg25 Tk (by first | rfl | exact (Nat.add_zero _).symm) (by rfl) ?_
    refine q_loadN_c rfl rfl rfl rfl Try.isAgg40 Try.sizeOf40 Tk 0 (us := [_, _, _]) (by first | rfl | exact (Nat.add_zero _).symm) rfl rfl ?_
    refine l_buildSlice rfl rfl rfl rfl (run_build1 (us := [_, _, _]) Try.underlying25 Try.sizeOf40 rfl Try.zeroValue40 rfl rfl rfl) ?_
    intro b83
    refine ag_load_c (q := 0) rfl rfl rfl Try.isAgg25 Tk (by first | rfl | exact (Nat.add_zero _).symm) (by rfl) ?_
    refine ag_nil ?_
    refine l_append (sz := 3) (enc := enc3) (xs := (es.take i)) rfl rfl rfl rfl rfl Try.underlying25 Try.typeInfo40 rfl rfl rfl (by decide) Tk Tk (by first | rfl | omega | (simp; done) | (simp; omega)) (ys := [(e.1, e.2.1, e.2.2)]) (rds_some rdn_cells) (by rfl) (by first | rfl | omega) (enc3_len) (enc3_one) (by omega) (by show _ * 24 ≤ _; omega) ?_
    intro ao84 cp84
    refine ag_nil ?_
    refine q_nil_p rfl rfl rfl rfl ?_
    refine q_field (k := 0) rfl rfl rfl rfl Try.underlying71 rfl Try.sizeOf25 rfl ?_
    refine l_store (j := 0) rfl rfl rfl rfl Try.sizeOf25 (us := [_]) rfl rfl rfl Tk (by first | rfl | exact (Nat.add_zero _).symm) (by first | decide | (simp; done) | omega) ?_
    simp only [setL, List.set]
    refine ag_nil ?_
    refine r_done ?_
    refine s_keep [1, 6, 8, 9, 11, 43, 44, 45, 60, 61, 62] (e' := [(1, _), (6, _), (8, _), (9, _), (11, _), (43, _), (44, _), (45, _), (60, _), (61, _), (62, _)]) rfl ?_
    refine k_then_n ?_
    refine c_plain (.q 0 (.q 1 (.q 2 (.q 3 (.q 4 (.q 5 ((.l 6 [] ((.l 7 [] (.q 8 (.q 9 ((.l 10 [] (.done))))))))))))))) (by kernel_rfl) ?_
    refine q_move rfl rfl rfl rfl ?_
    refine q_move rfl rfl rfl rfl ?_
    refine q_nil_p rfl rfl rfl rfl ?_
    refine q_field (k := 1) rfl rfl rfl rfl Try.underlying71 rfl Try.sizeOf22 rfl ?_
    refine q_load_c (j := 1) rfl rfl rfl rfl Try.isAgg22 Tk (by first | rfl | exact (Nat.add_zero _).symm) (by rfl) ?_
    refine q_move rfl rfl rfl rfl ?_
    refine s_eq 92 rfl (v' := .int .i64 (rnE (newF th va vo lk pl) es i)) (by rw [hrn]) ?_
    refine l_buildSlice rfl rfl rfl rfl (run_build1 (us := [_]) Try.underlying22 Try.sizeOf3 rfl Try.zeroValue3 rfl rfl rfl) ?_
    intro b93
    refine ag_nil ?_
    refine l_append (sz := 1) (enc := encZ) (xs := (mks (rnE (newF th va vo lk pl) es) i)) rfl rfl rfl rfl rfl Try.underlying22 Try.typeInfo3 rfl rfl rfl (by decide) Tk Tk (by exact mks_len _ _) (ys := [(rnE (newF th va vo lk pl) es i)]) (rds_some rdn_cells) (by rfl) (by first | rfl | omega) (encZ_len) (encZ_one) (by omega) (by show _ * 8 ≤ _; omega) ?_
    intro ao94 cp94
    refine ag_nil ?_
    refine q_nil_p rfl rfl rfl rfl ?_
    refine q_field (k := 1) rfl rfl rfl rfl Try.underlying71 rfl Try.sizeOf22 rfl ?_
    refine l_store (j := 1) rfl rfl rfl rfl Try.sizeOf22 (us := [_]) rfl rfl rfl Tk (by first | rfl | exact (Nat.add_zero _).symm) (by first | decide | (simp; done) | omega) ?_
    simp only [setL, List.set]
    refine ag_nil ?_
    refine r_done ?_
    refine s_keep [1, 6, 8, 9, 43, 44, 45, 60, 61, 62] (e' := [(1, _), (6, _), (8, _), (9, _), (43, _), (44, _), (45, _), (60, _), (61, _), (62, _)]) rfl ?_
    refine k_blk_n ?_
    refine k_then_n ?_
    refine c_plain (.q 0 (.q 1 (.q 2 (.done)))) (by kernel_rfl) ?_
    refine q_move rfl rfl rfl rfl ?_
    refine q_int rfl rfl rfl rfl rfl (b_add' _ (by exact fits_i64 (by omega) (by omega))) ?_
    refine q_assign rfl rfl rfl rfl ?_
    refine r_done ?_
    refine k_then_n ?_
    rw [← sN_next he_, ← take_next he_, mks_next]
    refine loop_next (x := (i, ga, gc, qa, qc)) ((i + 1, ao84, cp84, ao94, cp94)) ?_ ?_ ?_ ?_
    · try dsimp only
      exact ⟨by omega, allC_next hI he_ hc1⟩
    · show m - (i + 1) < m - i; omega
    · exact ⟨rfl, rfl, rfl, rfl, trivial⟩
    · (try simp only [List.cons_append, List.nil_append]); exact Tf
   ·
    have hrn : (0 : Int) = rnE (newF th va vo lk pl) es i := by rw [rnE_at he_, rndT, if_neg k9, if_neg k10]
    refine c_skip ?_
    refine k_then_n ?_
    refine c_seq ?_
    refine c_seq ?_
    refine c_plain (.q 0 (.q 1 ((.l 2 [] (.q 3 (.done)))))) (by kernel_rfl) ?_
    refine q_move rfl rfl rfl rfl ?_
    refine q_loadN_c rfl rfl rfl rfl Try.isAgg40 Try.sizeOf40 Tk 0 (us := [_, _, _]) (by first | rfl | exact (Nat.add_zero _).symm) rfl rfl ?_
    have sp_10 := rnext_spec kqp kqc kq (sN (newF th va vo lk pl) es i) (sN_inv (new_inv hok) es i) (by omega) pl (((sN_sh _ _ _).1)) e.1 e.2.1 e.2.2
    refine l_call rfl rfl rfl rfl rfl rfl Try.call27 (sp_10) Ts ?_
    rintro ⟨⟩ -
    try simp only [List.cons_append, List.nil_append]
    refine ag_nil ?_
    refine q_int rfl rfl rfl rfl rfl (b_neq _ _ _ _) ?_
    refine r_done ?_
    refine s_keep [1, 6, 8, 9, 10, 11, 43, 44, 45, 60, 61, 62, 76] (e' := [(1, _), (6, _), (8, _), (9, _), (10, _), (11, _), (43, _), (44, _), (45, _), (60, _), (61, _), (62, _), (76, _)]) rfl ?_
    refine k_then_n ?_
    refine c_cond_p rfl (fun hg => by exfalso; exact hg (if_pos hc1)) (fun hg => ?_)
    refine c_skip ?_
    refine k_then_n ?_
    refine c_seq ?_
    refine c_draw rfl (.q 0 (.q 1 (.q 2 (.q 3 (.q 4 (.q 5 ((.l 6 [4] ((.l 7 [] (.q 8 (.q 9 ((.l 10 [] (.done))))))))))))))) (by kernel_rfl) ?_
    refine q_move rfl rfl rfl rfl ?_
    refine q_move rfl rfl rfl rfl ?_
    refine q_nil_p rfl rfl rfl rfl ?_
    refine q_field (k := 0) rfl rfl rfl rfl Try.underlying71 rfl Try.sizeOf25 rfl ?_
    refine q_load_c (j := 0) rfl rfl rfl rfl Try.isAgg25 Tk (by first | rfl | exact (Nat.add_zero _).symm) (by rfl) ?_
    refine q_loadN_c rfl rfl rfl rfl Try.isAgg40 Try.sizeOf40 Tk 0 (us := [_, _, _]) (by first | rfl | exact (Nat.add_zero _).symm) rfl rfl ?_
    refine l_buildSlice rfl rfl rfl rfl (run_build1 (us := [_, _, _]) Try.underlying25 Try.sizeOf40 rfl Try.zeroValue40 rfl rfl rfl) ?_
    intro b83
    refine ag_load_c (q := 0) rfl rfl rfl Try.isAgg25 Tk (by first | rfl | exact (Nat.add_zero _).symm) (by rfl) ?_
    refine ag_nil ?_
    refine l_append (sz := 3) (enc := enc3) (xs := (es.take i)) rfl rfl rfl rfl rfl Try.underlying25 Try.typeInfo40 rfl rfl rfl (by decide) Tk Tk (by first | rfl | omega | (simp; done) | (simp; omega)) (ys := [(e.1, e.2.1, e.2.2)]) (rds_some rdn_cells) (by rfl) (by first | rfl | omega) (enc3_len) (enc3_one) (by omega) (by show _ * 24 ≤ _; omega) ?_
    intro ao84 cp84
    refine ag_nil ?_
    refine q_nil_p rfl rfl rfl rfl ?_
    refine q_field (k := 0) rfl rfl rfl rfl Try.underlying71 rfl Try.sizeOf25 rfl ?_
    refine l_store (j := 0) rfl rfl rfl rfl Try.sizeOf25 (us := [_]) rfl rfl rfl Tk (by first | rfl | exact (Nat.add_zero _).symm) (by first | decide | (simp; done) | omega) ?_
    simp only [setL, List.set]
    refine ag_nil ?_
    refine r_done ?_
    refine s_keep [1, 6, 8, 9, 11, 43, 44, 45, 60, 61, 62] (e' := [(1, _), (6, _), (8, _), (9, _), (11, _), (43, _), (44, _), (45, _), (60, _), (61, _), (62, _)]) rfl ?_
    refine k_then_n ?_
    refine c_plain (.q 0 (.q 1 (.q 2 (.q 3 (.q 4 (.q 5 ((.l 6 [] ((.l 7 [] (.q 8 (.q 9 ((.l 10 [] (.done))))))))))))))) (by kernel_rfl) ?_
    refine q_move rfl rfl rfl rfl ?_
    refine q_move rfl rfl rfl rfl ?_
    refine q_nil_p rfl rfl rfl rfl ?_
    refine q_field (k := 1) rfl rfl rfl rfl Try.underlying71 rfl Try.sizeOf22 rfl ?_
    refine q_load_c (j := 1) rfl rfl rfl rfl Try.isAgg22 Tk (by first | rfl | exact (Nat.add_zero _).symm) (by rfl) ?_
    refine q_move rfl rfl rfl rfl ?_
    refine s_eq 92 rfl (v' := .int .i64 (rnE (newF th va vo lk pl) es i)) (by rw [hrn]) ?_
    refine l_buildSlice rfl rfl rfl rfl (run_build1 (us := [_]) Try.underlying22 Try.sizeOf3 rfl Try.zeroValue3 rfl rfl rfl) ?_
    intro b93
    refine ag_nil ?_
    refine l_append (sz := 1) (enc := encZ) (xs := (mks (rnE (newF th va vo lk pl) es) i)) rfl rfl rfl rfl rfl Try.underlying22 Try.typeInfo3 rfl rfl rfl (by decide) Tk Tk (by exact mks_len _ _) (ys := [(rnE (newF th va vo lk pl) es i)]) (rds_some rdn_cells) (by rfl) (by first | rfl | omega) (encZ_len) (encZ_one) (by omega) (by show _ * 8 ≤ _; omega) ?_
    intro ao94 cp94
    refine ag_nil ?_
    refine q_nil_p rfl rfl rfl rfl ?_
    refine q_field (k := 1) rfl rfl rfl rfl Try.underlying71 rfl Try.sizeOf22 rfl ?_
    refine l_store (j := 1) rfl rfl rfl rfl Try.sizeOf22 (us := [_]) rfl rfl rfl Tk (by first | rfl | exact (Nat.add_zero _).symm) (by first | decide | (simp; done) | omega) ?_
    simp only [setL, List.set]
    refine ag_nil ?_
    refine r_done ?_
    refine s_keep [1, 6, 8, 9, 43, 44, 45, 60, 61, 62] (e' := [(1, _), (6, _), (8, _), (9, _), (43, _), (44, _), (45, _), (60, _), (61, _), (62, _)]) rfl ?_
    refine k_blk_n ?_
    refine k_then_n ?_
    refine c_plain (.q 0 (.q 1 (.q 2 (.done)))) (by kernel_rfl) ?_
    refine q_move rfl rfl rfl rfl ?_
    refine q_int rfl rfl rfl rfl rfl (b_add' _ (by exact fits_i64 (by omega) (by omega))) ?_
    refine q_assign rfl rfl rfl rfl ?_
    refine r_done ?_
    refine k_then_n ?_
    rw [← sN_next he_, ← take_next he_, mks_next]
    refine loop_next (x := (i, ga, gc, qa, qc)) ((i + 1, ao84, cp84, ao94, cp94)) ?_ ?_ ?_ ?_
    · try dsimp only
      exact ⟨by omega, allC_next hI he_ hc1⟩
    · show m - (i + 1) < m - i; omega
    · exact ⟨rfl, rfl, rfl, rfl, trivial⟩
    · (try simp only [List.cons_append, List.nil_append]); exact Tf
 ·
  obtain rfl : m = i := by omega
  refine c_exit ?_
  refine k_then_exit ?_
  refine k_then_exit ?_
  refine k_blk_here ?_
  refine k_then_n ?_
  refine c_seq ?_
  rw [List.take_of_length_le (show es.length ≤ m by omega)]
  refine c_plain (.q 0 ((.l 1 [] (.done)))) (by kernel_rfl) ?_
  refine q_move rfl rfl rfl rfl ?_
  have sp_11 := oclose_spec b28 m gc qc ga qa es (mks (rnE (newF th va vo lk pl) es) m) hem (mks_len _ _) (by omega)
  refine l_call rfl rfl rfl rfl rfl rfl Try.call37 (sp_11) Ts ?_
  rintro ⟨⟩ -
  try simp only [List.cons_append, List.nil_append]
  refine ag_nil ?_
  refine r_done ?_
  refine s_keep [8] (e' := [(8, _)]) rfl ?_
  refine k_then_n ?_
  refine c_seq ?_
  refine c_plain (.q 0 (.q 1 (.q 2 (.done)))) (by kernel_rfl) ?_
  refine q_move rfl rfl rfl rfl ?_
  refine q_assign rfl rfl rfl rfl ?_
  refine q_assign rfl rfl rfl rfl ?_
  refine r_done ?_
  refine k_then_n ?_
  refine c_ret ?_
  rw [show mks (rnE (newF th va vo lk pl) es) m = rnds (newF th va vo lk pl) es from by rw [rnds, hem]]
  refine ret2 rfl rfl rfl (b28) (by first | rfl | (first | rfl | (congr 1; done) | (congr 1 <;> first | rfl | omega | (simp; done) | (simp; omega)))) (by trivial) ?_
  exact Tf
theorem onewbad1_spec (th va vo lk : Int) (pl : List Int) (ao : Option Addr) (n c : Nat) (A : HProp) (hr : RdS A ao (pl.flatMap encZ)) (hn : pl.length = n) (hb : n ≤ 4000000) (es : List T3) (eo : Option Addr) (m ec : Nat) (he : RdS A eo (es.flatMap enc3)) (hem : es.length = m) (hmb : m ≤ 4000000) (hok : OkS th va vo lk pl) (hbad : ¬ (es.length ≤ 2048 ∧ allC (newF th va vo lk pl) es es.length)) : Spec Try.prog 9 [.agg #[.int .i64 th, .int .i64 va, .int .i64 vo, .int .i64 lk, .slice ao n c], .slice eo m ec] [A] (fun (r : Int) => .tuple #[.pointer none, .int .i64 r]) (fun r => r ≠ 0) (fun r => [A]) := by
 refine spec_mk (n := 100) Try.func9 rfl rfl rfl ?_
 intro Γ w0
 simp only [argE, List.cons_append, List.nil_append, Nat.zero_add, Nat.reduceAdd]
 refine c_seq ?_
 refine c_plain ((.l 0 [] (.q 1 (.q 2 (.done))))) (by kernel_rfl) ?_
 refine l_box rfl rfl rfl rfl (us := [_, _, _, _, _]) rfl ?_
 intro b2
 refine ag_nil ?_
 refine q_assign rfl rfl rfl rfl ?_
 refine q_assign rfl rfl rfl rfl ?_
 refine r_done ?_
 refine k_then_n ?_
 refine c_seq ?_
 refine c_seq ?_
 refine c_plain (.q 0 ((.l 1 [] (.q 2 (.done))))) (by kernel_rfl) ?_
 refine q_loadN_c rfl rfl rfl rfl Try.isAgg24 Try.sizeOf24 Tk 0 (us := [_, _, _, _, _]) (by first | rfl | exact (Nat.add_zero _).symm) rfl rfl ?_
 have sp_1 := rshape_spec th va vo lk pl ao n c A (hr) (by first | rfl | assumption | omega | (simp; done) | (simp; omega)) (by omega)
 refine l_call rfl rfl rfl rfl rfl rfl Try.call33 (sp_1) Ts ?_
 rintro ⟨⟩ -
 try simp only [List.cons_append, List.nil_append]
 refine ag_nil ?_
 refine s_eq 17 rfl (v' := .int .i64 0) (by rw [if_pos hok]) ?_
 refine q_int rfl rfl rfl rfl rfl (b_neq _ _ _ _) ?_
 refine s_eq 18 rfl (v' := .bool false) (by first | rfl | simp) ?_
 refine r_done ?_
 refine s_keep [1, 2, 18] (e' := [(1, _), (2, _), (18, _)]) rfl ?_
 refine k_then_n ?_
 refine c_cond_f rfl ?_
 refine c_skip ?_
 refine k_then_n ?_
 refine c_seq ?_
 refine c_seq ?_
 refine c_plain (.q 0 (.q 1 (.q 2 (.done)))) (by kernel_rfl) ?_
 refine q_move rfl rfl rfl rfl ?_
 refine q_len rfl rfl rfl rfl Try.underlying25 ?_
 refine q_int rfl rfl rfl rfl rfl (b_gtr _ _ _ _) ?_
 refine r_done ?_
 refine k_then_n ?_
 refine c_cond_p rfl (fun hlen => ?_) (fun hlen => ?_)
 ·
  refine c_seq ?_
  refine c_plain (.q 0 (.q 1 (.done))) (by kernel_rfl) ?_
  refine q_assign rfl rfl rfl rfl ?_
  refine q_assign rfl rfl rfl rfl ?_
  refine r_done ?_
  refine s_keep [4, 5] (e' := [(4, _), (5, _)]) rfl ?_
  refine k_then_n ?_
  refine c_ret ?_
  refine k_then_ret ?_
  refine ret2 rfl rfl rfl (3) (by first | rfl | (first | rfl | (congr 1; done) | (congr 1 <;> first | rfl | omega | (simp; done) | (simp; omega)))) (by decide) ?_
  exact Tf
 ·
  refine c_skip ?_
  refine k_then_n ?_
  refine c_seq ?_
  refine c_plain (.q 0 ((.l 1 [] (.q 2 (.q 3 (.q 4 (.q 5 (.q 6 (.done))))))))) (by kernel_rfl) ?_
  refine q_loadN_c rfl rfl rfl rfl Try.isAgg24 Try.sizeOf24 Tk 0 (us := [_, _, _, _, _]) (by first | rfl | exact (Nat.add_zero _).symm) rfl rfl ?_
  have sp_2 := rnew_spec th va vo lk pl ao n c A (hr) (by first | rfl | assumption | omega | (simp; done) | (simp; omega)) (by omega) hok
  refine l_call rfl rfl rfl rfl rfl rfl Try.call24 (sp_2) Ts ?_
  rintro ⟨kq, kqp, kqc⟩ -
  try simp only [List.cons_append, List.nil_append]
  refine ag_nil ?_
  refine q_move rfl rfl rfl rfl ?_
  refine q_extract rfl rfl rfl rfl rfl ?_
  refine q_extract rfl rfl rfl rfl rfl ?_
  refine q_assign rfl rfl rfl rfl ?_
  refine q_assign rfl rfl rfl rfl ?_
  refine r_done ?_
  refine s_keep [1, 6] (e' := [(1, _), (6, _)]) rfl ?_
  refine k_then_n ?_
  refine c_seq ?_
  refine c_plain (.q 0 ((.l 1 [] (.q 2 (.done))))) (by kernel_rfl) ?_
  refine q_build rfl rfl rfl rfl (vs := [_, _, _]) (run_buildS Try.underlying71 Try.zeroValue71 (ps := [(0, 1), (1, 1), (2, 1)]) ⟨rfl, Try.sizeOf25, rfl, Try.sizeOf22, rfl, Try.sizeOf69, trivial⟩ rfl) ?_
  refine l_box rfl rfl rfl rfl (us := [_, _, _]) rfl ?_
  intro b28
  refine ag_nil ?_
  refine q_assign rfl rfl rfl rfl ?_
  refine r_done ?_
  refine s_heap (fun _ h => own_nil (sz := 3) (enc := enc3) h) ?_
  refine s_heap (fun _ h => own_nil (sz := 1) (enc := encZ) h) ?_
  refine k_then_n ?_
  refine c_seq ?_
  refine c_seq ?_
  refine c_plain (.q 0 (.done)) (by kernel_rfl) ?_
  refine q_assign rfl rfl rfl rfl ?_
  refine r_done ?_
  refine k_then_n ?_
  refine c_block ?_
  refine c_loop2 (α := Nat × Option Addr × Nat × Option Addr × Nat) (fun (x_ : Nat × Option Addr × Nat × Option Addr × Nat) => match x_ with | (i, ga, gc, qa, qc) => i ≤ m ∧ (allC (newF th va vo lk pl) es i)) (fun (x_ : Nat × Option Addr × Nat × Option Addr × Nat) => match x_ with | (i, ga, gc, qa, qc) => [(9, .int .i64 ((i : Nat) : Int))]) (fun (x_ : Nat × Option Addr × Nat × Option Addr × Nat) => match x_ with | (i, ga, gc, qa, qc) => [rk kqp kqc kq (sN (newF th va vo lk pl) es i), own 1 encZ kqp kqc pl, cells b28 0 [.slice ga i gc, .slice qa i qc, .slice none 0 0], own 3 enc3 ga gc (es.take i), own 1 encZ qa qc (mks (rnE (newF th va vo lk pl) es) i)]) (fun (x_ : Nat × Option Addr × Nat × Option Addr × Nat) => match x_ with | (i, ga, gc, qa, qc) => m - i) [1, 6, 8] (er := [(1, _), (6, _), (8, _)]) rfl (0, none, 0, none, 0) ?_ (by exact ⟨rfl, trivial⟩) (by (try dsimp only); rw [sN_zero]; (repeat ((with_reducible apply Z2); focus (first | (with_reducible (repeat (first | exact Z0 | apply Z1)); done) | (repeat (first | exact Z0 | apply Z1))))); exact Z3) ?_
  · exact ⟨Nat.zero_le _, allC_zero _ _⟩
  rintro ⟨i, ga, gc, qa, qc⟩ ⟨hle_i, hI⟩
  try simp only [List.cons_append, List.nil_append]
  have hsn := (sN_n (newF th va vo lk pl) es i).2
  have hz0 : (newF th va vo lk pl).n = 0 := rfl
  refine c_seq ?_
  refine c_seq ?_
  refine c_plain (.q 0 (.q 1 (.q 2 (.q 3 (.done))))) (by kernel_rfl) ?_
  refine q_move rfl rfl rfl rfl ?_
  refine q_move rfl rfl rfl rfl ?_
  refine q_len rfl rfl rfl rfl Try.underlying25 ?_
  refine q_int rfl rfl rfl rfl rfl (b_lss _ _ _ _) ?_
  refine r_done ?_
  refine k_then_n ?_
  refine c_cond_p rfl (fun hlt => ?_) (fun hlt => ?_)
  ·
   obtain ⟨e, he_⟩ := get_lt (l := es) (i := i) (by omega)
   refine c_skip ?_
   refine k_then_n ?_
   refine c_seq ?_
   refine c_block ?_
   refine c_seq ?_
   refine c_plain (.q 0 (.q 1 (.q 2 (.q 3 ((.l 4 [] ((.l 5 [] (.done))))))))) (by kernel_rfl) ?_
   refine q_move rfl rfl rfl rfl ?_
   refine q_move rfl rfl rfl rfl ?_
   refine q_idxR (sz := 2) (k := i) rfl rfl rfl rfl rfl Try.underlying25 Try.sizeOf40 (he) he_ enc3_len (by first | rfl | omega) (by omega) ?_
   intro ib37 io37 _ hd37
   refine q_loadN (vs := [_, _, _]) rfl rfl rfl rfl Try.isAgg40 Try.sizeOf40 Tk (hd37) rfl ?_
   refine l_alloc rfl rfl rfl Try.zeroValue40 (zs := [.int .i64 0, .int .i64 0, .int .i64 0]) rfl ?_
   intro b10
   refine ag_nil ?_
   refine l_store (j := 0) rfl rfl rfl rfl Try.sizeOf40 (us := [_, _, _]) rfl rfl rfl Tk (by first | rfl | exact (Nat.add_zero _).symm) (by first | decide | (simp; done) | omega) ?_
   simp only [setL, List.set]
   refine ag_nil ?_
   refine r_done ?_
   refine s_keep [1, 6, 8, 9, 10] (e' := [(1, _), (6, _), (8, _), (9, _), (10, _)]) rfl ?_
   refine k_then_n ?_
   refine c_seq ?_
   refine c_plain (.q 0 (.done)) (by kernel_rfl) ?_
   refine q_assign rfl rfl rfl rfl ?_
   refine r_done ?_
   refine k_then_n ?_
   refine c_seq ?_
   refine c_seq ?_
   refine c_plain (.q 0 (.q 1 ((.l 2 [] (.q 3 (.q 4 (.q 5 (.q 6 (.q 7 (.done)))))))))) (by kernel_rfl) ?_
   refine q_move rfl rfl rfl rfl ?_
   refine q_loadN_c rfl rfl rfl rfl Try.isAgg40 Try.sizeOf40 Tk 0 (us := [_, _, _]) (by first | rfl | exact (Nat.add_zero _).symm) rfl rfl ?_
   have sp_3 := rcan_spec kqp kqc kq (sN (newF th va vo lk pl) es i) (sN_inv (new_inv hok) es i) e.1 e.2.1 e.2.2
   refine l_call rfl rfl rfl rfl rfl rfl Try.call34 (sp_3) Ts ?_
   rintro ⟨⟩ -
   try simp only [List.cons_append, List.nil_append]
   refine ag_nil ?_
   refine q_move rfl rfl rfl rfl ?_
   refine s_bool_p 42 rfl (fun hc1 => ?_) (fun hc1 => ?_)
   ·
    refine q_field (k := 0) rfl rfl rfl rfl Try.underlying40 rfl Try.sizeOf38 rfl ?_
    refine q_load_c (j := 0) rfl rfl rfl rfl Try.isAgg38 Tk (by first | rfl | exact (Nat.add_zero _).symm) (by rfl) ?_
    refine q_int rfl rfl rfl rfl rfl (b_eql _ _ _ _) ?_
    refine q_pick_t rfl rfl rfl rfl rfl ?_
    refine r_done ?_
    refine s_keep [1, 6, 8, 9, 10, 11, 43, 44, 45, 46] (e' := [(1, _), (6, _), (8, _), (9, _), (10, _), (11, _), (43, _), (44, _), (45, _), (46, _)]) rfl ?_
    refine k_then_n ?_
    refine c_cond_p rfl (fun k9 => ?_) (fun k9 => ?_)
    ·
     have hyes : 0 ≤ e.2.2 ∧ e.2.2 < ((sN (newF th va vo lk pl) es i).B.length : Int) := by
       obtain ⟨p0, p1, -⟩ := (can_obj (sN_inv (new_inv hok) es i) hc1).2.2.1 k9
       exact ⟨p0, by omega⟩
     have hrn : (opF (sN (newF th va vo lk pl) es i) e.2.2).1 = rnE (newF th va vo lk pl) es i := by rw [rnE_at he_, rndT, if_pos k9]
     refine c_seq ?_
     refine c_plain (.q 0 (.q 1 (.q 2 ((.l 3 [] (.q 4 (.q 5 (.q 6 ((.l 7 [] ((.l 8 [] (.q 9 (.done)))))))))))))) (by kernel_rfl) ?_
     refine q_move rfl rfl rfl rfl ?_
     refine q_field (k := 2) rfl rfl rfl rfl Try.underlying40 rfl Try.sizeOf3 rfl ?_
     refine q_load_c (j := 2) rfl rfl rfl rfl Try.isAgg3 Tk (by first | rfl | exact (Nat.add_zero _).symm) (by rfl) ?_
     have sp_4 := rround_spec kqp kqc kq (sN (newF th va vo lk pl) es i) e.2.2
     refine l_call rfl rfl rfl rfl rfl rfl Try.call35 (sp_4) Ts ?_
     rintro ⟨⟩ -
     try simp only [List.cons_append, List.nil_append]
     refine ag_nil ?_
     refine s_eq 51 rfl (v' := .tuple #[.agg #[.int .i64 ((opF (sN (newF th va vo lk pl) es i) e.2.2).1), .int .i64 ((opF (sN (newF th va vo lk pl) es i) e.2.2).2)], .int .i64 0]) (by rw [if_pos hyes, if_pos hyes]) ?_
     refine q_move rfl rfl rfl rfl ?_
     refine q_extract rfl rfl rfl rfl rfl ?_
     refine q_extract rfl rfl rfl rfl rfl ?_
     refine l_alloc rfl rfl rfl Try.zeroValue74 (zs := [.int .i64 0, .int .i64 0]) rfl ?_
     intro b12
     refine ag_nil ?_
     refine l_store (j := 0) rfl rfl rfl rfl Try.sizeOf74 (us := [_, _]) rfl rfl rfl Tk (by first | rfl | exact (Nat.add_zero _).symm) (by first | decide | (simp; done) | omega) ?_
     simp only [setL, List.set]
     refine ag_nil ?_
     refine q_assign rfl rfl rfl rfl ?_
     refine r_done ?_
     refine s_keep [1, 6, 8, 9, 10, 12, 43, 44, 45] (e' := [(1, _), (6, _), (8, _), (9, _), (10, _), (12, _), (43, _), (44, _), (45, _)]) rfl ?_
     refine k_then_n ?_
     refine c_plain (.q 0 (.q 1 (.q 2 (.done)))) (by kernel_rfl) ?_
     refine q_field (k := 0) rfl rfl rfl rfl Try.underlying74 rfl Try.sizeOf3 rfl ?_
     refine q_load_c (j := 0) rfl rfl rfl rfl Try.isAgg3 Tk (by first | rfl | exact (Nat.add_zero _).symm) (by rfl) ?_
     refine q_assign rfl rfl rfl rfl ?_
     refine r_done ?_
     refine k_then_n ?_
     refine c_seq ?_
     refine c_seq ?_
     refine c_plain (.q 0 (.q 1 ((.l 2 [] (.q 3 (.q 4 (.q 5 (.q 6 (.q 7 (.done)))))))))) (by kernel_rfl) ?_
     refine q_move rfl rfl rfl rfl ?_
     refine q_loadN_c rfl rfl rfl rfl Try.isAgg40 Try.sizeOf40 Tk 0 (us := [_, _, _]) (by first | rfl | exact (Nat.add_zero _).symm) rfl rfl ?_
     have sp_5 := rcan_spec kqp kqc kq (sN (newF th va vo lk pl) es i) (sN_inv (new_inv hok) es i) e.1 e.2.1 e.2.2
     refine l_call rfl rfl rfl rfl rfl rfl Try.call34 (sp_5) Ts ?_
     rintro ⟨⟩ -
     try simp only [List.cons_append, List.nil_append]
     refine ag_nil ?_
     refine q_move rfl rfl rfl rfl ?_
     refine s_bool_p 59 rfl (fun hg => ?_) (fun hg => by exfalso; exact hg hc1)
     refine q_field (k := 0) rfl rfl rfl rfl Try.underlying40 rfl Try.sizeOf38 rfl ?_
     refine q_load_c (j := 0) rfl rfl rfl rfl Try.isAgg38 Tk (by first | rfl | exact (Nat.add_zero _).symm) (by rfl) ?_
     refine q_int rfl rfl rfl rfl rfl (b_eql _ _ _ _) ?_
     refine q_pick_t rfl rfl rfl rfl rfl ?_
     refine r_done ?_
     refine s_keep [1, 6, 8, 9, 10, 11, 43, 44, 45, 60, 61, 62, 63] (e' := [(1, _), (6, _), (8, _), (9, _), (10, _), (11, _), (43, _), (44, _), (45, _), (60, _), (61, _), (62, _), (63, _)]) rfl ?_
     refine k_then_n ?_
     refine c_cond_p rfl (fun hg => by exfalso; omega) (fun hg => ?_)
     refine c_skip ?_
     refine k_then_n ?_
     refine c_seq ?_
     refine c_seq ?_
     refine c_plain (.q 0 (.q 1 ((.l 2 [] (.q 3 (.done)))))) (by kernel_rfl) ?_
     refine q_move rfl rfl rfl rfl ?_
     refine q_loadN_c rfl rfl rfl rfl Try.isAgg40 Try.sizeOf40 Tk 0 (us := [_, _, _]) (by first | rfl | exact (Nat.add_zero _).symm) rfl rfl ?_
     have sp_6 := rnext_spec kqp kqc kq (sN (newF th va vo lk pl) es i) (sN_inv (new_inv hok) es i) (by omega) pl (((sN_sh _ _ _).1)) e.1 e.2.1 e.2.2
     refine l_call rfl rfl rfl rfl rfl rfl Try.call27 (sp_6) Ts ?_
     rintro ⟨⟩ -
     try simp only [List.cons_append, List.nil_append]
     refine ag_nil ?_
     refine q_int rfl rfl rfl rfl rfl (b_neq _ _ _ _) ?_
     refine r_done ?_
     refine s_keep [1, 6, 8, 9, 10, 11, 43, 44, 45, 60, 61, 62, 76] (e' := [(1, _), (6, _), (8, _), (9, _), (10, _), (11, _), (43, _), (44, _), (45, _), (60, _), (61, _), (62, _), (76, _)]) rfl ?_
     refine k_then_n ?_
     refine c_cond_p rfl (fun hg => by exfalso; exact hg (if_pos hc1)) (fun hg => ?_)
     refine c_skip ?_
     refine k_then_n ?_
     refine c_seq ?_
     refine c_draw rfl (.q 0 (.q 1 (.q 2 (.q 3 (.q 4 (.q 5 ((.l 6 [4] ((.l 7 [] (.q 8 (.q 9 ((.l 10 [] (.done))))))))))))))) (by kernel_rfl) ?_
     refine q_move rfl rfl rfl rfl ?_
     refine q_move rfl rfl rfl rfl ?_
     refine q_nil_p rfl rfl rfl rfl ?_
     refine q_field (k := 0) rfl rfl rfl rfl Try.underlying71 rfl Try.sizeOf25 rfl ?_
     refine q_load_c (j := 0) rfl rfl rfl rfl Try.isAgg25 Tk (by first | rfl | exact (Nat.add_zero _).symm) (by rfl) ?_
     refine q_loadN_c rfl rfl rfl rfl Try.isAgg40 Try.sizeOf40 Tk 0 (us := [_, _, _]) (by first | rfl | exact (Nat.add_zero _).symm) rfl rfl ?_
     refine l_buildSlice rfl rfl rfl rfl (run_build1 (us := [_, _, _]) Try.underlying25 Try.sizeOf40 rfl Try.zeroValue40 rfl rfl rfl) ?_
     intro b83
     refine ag_load_c (q := 0) rfl rfl rfl Try.isAgg25 Tk (by first | rfl | exact (Nat.add_zero _).symm) (by rfl) ?_
     refine ag_nil ?_
     refine l_append (sz := 3) (enc := enc3) (xs := (es.take i)) rfl rfl rfl rfl rfl Try.underlying25 Try.typeInfo40 rfl rfl rfl (by decide) Tk Tk (by first | rfl | omega | (simp; done) | (simp; omega)) (ys := [(e.1, e.2.1, e.2.2)]) (rds_some rdn_cells) (by rfl) (by first | rfl | omega) (enc3_len) (enc3_one) (by omega) (by show _ * 24 ≤ _; omega) ?_
     intro ao84 cp84
     refine ag_nil ?_
     refine q_nil_p rfl rfl rfl rfl ?_
     refine q_field (k := 0) rfl rfl rfl rfl Try.underlying71 rfl Try.sizeOf25 rfl ?_
     refine l_store (j := 0) rfl rfl rfl rfl Try.sizeOf25 (us := [_]) rfl rfl rfl Tk (by first | rfl | exact (Nat.add_zero _).symm) (by first | decide | (simp; done) | omega) ?_
     simp only [setL, List.set]
     refine ag_nil ?_
     refine r_done ?_
     refine s_keep [1, 6, 8, 9, 11, 43, 44, 45, 60, 61, 62] (e' := [(1, _), (6, _), (8, _), (9, _), (11, _), (43, _), (44, _), (45, _), (60, _), (61, _), (62, _)]) rfl ?_
     refine k_then_n ?_
     refine c_plain (.q 0 (.q 1 (.q 2 (.q 3 (.q 4 (.q 5 ((.l 6 [] ((.l 7 [] (.q 8 (.q 9 ((.l 10 [] (.done))))))))))))))) (by kernel_rfl) ?_
     refine q_move rfl rfl rfl rfl ?_
     refine q_move rfl rfl rfl rfl ?_
     refine q_nil_p rfl rfl rfl rfl ?_
     refine q_field (k := 1) rfl rfl rfl rfl Try.underlying71 rfl Try.sizeOf22 rfl ?_
     refine q_load_c (j := 1) rfl rfl rfl rfl Try.isAgg22 Tk (by first | rfl | exact (Nat.add_zero _).symm) (by rfl) ?_
     refine q_move rfl rfl rfl rfl ?_
     refine s_eq 92 rfl (v' := .int .i64 (rnE (newF th va vo lk pl) es i)) (by rw [hrn]) ?_
     refine l_buildSlice rfl rfl rfl rfl (run_build1 (us := [_]) Try.underlying22 Try.sizeOf3 rfl Try.zeroValue3 rfl rfl rfl) ?_
     intro b93
     refine ag_nil ?_
     refine l_append (sz := 1) (enc := encZ) (xs := (mks (rnE (newF th va vo lk pl) es) i)) rfl rfl rfl rfl rfl Try.underlying22 Try.typeInfo3 rfl rfl rfl (by decide) Tk Tk (by exact mks_len _ _) (ys := [(rnE (newF th va vo lk pl) es i)]) (rds_some rdn_cells) (by rfl) (by first | rfl | omega) (encZ_len) (encZ_one) (by omega) (by show _ * 8 ≤ _; omega) ?_
     intro ao94 cp94
     refine ag_nil ?_
     refine q_nil_p rfl rfl rfl rfl ?_
     refine q_field (k := 1) rfl rfl rfl rfl Try.underlying71 rfl Try.sizeOf22 rfl ?_
     refine l_store (j := 1) rfl rfl rfl rfl Try.sizeOf22 (us := [_]) rfl rfl rfl Tk (by first | rfl | exact (Nat.add_zero _).symm) (by first | decide | (simp; done) | omega) ?_
     simp only [setL, List.set]
     refine ag_nil ?_
     refine r_done ?_
     refine s_keep [1, 6, 8, 9, 43, 44, 45, 60, 61, 62] (e' := [(1, _), (6, _), (8, _), (9, _), (43, _), (44, _), (45, _), (60, _), (61, _), (62, _)]) rfl ?_
     refine k_blk_n ?_
     refine k_then_n ?_
     refine c_plain (.q 0 (.q 1 (.q 2 (.done)))) (by kernel_rfl) ?_
     refine q_move rfl rfl rfl rfl ?_
     refine q_int rfl rfl rfl rfl rfl (b_add' _ (by exact fits_i64 (by omega) (by omega))) ?_
     refine q_assign rfl rfl rfl rfl ?_
     refine r_done ?_
     refine k_then_n ?_
     rw [← sN_next he_, ← take_next he_, mks_next]
     refine loop_next (x := (i, ga, gc, qa, qc)) ((i + 1, ao84, cp84, ao94, cp94)) ?_ ?_ ?_ ?_
     · try dsimp only
       exact ⟨by omega, allC_next hI he_ hc1⟩
     · show m - (i + 1) < m - i; omega
     · exact ⟨rfl, rfl, rfl, rfl, trivial⟩
     · (try simp only [List.cons_append, List.nil_append]); exact Tf
    ·
     refine c_skip ?_
     refine k_then_n ?_
     refine c_seq ?_
     refine c_seq ?_
     refine c_plain (.q 0 (.q 1 ((.l 2 [] (.q 3 (.q 4 (.q 5 (.q 6 (.q 7 (.done)))))))))) (by kernel_rfl) ?_
     refine q_move rfl rfl rfl rfl ?_
     refine q_loadN_c rfl rfl rfl rfl Try.isAgg40 Try.sizeOf40 Tk 0 (us := [_, _, _]) (by first | rfl | exact (Nat.add_zero _).symm) rfl rfl ?_
     have sp_7 := rcan_spec kqp kqc kq (sN (newF th va vo lk pl) es i) (sN_inv (new_inv hok) es i) e.1 e.2.1 e.2.2
     refine l_call rfl rfl rfl rfl rfl rfl Try.call34 (sp_7) Ts ?_
     rintro ⟨⟩ -
     try simp only [List.cons_append, List.nil_append]
     refine ag_nil ?_
     refine q_move rfl rfl rfl rfl ?_
     refine s_bool_p 59 rfl (fun hg => ?_) (fun hg => by exfalso; exact hg hc1)
     refine q_field (k := 0) rfl rfl rfl rfl Try.underlying40 rfl Try.sizeOf38 rfl ?_
     refine q_load_c (j := 0) rfl rfl rfl rfl Try.isAgg38 Tk (by first | rfl | exact (Nat.add_zero _).symm) (by rfl) ?_
     refine q_int rfl rfl rfl rfl rfl (b_eql _ _ _ _) ?_
     refine q_pick_t rfl rfl rfl rfl rfl ?_
     refine r_done ?_
     refine s_keep [1, 6, 8, 9, 10, 11, 43, 44, 45, 60, 61, 62, 63] (e' := [(1, _), (6, _), (8, _), (9, _), (10, _), (11, _), (43, _), (44, _), (45, _), (60, _), (61, _), (62, _), (63, _)]) rfl ?_
     refine k_then_n ?_
     refine c_cond_p rfl (fun k10 => ?_) (fun k10 => ?_)
     ·
      have hrn : (stF (sN (newF th va vo lk pl) es i) e.2.1).2.2 = rnE (newF th va vo lk pl) es i := by rw [rnE_at he_, rndT, if_neg k9, if_pos k10]
      refine c_seq ?_
      refine c_plain (.q 0 (.q 1 (.q 2 ((.l 3 [] (.q 4 (.q 5 (.q 6 ((.l 7 [] ((.l 8 [] (.q 9 (.done)))))))))))))) (by kernel_rfl) ?_
      refine q_move rfl rfl rfl rfl ?_
      refine q_field (k := 1) rfl rfl rfl rfl Try.underlying40 rfl Try.sizeOf3 rfl ?_
      refine q_load_c (j := 1) rfl rfl rfl rfl Try.isAgg3 Tk (by first | rfl | exact (Nat.add_zero _).symm) (by rfl) ?_
      have sp_8 := rstand_spec kqp kqc kq (sN (newF th va vo lk pl) es i) (sN_inv (new_inv hok) es i) e.2.1
      refine l_call rfl rfl rfl rfl rfl rfl Try.call36 (sp_8) Ts ?_
      rintro ⟨⟩ -
      try simp only [List.cons_append, List.nil_append]
      refine ag_nil ?_
      refine q_move rfl rfl rfl rfl ?_
      refine q_extract rfl rfl rfl rfl rfl ?_
      refine q_extract rfl rfl rfl rfl rfl ?_
      refine l_alloc rfl rfl rfl Try.zeroValue79 (zs := [.int .i64 0, .int .i64 0, .int .i64 0]) rfl ?_
      intro b14
      refine ag_nil ?_
      refine l_store (j := 0) rfl rfl rfl rfl Try.sizeOf79 (us := [_, _, _]) rfl rfl rfl Tk (by first | rfl | exact (Nat.add_zero _).symm) (by first | decide | (simp; done) | omega) ?_
      simp only [setL, List.set]
      refine ag_nil ?_
      refine q_assign rfl rfl rfl rfl ?_
      refine r_done ?_
      refine s_keep [1, 6, 8, 9, 10, 14, 43, 44, 45, 60, 61, 62] (e' := [(1, _), (6, _), (8, _), (9, _), (10, _), (14, _), (43, _), (44, _), (45, _), (60, _), (61, _), (62, _)]) rfl ?_
      refine k_then_n ?_
      refine c_plain (.q 0 (.q 1 (.q 2 (.done)))) (by kernel_rfl) ?_
      refine q_field (k := 2) rfl rfl rfl rfl Try.underlying79 rfl Try.sizeOf3 rfl ?_
      refine q_load_c (j := 2) rfl rfl rfl rfl Try.isAgg3 Tk (by first | rfl | exact (Nat.add_zero _).symm) (by rfl) ?_
      refine q_assign rfl rfl rfl rfl ?_
      refine r_done ?_
      refine k_then_n ?_
      refine c_seq ?_
      refine c_seq ?_
      refine c_plain (.q 0 (.q 1 ((.l 2 [] (.q 3 (.done)))))) (by kernel_rfl) ?_
      refine q_move rfl rfl rfl rfl ?_
      refine q_loadN_c rfl rfl rfl rfl Try.isAgg40 Try.sizeOf40 Tk 0 (us := [_, _, _]) (by first | rfl | exact (Nat.add_zero _).symm) rfl rfl ?_
      have sp_9 := rnext_spec kqp kqc kq (sN (newF th va vo lk pl) es i) (sN_inv (new_inv hok) es i) (by omega) pl (((sN_sh _ _ _).1)) e.1 e.2.1 e.2.2
      refine l_call rfl rfl rfl rfl rfl rfl Try.call27 (sp_9) Ts ?_
      rintro ⟨⟩ -
      try simp only [List.cons_append, List.nil_append]
      refine ag_nil ?_
      refine q_int rfl rfl rfl rfl rfl (b_neq _ _ _ _) ?_
      refine r_done ?_
      refine s_keep [1, 6, 8, 9, 10, 11, 43, 44, 45, 60, 61, 62, 76] (e' := [(1, _), (6, _), (8, _), (9, _), (10, _), (11, _), (43, _), (44, _), (45, _), (60, _), (61, _), (62, _), (76, _)]) rfl ?_
      refine k_then_n ?_
      refine c_cond_p rfl (fun hg => by exfalso; exact hg (if_pos hc1)) (fun hg => ?_)
      refine c_skip ?_
      refine k_then_n ?_
      refine c_seq ?_
      refine c_draw rfl (.q 0 (.q 1 (.q 2 (.q 3 (.q 4 (.q 5 ((.l 6 [4] ((.l 7 [] (.q 8 (.q 9 ((.l 10 [] (.done))))))))))))))) (by kernel_rfl) ?_
      refine q_move rfl rfl rfl rfl ?_
      refine q_move rfl rfl rfl rfl ?_
      refine q_nil_p rfl rfl rfl rfl ?_
      refine q_field (k := 0) rfl rfl rfl rfl Try.underlying71 rfl Try.sizeOf25 rfl ?_
      refine q_load_c (j := 0) rfl rfl rfl rfl Try.isAgg25 Tk (by first | rfl | exact (Nat.add_zero _).symm) (by rfl) ?_
      refine q_loadN_c rfl rfl rfl rfl Try.isAgg40 Try.sizeOf40 Tk 0 (us := [_, _, _]) (by first | rfl | exact (Nat.add_zero _).symm) rfl rfl ?_
      refine l_buildSlice rfl rfl rfl rfl (run_build1 (us := [_, _, _]) Try.underlying25 Try.sizeOf40 rfl Try.zeroValue40 rfl rfl rfl) ?_
      intro b83
      refine ag_load_c (q := 0) rfl rfl rfl Try.isAgg25 Tk (by first | rfl | exact (Nat.add_zero _).symm) (by rfl) ?_
      refine ag_nil ?_
      refine l_append (sz := 3) (enc := enc3) (xs := (es.take i)) rfl rfl rfl rfl rfl Try.underlying25 Try.typeInfo40 rfl rfl rfl (by decide) Tk Tk (by first | rfl | omega | (simp; done) | (simp; omega)) (ys := [(e.1, e.2.1, e.2.2)]) (rds_some rdn_cells) (by rfl) (by first | rfl | omega) (enc3_len) (enc3_one) (by omega) (by show _ * 24 ≤ _; omega) ?_
      intro ao84 cp84
      refine ag_nil ?_
      refine q_nil_p rfl rfl rfl rfl ?_
      refine q_field (k := 0) rfl rfl rfl rfl Try.underlying71 rfl Try.sizeOf25 rfl ?_
      refine l_store (j := 0) rfl rfl rfl rfl Try.sizeOf25 (us := [_]) rfl rfl rfl Tk (by first | rfl | exact (Nat.add_zero _).symm) (by first | decide | (simp; done) | omega) ?_
      simp only [setL, List.set]
      refine ag_nil ?_
      refine r_done ?_
      refine s_keep [1, 6, 8, 9, 11, 43, 44, 45, 60, 61, 62] (e' := [(1, _), (6, _), (8, _), (9, _), (11, _), (43, _), (44, _), (45, _), (60, _), (61, _), (62, _)]) rfl ?_
      refine k_then_n ?_
      refine c_plain (.q 0 (.q 1 (.q 2 (.q 3 (.q 4 (.q 5 ((.l 6 [] ((.l 7 [] (.q 8 (.q 9 ((.l 10 [] (.done))))))))))))))) (by kernel_rfl) ?_
      refine q_move rfl rfl rfl rfl ?_
      refine q_move rfl rfl rfl rfl ?_
      refine q_nil_p rfl rfl rfl rfl ?_
      refine q_field (k := 1) rfl rfl rfl rfl Try.underlying71 rfl Try.sizeOf22 rfl ?_
      refine q_load_c (j := 1) rfl rfl rfl rfl Try.isAgg22 Tk (by first | rfl | exact (Nat.add_zero _).symm) (by rfl) ?_
      refine q_move rfl rfl rfl rfl ?_
      refine s_eq 92 rfl (v' := .int .i64 (rnE (newF th va vo lk pl) es i)) (by rw [hrn]) ?_
      refine l_buildSlice rfl rfl rfl rfl (run_build1 (us := [_]) Try.underlying22 Try.sizeOf3 rfl Try.zeroValue3 rfl rfl rfl) ?_
      intro b93
      refine ag_nil ?_
      refine l_append (sz := 1) (enc := encZ) (xs := (mks (rnE (newF th va vo lk pl) es) i)) rfl rfl rfl rfl rfl Try.underlying22 Try.typeInfo3 rfl rfl rfl (by decide) Tk Tk (by exact mks_len _ _) (ys := [(rnE (newF th va vo lk pl) es i)]) (rds_some rdn_cells) (by rfl) (by first | rfl | omega) (encZ_len) (encZ_one) (by omega) (by show _ * 8 ≤ _; omega) ?_
      intro ao94 cp94
      refine ag_nil ?_
      refine q_nil_p rfl rfl rfl rfl ?_
      refine q_field (k := 1) rfl rfl rfl rfl Try.underlying71 rfl Try.sizeOf22 rfl ?_
      refine l_store (j := 1) rfl rfl rfl rfl Try.sizeOf22 (us := [_]) rfl rfl rfl Tk (by first | rfl | exact (Nat.add_zero _).symm) (by first | decide | (simp; done) | omega) ?_
      simp only [setL, List.set]
      refine ag_nil ?_
      refine r_done ?_
      refine s_keep [1, 6, 8, 9, 43, 44, 45, 60, 61, 62] (e' := [(1, _), (6, _), (8, _), (9, _), (43, _), (44, _), (45, _), (60, _), (61, _), (62, _)]) rfl ?_
      refine k_blk_n ?_
      refine k_then_n ?_
      refine c_plain (.q 0 (.q 1 (.q 2 (.done)))) (by kernel_rfl) ?_
      refine q_move rfl rfl rfl rfl ?_
      refine q_int rfl rfl rfl rfl rfl (b_add' _ (by exact fits_i64 (by omega) (by omega))) ?_
      refine q_assign rfl rfl rfl rfl ?_
      refine r_done ?_
      refine k_then_n ?_
      rw [← sN_next he_, ← take_next he_, mks_next]
      refine loop_next (x := (i, ga, gc, qa, qc)) ((i + 1, ao84, cp84, ao94, cp94)) ?_ ?_ ?_ ?_
      · try dsimp only
        exact ⟨by omega, allC_next hI he_ hc1⟩
      · show m - (i + 1) < m - i; omega
      · exact ⟨rfl, rfl, rfl, rfl, trivial⟩
      · (try simp only [List.cons_append, List.nil_append]); exact Tf
     ·
      have hrn : (0 : Int) = rnE (newF th va vo lk pl) es i := by rw [rnE_at he_, rndT, if_neg k9, if_neg k10]
      refine c_skip ?_
      refine k_then_n ?_
      refine c_seq ?_
      refine c_seq ?_
      refine c_plain (.q 0 (.q 1 ((.l 2 [] (.q 3 (.done)))))) (by kernel_rfl) ?_
      refine q_move rfl rfl rfl rfl ?_
      refine q_loadN_c rfl rfl rfl rfl Try.isAgg40 Try.sizeOf40 Tk 0 (us := [_, _, _]) (by first | rfl | exact (Nat.add_zero _).symm) rfl rfl ?_
      have sp_10 := rnext_spec kqp kqc kq (sN (newF th va vo lk pl) es i) (sN_inv (new_inv hok) es i) (by omega) pl (((sN_sh _ _ _).1)) e.1 e.2.1 e.2.2
      refine l_call rfl rfl rfl rfl rfl rfl Try.call27 (sp_10) Ts ?_
      rintro ⟨⟩ -
      try simp only [List.cons_append, List.nil_append]
      refine ag_nil ?_
      refine q_int rfl rfl rfl rfl rfl (b_neq _ _ _ _) ?_
      refine r_done ?_
      refine s_keep [1, 6, 8, 9, 10, 11, 43, 44, 45, 60, 61, 62, 76] (e' := [(1, _), (6, _), (8, _), (9, _), (10, _), (11, _), (43, _), (44, _), (45, _), (60, _), (61, _), (62, _), (76, _)]) rfl ?_
      refine k_then_n ?_
      refine c_cond_p rfl (fun hg => by exfalso; exact hg (if_pos hc1)) (fun hg => ?_)
      refine c_skip ?_
      refine k_then_n ?_
      refine c_seq ?_
      refine c_draw rfl (.q 0 (.q 1 (.q 2 (.q 3 (.q 4 (.q 5 ((.l 6 [4] ((.l 7 [] (.q 8 (.q 9 ((.l 10 [] (.done))))))))))))))) (by kernel_rfl) ?_
      refine q_move rfl rfl rfl rfl ?_
      refine q_move rfl rfl rfl rfl ?_
      refine q_nil_p rfl rfl rfl rfl ?_
      refine q_field (k := 0) rfl rfl rfl rfl Try.underlying71 rfl Try.sizeOf25 rfl ?_
      refine q_load_c (j := 0) rfl rfl rfl rfl Try.isAgg25 Tk (by first | rfl | exact (Nat.add_zero _).symm) (by rfl) ?_
      refine q_loadN_c rfl rfl rfl rfl Try.isAgg40 Try.sizeOf40 Tk 0 (us := [_, _, _]) (by first | rfl | exact (Nat.add_zero _).symm) rfl rfl ?_
      refine l_buildSlice rfl rfl rfl rfl (run_build1 (us := [_, _, _]) Try.underlying25 Try.sizeOf40 rfl Try.zeroValue40 rfl rfl rfl) ?_
      intro b83
      refine ag_load_c (q := 0) rfl rfl rfl Try.isAgg25 Tk (by first | rfl | exact (Nat.add_zero _).symm) (by rfl) ?_
      refine ag_nil ?_
      refine l_append (sz := 3) (enc := enc3) (xs := (es.take i)) rfl rfl rfl rfl rfl Try.underlying25 Try.typeInfo40 rfl rfl rfl (by decide) Tk Tk (by first | rfl | omega | (simp; done) | (simp; omega)) (ys := [(e.1, e.2.1, e.2.2)]) (rds_some rdn_cells) (by rfl) (by first | rfl | omega) (enc3_len) (enc3_one) (by omega) (by show _ * 24 ≤ _; omega) ?_
      intro ao84 cp84
      refine ag_nil ?_
      refine q_nil_p rfl rfl rfl rfl ?_
      refine q_field (k := 0) rfl rfl rfl rfl Try.underlying71 rfl Try.sizeOf25 rfl ?_
      refine l_store (j := 0) rfl rfl rfl rfl Try.sizeOf25 (us := [_]) rfl rfl rfl Tk (by first | rfl | exact (Nat.add_zero _).symm) (by first | decide | (simp; done) | omega) ?_
      simp only [setL, List.set]
      refine ag_nil ?_
      refine r_done ?_
      refine s_keep [1, 6, 8, 9, 11, 43, 44, 45, 60, 61, 62] (e' := [(1, _), (6, _), (8, _), (9, _), (11, _), (43, _), (44, _), (45, _), (60, _), (61, _), (62, _)]) rfl ?_
      refine k_then_n ?_
      refine c_plain (.q 0 (.q 1 (.q 2 (.q 3 (.q 4 (.q 5 ((.l 6 [] ((.l 7 [] (.q 8 (.q 9 ((.l 10 [] (.done))))))))))))))) (by kernel_rfl) ?_
      refine q_move rfl rfl rfl rfl ?_
      refine q_move rfl rfl rfl rfl ?_
      refine q_nil_p rfl rfl rfl rfl ?_
      refine q_field (k := 1) rfl rfl rfl rfl Try.underlying71 rfl Try.sizeOf22 rfl ?_
      refine q_load_c (j := 1) rfl rfl rfl rfl Try.isAgg22 Tk (by first | rfl | exact (Nat.add_zero _).symm) (by rfl) ?_
      refine q_move rfl rfl rfl rfl ?_
      refine s_eq 92 rfl (v' := .int .i64 (rnE (newF th va vo lk pl) es i)) (by rw [hrn]) ?_
      refine l_buildSlice rfl rfl rfl rfl (run_build1 (us := [_]) Try.underlying22 Try.sizeOf3 rfl Try.zeroValue3 rfl rfl rfl) ?_
      intro b93
      refine ag_nil ?_
      refine l_append (sz := 1) (enc := encZ) (xs := (mks (rnE (newF th va vo lk pl) es) i)) rfl rfl rfl rfl rfl Try.underlying22 Try.typeInfo3 rfl rfl rfl (by decide) Tk Tk (by exact mks_len _ _) (ys := [(rnE (newF th va vo lk pl) es i)]) (rds_some rdn_cells) (by rfl) (by first | rfl | omega) (encZ_len) (encZ_one) (by omega) (by show _ * 8 ≤ _; omega) ?_
      intro ao94 cp94
      refine ag_nil ?_
      refine q_nil_p rfl rfl rfl rfl ?_
      refine q_field (k := 1) rfl rfl rfl rfl Try.underlying71 rfl Try.sizeOf22 rfl ?_
      refine l_store (j := 1) rfl rfl rfl rfl Try.sizeOf22 (us := [_]) rfl rfl rfl Tk (by first | rfl | exact (Nat.add_zero _).symm) (by first | decide | (simp; done) | omega) ?_
      simp only [setL, List.set]
      refine ag_nil ?_
      refine r_done ?_
      refine s_keep [1, 6, 8, 9, 43, 44, 45, 60, 61, 62] (e' := [(1, _), (6, _), (8, _), (9, _), (43, _), (44, _), (45, _), (60, _), (61, _), (62, _)]) rfl ?_
      refine k_blk_n ?_
      refine k_then_n ?_
      refine c_plain (.q 0 (.q 1 (.q 2 (.done)))) (by kernel_rfl) ?_
      refine q_move rfl rfl rfl rfl ?_
      refine q_int rfl rfl rfl rfl rfl (b_add' _ (by exact fits_i64 (by omega) (by omega))) ?_
      refine q_assign rfl rfl rfl rfl ?_
      refine r_done ?_
      refine k_then_n ?_
      rw [← sN_next he_, ← take_next he_, mks_next]
      refine loop_next (x := (i, ga, gc, qa, qc)) ((i + 1, ao84, cp84, ao94, cp94)) ?_ ?_ ?_ ?_
      · try dsimp only
        exact ⟨by omega, allC_next hI he_ hc1⟩
      · show m - (i + 1) < m - i; omega
      · exact ⟨rfl, rfl, rfl, rfl, trivial⟩
      · (try simp only [List.cons_append, List.nil_append]); exact Tf
   ·
    refine q_skip rfl rfl rfl rfl ?_
    refine q_skip rfl rfl rfl rfl ?_
    refine q_skip rfl rfl rfl rfl ?_
    refine q_pick_f rfl rfl rfl rfl rfl ?_
    refine r_done ?_
    refine s_keep [1, 6, 8, 9, 10, 11, 43, 44, 45, 46] (e' := [(1, _), (6, _), (8, _), (9, _), (10, _), (11, _), (43, _), (44, _), (45, _), (46, _)]) rfl ?_
    refine k_then_n ?_
    refine c_cond_f rfl ?_
    refine c_skip ?_
    refine k_then_n ?_
    refine c_seq ?_
    refine c_seq ?_
    refine c_plain (.q 0 (.q 1 ((.l 2 [] (.q 3 (.q 4 (.q 5 (.q 6 (.q 7 (.done)))))))))) (by kernel_rfl) ?_
    refine q_move rfl rfl rfl rfl ?_
    refine q_loadN_c rfl rfl rfl rfl Try.isAgg40 Try.sizeOf40 Tk 0 (us := [_, _, _]) (by first | rfl | exact (Nat.add_zero _).symm) rfl rfl ?_
    have sp_11 := rcan_spec kqp kqc kq (sN (newF th va vo lk pl) es i) (sN_inv (new_inv hok) es i) e.1 e.2.1 e.2.2
    refine l_call rfl rfl rfl rfl rfl rfl Try.call34 (sp_11) Ts ?_
    rintro ⟨⟩ -
    try simp only [List.cons_append, List.nil_append]
    refine ag_nil ?_
    refine q_move rfl rfl rfl rfl ?_
    refine s_bool_p 59 rfl (fun hg => by exfalso; exact hc1 hg) (fun hg => ?_)
    refine q_skip rfl rfl rfl rfl ?_
    refine q_skip rfl rfl rfl rfl ?_
    refine q_skip rfl rfl rfl rfl ?_
    refine q_pick_f rfl rfl rfl rfl rfl ?_
    refine r_done ?_
    refine s_keep [1, 6, 8, 9, 10, 11, 43, 44, 45, 60, 61, 62, 63] (e' := [(1, _), (6, _), (8, _), (9, _), (10, _), (11, _), (43, _), (44, _), (45, _), (60, _), (61, _), (62, _), (63, _)]) rfl ?_
    refine k_then_n ?_
    refine c_cond_f rfl ?_
    refine c_skip ?_
    refine k_then_n ?_
    refine c_seq ?_
    refine c_seq ?_
    refine c_plain (.q 0 (.q 1 ((.l 2 [] (.q 3 (.done)))))) (by kernel_rfl) ?_
    refine q_move rfl rfl rfl rfl ?_
    refine q_loadN_c rfl rfl rfl rfl Try.isAgg40 Try.sizeOf40 Tk 0 (us := [_, _, _]) (by first | rfl | exact (Nat.add_zero _).symm) rfl rfl ?_
    have sp_12 := rnext_spec kqp kqc kq (sN (newF th va vo lk pl) es i) (sN_inv (new_inv hok) es i) (by omega) pl (((sN_sh _ _ _).1)) e.1 e.2.1 e.2.2
    refine l_call rfl rfl rfl rfl rfl rfl Try.call27 (sp_12) Ts ?_
    rintro ⟨⟩ -
    try simp only [List.cons_append, List.nil_append]
    refine ag_nil ?_
    refine q_int rfl rfl rfl rfl rfl (b_neq _ _ _ _) ?_
    refine r_done ?_
    refine s_keep [1, 6, 8, 9, 10, 11, 43, 44, 45, 60, 61, 62, 76] (e' := [(1, _), (6, _), (8, _), (9, _), (10, _), (11, _), (43, _), (44, _), (45, _), (60, _), (61, _), (62, _), (76, _)]) rfl ?_
    refine k_then_n ?_
    refine c_cond_p rfl (fun hg => ?_) (fun hg => by exfalso; rw [nxE, if_neg hc1] at hg; exact hg (by decide))
    refine c_seq ?_
    refine c_plain (.q 0 (.q 1 (.done))) (by kernel_rfl) ?_
    refine q_assign rfl rfl rfl rfl ?_
    refine q_assign rfl rfl rfl rfl ?_
    refine r_done ?_
    refine s_keep [4, 5] (e' := [(4, _), (5, _)]) rfl ?_
    refine k_then_n ?_
    refine c_ret ?_
    refine k_then_ret ?_
    refine k_blk_ret ?_
    refine k_then_ret ?_
    refine k_then_ret ?_
    refine k_blk_ret ?_
    refine k_then_ret ?_
    refine ret2 rfl rfl rfl (6) (by first | rfl | (first | rfl | (congr 1; done) | (congr 1 <;> first | rfl | omega | (simp; done) | (simp; omega)))) (by decide) ?_
    exact Tf
  ·
   obtain rfl : m = i := by omega
   exact absurd ⟨by omega, by rw [hem]; exact hI⟩ hbad --closed
theorem onewbad2_spec (th va vo lk : Int) (pl : List Int) (ao : Option Addr) (n c : Nat) (A : HProp) (hr : RdS A ao (pl.flatMap encZ)) (hn : pl.length = n) (hb : n ≤ 4000000) (es : List T3) (eo : Option Addr) (m ec : Nat) (he : RdS A eo (es.flatMap enc3)) (hem : es.length = m) (hmb : m ≤ 4000000) (hok : ¬ OkS th va vo lk pl) : Spec Try.prog 9 [.agg #[.int .i64 th, .int .i64 va, .int .i64 vo, .int .i64 lk, .slice ao n c], .slice eo m ec] [A] (fun (r : Int) => .tuple #[.pointer none, .int .i64 r]) (fun r => r ≠ 0) (fun r => [A]) := by
 refine spec_mk (n := 100) Try.func9 rfl rfl rfl ?_
 intro Γ w0
 simp only [argE, List.cons_append, List.nil_append, Nat.zero_add, Nat.reduceAdd]
 refine c_seq ?_
 refine c_plain ((.l 0 [] (.q 1 (.q 2 (.done))))) (by kernel_rfl) ?_
 refine l_box rfl rfl rfl rfl (us := [_, _, _, _, _]) rfl ?_
 intro b2
 refine ag_nil ?_
 refine q_assign rfl rfl rfl rfl ?_
 refine q_assign rfl rfl rfl rfl ?_
 refine r_done ?_
 refine k_then_n ?_
 refine c_seq ?_
 refine c_seq ?_
 refine c_plain (.q 0 ((.l 1 [] (.q 2 (.done))))) (by kernel_rfl) ?_
 refine q_loadN_c rfl rfl rfl rfl Try.isAgg24 Try.sizeOf24 Tk 0 (us := [_, _, _, _, _]) (by first | rfl | exact (Nat.add_zero _).symm) rfl rfl ?_
 have sp_1 := rshape_spec th va vo lk pl ao n c A (hr) (by first | rfl | assumption | omega | (simp; done) | (simp; omega)) (by omega)
 refine l_call rfl rfl rfl rfl rfl rfl Try.call33 (sp_1) Ts ?_
 rintro ⟨⟩ -
 try simp only [List.cons_append, List.nil_append]
 refine ag_nil ?_
 refine s_eq 17 rfl (v' := .int .i64 5) (by rw [if_neg hok]) ?_
 refine q_int rfl rfl rfl rfl rfl (b_neq _ _ _ _) ?_
 refine s_eq 18 rfl (v' := .bool true) (by first | rfl | simp) ?_
 refine r_done ?_
 refine s_keep [1, 2, 18] (e' := [(1, _), (2, _), (18, _)]) rfl ?_
 refine k_then_n ?_
 refine c_cond_t rfl ?_
 refine c_seq ?_
 refine c_plain (.q 0 (.q 1 (.done))) (by kernel_rfl) ?_
 refine q_assign rfl rfl rfl rfl ?_
 refine q_assign rfl rfl rfl rfl ?_
 refine r_done ?_
 refine k_then_n ?_
 refine c_ret ?_
 refine k_then_ret ?_
 refine ret2 rfl rfl rfl (5) (by first | rfl | (first | rfl | (congr 1; done) | (congr 1 <;> first | rfl | omega | (simp; done) | (simp; omega)))) (by decide) ?_
 exact Tf
end Go.Ab.Ord
set_option linter.unusedVariables false
set_option linter.unusedSimpArgs false
set_option maxRecDepth 100000
namespace Go.Ab.DjO
open Go Go.Proofs Go.Ab Go.Ab.Fe Go.Ab.Vc Go.Ab.Ord Go.Ab.Dj
/-- All clocks are at most one more than there are events. -/
structure BInv (x : VS) : Prop where
  inv : VInv x
  th : ∀ t l, x.th t = some l → ∀ i : Nat, l.getD i 0 ≤ x.ck.n + 1
  lk : ∀ t l, x.lk t = some l → ∀ i : Nat, l.getD i 0 ≤ x.ck.n + 1
  vo : ∀ t l, x.vo t = some l → ∀ i : Nat, l.getD i 0 ≤ x.ck.n + 1
  rd : ∀ r p, x.rd r = some p → ∀ i : Nat, p.1.getD i 0 ≤ x.ck.n + 1
theorem b_can {x : VS} (hx : BInv x) (hn : x.ck.n ≤ 1000000) {k t o : Int} : vcanF x k t o ↔ canF x.ck k t o := by
  refine ⟨fun h => h.1, fun h => ⟨h, fun _ => ?_⟩⟩
  obtain ⟨l, hth⟩ := th_some hx.inv (can_th h)
  have := hx.th _ _ hth t.toNat
  rw [thF_eq hth]; simp only [maxC]; omega
theorem mg_le {m : Option (List Int)} {l : List Int} {B : Int} (hl : CV l) (h : ∀ q, m = some q → CV q) (i : Nat) (h1 : l.getD i 0 ≤ B) (h2 : ∀ q, m = some q → q.getD i 0 ≤ B) : (mgF m l).getD i 0 ≤ B := by
  cases m with
  | none => exact h1
  | some q => show (jn l q).getD i 0 ≤ _; rw [jn_g hl (h q rfl)]; have := h2 q rfl; omega
theorem vn_n {x : VS} {k t o : Int} (h : canF x.ck k t o) : (vnF x k t o).ck.n = x.ck.n + 1 := by
  rw [vn_ck]
  obtain ⟨n5, n6, n7, n9, n10, n11, nn⟩ := nxF_k h
  by_cases k5 : k = 5
  · rw [n5 k5]
  by_cases k6 : k = 6
  · rw [n6 k6]
  by_cases k7 : k = 7
  · rw [n7 k7]
  by_cases k9 : k = 9
  · rw [n9 k9]
  by_cases k10 : k = 10
  · rw [n10 k10]
  by_cases k11 : k = 11
  · rw [n11 k11]
  rw [nn k5 k6 k7 k9 k10 k11]
theorem b_next {x : VS} (hx : BInv x) {k t o : Int} (hvc : vcanF x k t o) : BInv (vnF x k t o) := by
  obtain ⟨l, hth⟩ := th_some hx.inv (can_th hvc.1)
  have hi := hx.inv
  have hl := hi.thc _ _ hth
  have hlt := thF_eq hth
  have hlb := hx.th _ _ hth
  have hnn := vn_n hvc.1
  obtain ⟨o5, o7, o9, o10, o11⟩ := can_obj hi.ck hvc.1
  have hic : ∀ i : Nat, (icL l t.toNat).getD i 0 ≤ x.ck.n + 1 + 1 := fun i => by
    rw [icL_g]; split
    · have := hlb t.toNat; omega
    · have := hlb i; omega
  refine ⟨next_vinv hi hvc, ?_, ?_, ?_, ?_⟩
  · intro u q h i
    rw [hnn]
    have key : ∀ {L : List Int}, (∀ i : Nat, L.getD i 0 ≤ x.ck.n + 1 + 1) → upd x.th t (some L) u = some q → q.getD i 0 ≤ x.ck.n + 1 + 1 := fun hL h => by
      rcases upd_some h with ⟨-, h⟩ | ⟨-, h⟩
      · cases h; exact hL i
      · have := hx.th _ _ h i; omega
    have up : ∀ {a : Int}, a ≤ x.ck.n + 1 → a ≤ x.ck.n + 1 + 1 := fun h => by omega
    by_cases k5 : k = 5
    · rw [vn5 hth k5] at h; exact key (fun i => up (mg_le hl (hi.lkc _) i (hlb i) fun q hq => hx.lk _ _ hq i)) h
    by_cases k3 : k = 3
    · rw [vn3 hth k3] at h; exact key (fun i => up (mg_le hl (hi.voc _) i (hlb i) fun q hq => hx.vo _ _ hq i)) h
    by_cases k8 : k = 8
    · rw [vn8 hth k8] at h; exact key (fun i => up (mg_le hl (hi.thc _) i (hlb i) fun q hq => hx.th _ _ hq i)) h
    by_cases k10 : k = 10
    · rw [vn10 hth k10] at h
      obtain ⟨p, hp, -⟩ := rd_some hi (o10 k10).1 (o10 k10).2.2
      refine key (fun i => ?_) h
      rw [hlt, rdF, hp]
      show (jn l p.1).getD i 0 ≤ _
      rw [jn_g hl (hi.rdc _ _ hp)]
      have h1 := hlb i
      have h2 := hx.rd _ _ hp i
      omega
    by_cases k6 : k = 6
    · rw [vn6 hth k6] at h; exact key hic h
    by_cases k4 : k = 4
    · rw [vn4 hth k4] at h; exact key hic h
    by_cases k9 : k = 9
    · rw [vn9 hth k9] at h; exact key hic h
    by_cases k7 : k = 7
    · rw [vn7 hth k7] at h
      rcases upd_some h with ⟨-, h⟩ | ⟨-, h⟩
      · cases h; exact hic i
      · rcases upd_some h with ⟨-, h⟩ | ⟨-, h⟩
        · cases h
          rw [stL_g]
          have h0 := hi.ck.n0
          split
          · omega
          · have := hlb i; omega
        · have := hx.th _ _ h i; omega
    rw [vn0 k5 k3 k8 k10 k6 k4 k9 k7] at h
    have := hx.th _ _ h i; omega
  · intro u q h i
    rw [hnn]
    by_cases k6 : k = 6
    · rw [vn6 hth k6] at h
      rcases upd_some h with ⟨-, h⟩ | ⟨-, h⟩
      · cases h; have := hlb i; omega
      · have := hx.lk _ _ h i; omega
    have e : (vnF x k t o).lk = x.lk := by
      unfold vnF
      rw [if_neg k6]
      repeat (split; · rfl)
      rfl
    rw [e] at h; have := hx.lk _ _ h i; omega
  · intro u q h i
    rw [hnn]
    by_cases k4 : k = 4
    · rw [vn4 hth k4] at h
      rcases upd_some h with ⟨-, h⟩ | ⟨-, h⟩
      · cases h; have := mg_le hl (hi.voc o) i (hlb i) (fun q hq => hx.vo o _ hq i); omega
      · have := hx.vo _ _ h i; omega
    have e : (vnF x k t o).vo = x.vo := by
      unfold vnF
      rw [if_neg k4]
      repeat (split; · rfl)
      rfl
    rw [e] at h; have := hx.vo _ _ h i; omega
  · intro r p h i
    rw [hnn]
    rw [vn_rd] at h
    split at h
    · rename_i k10
      rcases upd_some h with ⟨-, h⟩ | ⟨-, h⟩
      · obtain ⟨p2, hp, -⟩ := rd_some hi (o10 k10).1 (o10 k10).2.2
        split at h
        · cases h
        · cases h
          show (rdF x (rdK x t o)).1.getD i 0 ≤ _
          rw [rdK, rdF, hp]
          have := hx.rd _ _ hp i
          show p2.1.getD i 0 ≤ _; omega
      · have := hx.rd _ _ h i; omega
    · split at h
      · rcases upd_some h with ⟨-, h⟩ | ⟨-, h⟩
        · cases h
          show (mgF _ _).getD i 0 ≤ _
          rw [hlt]
          have := mg_le (m := (x.rd (o, (opF x.ck o).1)).map (·.1)) hl (fun q hq => map_fst_cv hi hq) i (hlb i) (fun q hq => by
            cases hr : x.rd (o, (opF x.ck o).1) with
            | none => rw [hr] at hq; cases hq
            | some p => rw [hr] at hq; cases hq; exact hx.rd _ _ hr i)
          omega
        · have := hx.rd _ _ h i; omega
      · have := hx.rd _ _ h i; omega
/-- Vectors behind events. -/
def vEv (x : VS) (e : T3) : VS := if vcanF x e.1 e.2.1 e.2.2 then vnF x e.1 e.2.1 e.2.2 else x
def vN (x : VS) (es : List T3) (i : Nat) : VS := (es.take i).foldl vEv x
theorem vN_next {x : VS} {es : List T3} {i : Nat} {e : T3} (h : es[i]? = some e) : vN x es (i + 1) = vEv (vN x es i) e := by
  unfold vN; rw [take_next h, List.foldl_append]; rfl
theorem dAll_v : ∀ (es : List T3) (x : DS), (dAll x es).v = es.foldl vEv x.v
  | [], x => rfl
  | e :: es, x => by
    have h := dAll_v es (dEv x e)
    show (dAll (dEv x e) es).v = _
    rw [h]
    have : (dEv x e).v = vEv x.v e := by
      unfold dEv deF vEv
      split <;> rfl
    rw [this]; rfl
theorem dAll_vN (x : DS) (es : List T3) (i : Nat) : (dAll x (es.take i)).v = vN x.v es i := dAll_v _ _
/-- A list's entry, zero where there is none. -/
def eZ (l : List Int) (z : Int) : Int := if z < 0 then 0 else l.getD z.toNat 0
theorem eZ_nn {l : List Int} {z : Int} (h : 0 ≤ z) : eZ l z = l.getD z.toNat 0 := if_neg (by omega)
/-- The clock ahead of event i. -/
def clkF (x : VS) (es : List T3) (i : Nat) : Int := eZ (thF (vN x es i) (thrE es i)) (thrE es i)
def endedB (es : List T3) (u : Int) : Bool := es.any (fun e => decide (e.1 = 11 ∧ e.2.1 = u))
theorem vnew_b {th va vo lk : Int} {pl : List Int} (hok : OkS th va vo lk pl) : BInv (vNew th va vo lk pl) := by
  refine ⟨new_vinv hok (new_inv hok), fun t l h i => ?_, fun t l h => (by cases h), fun t l h => (by cases h), fun r p h => (by cases h)⟩
  rcases upd_some (show upd noF 0 (some [1]) t = some l from h) with ⟨-, h⟩ | ⟨-, h⟩
  · cases h
    show ([1] : List Int).getD i 0 ≤ 0 + 1
    rcases i with _ | i <;> simp
  · cases h
theorem vnew_th {th va vo lk : Int} {pl : List Int} (t : Int) : thF (vNew th va vo lk pl) t = if t = 0 then [1] else [] := by
  show (upd noF 0 (some [1]) t).getD [] = _
  unfold upd; split <;> rfl
theorem vnew_st {th va vo lk : Int} {pl : List Int} (hok : OkS th va vo lk pl) (t : Int) : (stF (newF th va vo lk pl) t).1 = if t = 0 then 1 else 0 := by
  have h := (new_vinv hok (new_inv hok)).th t
  have h2 := (rel_new hok).st t
  rw [← h2]
  unfold upd noF
  split <;> rfl
/-- Behind no event. -/
theorem h_new {th va vo lk : Int} {pl : List Int} (hok : OkS th va vo lk pl) (es : List T3) (R : Nat → Int) (c : Nat → Int) : HInv es R c 0 (vNew th va vo lk pl) := by
  have hi := new_vinv hok (new_inv hok)
  have hst := vnew_st hok
  have hk : ∀ X i, ¬ Kno es R 0 X i := fun X i h => absurd h.lt (Nat.not_lt_zero _)
  have hz : ∀ X u, X ≠ eT 0 → VV (vNew th va vo lk pl) X u = 0 := fun X u hX => by
    have : ve (vNew th va vo lk pl) X = [] := by
      unfold ve
      split
      · rename_i h
        rw [vnew_th, if_neg (fun e => hX (by rw [h, e]))]
      split
      · rfl
      split
      · rfl
      split
      · rfl
      rfl
    rw [VV, this]; simp
  have h0 : ∀ u, 0 ≤ u → VV (vNew th va vo lk pl) (eT 0) u = if u = 0 then 1 else 0 := fun u hu => by
    rw [VV, ve_th, vnew_th, if_pos rfl]
    by_cases e : u = 0
    · subst e; rfl
    · rw [if_neg e]
      obtain ⟨k, hk⟩ : ∃ k, u.toNat = k + 1 := ⟨u.toNat - 1, by omega⟩
      rw [hk]; rfl
  refine ⟨hi, ⟨fun X i h => absurd h (Nat.not_lt_zero _), fun X u hu hX => ?_, fun X u hu => ?_, fun i h => absurd h (Nat.not_lt_zero _), fun X u => VV_nn hi X u, fun i h => absurd h (Nat.not_lt_zero _), fun u hu => ?_⟩, fun i e h => absurd h (Nat.not_lt_zero _), fun o t _ i h => absurd h (hk _ _), fun j e h => absurd h (Nat.not_lt_zero _), fun r h => (by cases h), fun u h => ?_, fun j0 j e0 e h => absurd h (Nat.not_lt_zero _)⟩
  · have hu0 : u = 0 := by
      unfold runV at hu
      rw [show (vNew th va vo lk pl).ck = newF th va vo lk pl from rfl, hst] at hu
      by_cases e : u = 0
      · exact e
      · rw [if_neg e] at hu; omega
    subst hu0
    rw [hz X 0 hX, h0 0 (Int.le_refl _), if_pos rfl]; decide
  · by_cases e : X = eT 0
    · subst e
      by_cases e2 : u = 0
      · subst e2; exact Int.le_refl _
      · rw [h0 u hu, if_neg e2]; exact VV_nn hi _ _
    · rw [hz X u e]; exact VV_nn hi _ _
  · unfold runV at hu
    rw [show (vNew th va vo lk pl).ck = newF th va vo lk pl from rfl, hst] at hu
    by_cases e : u = 0
    · omega
    · rw [if_neg e] at hu; omega
  · rw [show (vNew th va vo lk pl).ck = newF th va vo lk pl from rfl, hst] at h
    split at h <;> omega
/-- Behind the first i events of a list that can be. -/
theorem h_all {th va vo lk : Int} {pl : List Int} (hok : OkS th va vo lk pl) {es : List T3} (hl : es.length ≤ 1000000) (hall : allC (newF th va vo lk pl) es es.length) :
    ∀ i, i ≤ es.length → BInv (vN (vNew th va vo lk pl) es i) ∧ (vN (vNew th va vo lk pl) es i).ck = sN (newF th va vo lk pl) es i ∧ (sN (newF th va vo lk pl) es i).n ≤ i ∧
      HInv es (rf (rnds (newF th va vo lk pl) es)) (clkF (vNew th va vo lk pl) es) i (vN (vNew th va vo lk pl) es i)
  | 0, _ => ⟨vnew_b hok, rfl, Int.le_refl _, h_new hok _ _ _⟩
  | i + 1, hi => by
    obtain ⟨hb, hck, hn, hh⟩ := h_all hok hl hall i (by omega)
    obtain ⟨e, he⟩ := get_lt (l := es) (i := i) (by omega)
    have hc := hall i e (by omega) he
    have hv : vcanF (vN (vNew th va vo lk pl) es i) e.1 e.2.1 e.2.2 := (b_can hb (by rw [hck]; omega)).2 (by rw [hck]; exact hc)
    have hnx : vN (vNew th va vo lk pl) es (i + 1) = vnF (vN (vNew th va vo lk pl) es i) e.1 e.2.1 e.2.2 := by rw [vN_next he, vEv, if_pos hv]
    have hsx : sN (newF th va vo lk pl) es (i + 1) = nxF (sN (newF th va vo lk pl) es i) e.1 e.2.1 e.2.2 := sN_next he
    have hR : rf (rnds (newF th va vo lk pl) es) i = rndT (sN (newF th va vo lk pl) es i) e := by
      rw [rf_at (by rw [rnds]; exact mks_get _ (by omega)), rnE_at he]
    obtain ⟨t0, -⟩ := th_rng hb.inv (can_th hv.1)
    refine ⟨by rw [hnx]; exact b_next hb hv, by rw [hnx, vn_ck, hck, hsx], ?_, ?_⟩
    · have h1 := vn_n hv.1
      rw [vn_ck, hck, ← hsx] at h1
      omega
    · rw [hnx]
      refine hh.next he hv ?_ (fun k9 => ?_) (fun k10 => ?_)
      · rw [clkF, thrE_at he, eZ_nn t0]
      · rw [hR, rndT, if_pos k9, hck]
      · rw [hR, rndT, if_neg (by omega), if_pos k10, hck]
section
variable {th va vo lk : Int} {pl : List Int} {es : List T3}
theorem kn_can (hok : OkS th va vo lk pl) (hl : es.length ≤ 1000000) (hall : allC (newF th va vo lk pl) es es.length) {i : Nat} {e : T3} (he : es[i]? = some e) : canE (dAll (dNew th va vo lk pl) (es.take i)) e := by
  have hi := (List.getElem?_eq_some_iff.1 he).1
  obtain ⟨hb, hck, hn, -⟩ := h_all hok hl hall i (by omega)
  unfold canE
  rw [dAll_vN]
  exact (b_can hb (by rw [hck]; omega)).2 (by rw [hck]; exact hall i e hi he)
end
end Go.Ab.DjO
set_option linter.unusedVariables false
set_option linter.unusedSimpArgs false
set_option maxRecDepth 100000
namespace Go.Ab.DjO
open Go Go.Proofs Go.Ab Go.Ab.Fe Go.Ab.Ord
def accP (e : T3) : Prop := e.1 = 1 ∨ e.1 = 2
instance (e : T3) : Decidable (accP e) := by unfold accP; infer_instance
def confP (a b : T3) : Prop := accP a ∧ accP b ∧ a.2.2 = b.2.2 ∧ a.2.1 ≠ b.2.1 ∧ (a.1 = 2 ∨ b.1 = 2)
instance (a b : T3) : Decidable (confP a b) := by unfold confP; infer_instance
def raceB (es : List T3) (R : Nat → Int) (i j : Nat) : Bool := decide (i < j) && ((match es[i]?, es[j]? with | some a, some b => decide (confP a b) | _, _ => false) && !hbF es R i j)
def objN (es : List T3) (j : Nat) : Int := (es.getD j (0, 0, 0)).2.2
/-- The races of event j with the first i events. -/
def prs (es : List T3) (R : Nat → Int) (j i : Nat) : List T3 := ((List.range i).filter (fun q => raceB es R q j)).map (fun q : Nat => (objN es j, (q : Int), (j : Int)))
/-- All races of the first m events. -/
def allL (es : List T3) (R : Nat → Int) (m : Nat) : List T3 := (List.range m).flatMap (fun j => prs es R j j)
section
variable {es : List T3} {R : Nat → Int} {i j m : Nat}
theorem raceB_at {a b : T3} (ha : es[i]? = some a) (hb : es[j]? = some b) (h : i < j) : raceB es R i j = (decide (confP a b) && !hbF es R i j) := by
  unfold raceB; rw [ha, hb]; simp [h]
theorem prs_next : prs es R j (i + 1) = prs es R j i ++ (if raceB es R i j = true then [(objN es j, (i : Int), (j : Int))] else []) := by
  unfold prs
  rw [List.range_succ, List.filter_append, List.map_append]
  congr 1
  by_cases h : raceB es R i j = true
  · rw [if_pos h]; simp [h]
  · rw [if_neg h]; simp [h]
theorem allL_next : allL es R (m + 1) = allL es R m ++ prs es R m m := by
  unfold allL; rw [List.range_succ, List.flatMap_append]; simp
theorem prs_len : (prs es R j i).length ≤ i := by
  unfold prs
  rw [List.length_map]
  exact Nat.le_trans (List.length_filter_le _ _) (by simp)
theorem allL_len : ∀ {m : Nat}, m ≤ 2048 → (allL es R m).length ≤ m * 2048
  | 0, _ => by simp [allL]
  | m + 1, h => by
    have h1 := allL_len (m := m) (by omega)
    have h2 := prs_len (es := es) (R := R) (j := m) (i := m)
    rw [allL_next, List.length_append]; omega
theorem prs_sec {p : T3} (h : p ∈ prs es R j i) : p.2.2 = j ∧ p.1 = objN es j := by
  unfold prs at h
  obtain ⟨q, _, rfl⟩ := List.mem_map.1 h
  exact ⟨rfl, rfl⟩
theorem allL_sec {p : T3} : ∀ {m : Nat}, p ∈ allL es R m → p.2.2 < m
  | 0, h => by simp [allL] at h
  | m + 1, h => by
    rw [allL_next] at h
    rcases List.mem_append.1 h with h | h
    · have := allL_sec h; omega
    · have := (prs_sec h).1; omega
/-- All races, those of the first n events ahead of the others. -/
theorem allL_cut : ∀ {m n : Nat}, n ≤ m → ∃ r, allL es R m = allL es R n ++ r ∧ ∀ p ∈ r, (n : Int) ≤ p.2.2
  | 0, n, h => by obtain rfl : n = 0 := by omega
                  exact ⟨[], by simp, by simp⟩
  | m + 1, n, h => by
    by_cases e : n = m + 1
    · exact ⟨[], by rw [e]; simp, by simp⟩
    · obtain ⟨r, h1, h2⟩ := allL_cut (m := m) (n := n) (by omega)
      refine ⟨r ++ prs es R m m, by rw [allL_next, h1, List.append_assoc], fun p hp => ?_⟩
      rcases List.mem_append.1 hp with hp | hp
      · exact h2 p hp
      · have := (prs_sec hp).1; omega
end
/-! ### Flags -/
def hasV (l : List T2) (v : Int) : Bool := l.any (fun q => decide (q.1 = v))
def ins (p : T2) : List T2 → List T2
  | [] => [p]
  | q :: l => if p.1 < q.1 then p :: q :: l else q :: ins p l
def fl1 (l : List T2) (p : T3) : List T2 := if hasV l p.1 = true then l else ins (p.1, p.2.2) l
def flagsL (L : List T3) : List T2 := L.foldl fl1 []
theorem flagsL_next {L : List T3} {i : Nat} {p : T3} (h : L[i]? = some p) : flagsL (L.take (i + 1)) = fl1 (flagsL (L.take i)) p := by
  unfold flagsL; rw [take_next h, List.foldl_append]; rfl
/-- Is the new flag laid down already? -/
def laidB (v : Int) (l : List T2) : Bool := l.any (fun q => decide (v < q.1))
def insB (p : T2) (l : List T2) : List T2 := if laidB p.1 l = true then ins p l else l
theorem ins_laid {p : T2} : ∀ {l l2 : List T2}, laidB p.1 l = true → ins p (l ++ l2) = ins p l ++ l2
  | [], l2, h => by simp [laidB] at h
  | q :: l, l2, h => by
    simp only [List.cons_append, ins]
    split
    · rfl
    · rename_i hq
      rw [ins_laid (l := l) (l2 := l2) (by simp only [laidB, List.any_cons, Bool.or_eq_true, decide_eq_true_eq] at h; rcases h with h | h; · exact absurd h hq
                                           · exact h)]
      rfl
theorem ins_not {p : T2} : ∀ {l l2 : List T2}, laidB p.1 l = false → ins p (l ++ l2) = l ++ ins p l2
  | [], l2, h => rfl
  | q :: l, l2, h => by
    simp only [laidB, List.any_cons, Bool.or_eq_false_iff, decide_eq_false_iff_not] at h
    simp only [List.cons_append, ins]
    rw [if_neg h.1, ins_not h.2]
theorem ins_end {p : T2} {l : List T2} (h : laidB p.1 l = false) : ins p l = l ++ [p] := by
  have := ins_not (l2 := []) h
  rw [List.append_nil] at this
  exact this
theorem laid_snoc {v : Int} {l : List T2} {q : T2} : laidB v (l ++ [q]) = (laidB v l || decide (v < q.1)) := by unfold laidB; rw [List.any_append]; simp
theorem has_snoc {v : Int} {l : List T2} {q : T2} : hasV (l ++ [q]) v = (hasV l v || decide (q.1 = v)) := by unfold hasV; rw [List.any_append]; simp
theorem insB_snoc {p q : T2} {l : List T2} : insB p (l ++ [q]) = if laidB p.1 l = false ∧ p.1 < q.1 then insB p l ++ [p] ++ [q] else insB p l ++ [q] := by
  have hs := laid_snoc (v := p.1) (l := l) (q := q)
  unfold insB
  rw [hs]
  cases h : laidB p.1 l with
  | true => simp [ins_laid h]
  | false =>
    by_cases e : p.1 < q.1
    · simp [e, ins_not h, ins]
    · simp [e]
theorem ins_len {p : T2} : ∀ {l : List T2}, (ins p l).length = l.length + 1
  | [] => rfl
  | q :: l => by
    unfold ins
    split
    · rfl
    · rw [List.length_cons, ins_len, List.length_cons]
theorem fl1_len {l : List T2} {p : T3} : (fl1 l p).length ≤ l.length + 1 := by
  unfold fl1
  split
  · omega
  · rw [ins_len]; omega
theorem flagsL_len : ∀ {L : List T3} {l : List T2}, (L.foldl fl1 l).length ≤ l.length + L.length
  | [], l => Nat.le_refl _
  | p :: L, l => by
    have h := flagsL_len (L := L) (l := fl1 l p)
    have h2 := fl1_len (l := l) (p := p)
    simp only [List.foldl_cons, List.length_cons]; omega
theorem has_ins {p : T2} : ∀ {l : List T2}, hasV (ins p l) p.1 = true
  | [] => by simp [ins, hasV]
  | q :: l => by
    unfold ins
    split
    · simp [hasV]
    · have := has_ins (p := p) (l := l)
      unfold hasV at this ⊢
      rw [List.any_cons, this, Bool.or_true]
/-- Several races of one event are one flag. -/
theorem fold_same {v n : Int} : ∀ {L : List T3} {l : List T2}, (∀ p ∈ L, p.1 = v ∧ p.2.2 = n) → L.foldl fl1 l = if L = [] then l else if hasV l v = true then l else ins (v, n) l
  | [], l, _ => by simp
  | p :: L, l, h => by
    obtain ⟨h1, h2⟩ := h p List.mem_cons_self
    have hf : fl1 l p = if hasV l v = true then l else ins (v, n) l := by unfold fl1; rw [h1, h2]
    rw [List.foldl_cons, if_neg (by simp), fold_same fun q hq => h q (List.mem_cons_of_mem _ hq), hf]
    split
    · rfl
    · rw [if_pos]
      split
      · assumption
      · exact has_ins
end Go.Ab.DjO
set_option linter.unusedVariables false
set_option linter.unusedSimpArgs false
set_option maxRecDepth 100000
namespace Go.Ab.DjO
open Go Go.Proofs Go.Ab Go.Ab.Fe Go.Ab.Vc Go.Ab.Ord Go.Ab.Dj
/-- The flags of variables. -/
def flG (k : Nat) (vs : List V4) : List T2 := ((vs.zipIdx k).filter (fun p => p.1.2.2.2)).map fun p => ((p.2 : Int), p.1.2.2.1)
theorem flF_G (vs : List V4) : flF vs = flG 0 vs := rfl
theorem flG_cons (k : Nat) (w : V4) (vs : List V4) : flG k (w :: vs) = (if w.2.2.2 = true then [((k : Int), w.2.2.1)] else []) ++ flG (k + 1) vs := by
  unfold flG
  rw [List.zipIdx_cons, List.filter_cons]
  cases w.2.2.2 <;> simp
theorem flG_ge {k : Nat} {vs : List V4} {q : T2} (h : q ∈ flG k vs) : (k : Int) ≤ q.1 := by
  unfold flG at h
  obtain ⟨p, hp, rfl⟩ := List.mem_map.1 h
  have := (List.mem_filter.1 hp).1
  have := List.le_snd_of_mem_zipIdx (x := p) this
  show (k : Int) ≤ (p.2 : Int); omega
theorem has_G {v : Int} : ∀ {vs : List V4} {k o : Nat} {w : V4}, vs[o]? = some w → hasV (flG k vs) ((k + o : Nat) : Int) = w.2.2.2
  | [], k, o, w, h => by simp at h
  | w0 :: vs, k, 0, w, h => by
    simp at h; subst h
    rw [flG_cons]
    unfold hasV
    rw [List.any_append]
    have h2 : (flG (k + 1) vs).any (fun q => decide (q.1 = ((k + 0 : Nat) : Int))) = false := by
      rw [List.any_eq_false]
      intro q hq
      have := flG_ge hq
      simp; omega
    rw [h2, Bool.or_false]
    cases w0.2.2.2 <;> simp
  | w0 :: vs, k, o + 1, w, h => by
    simp at h
    rw [flG_cons]
    have h1 := has_G (v := v) (k := k + 1) h
    unfold hasV at h1 ⊢
    rw [List.any_append, show ((k + (o + 1) : Nat) : Int) = ((k + 1 + o : Nat) : Int) from by omega, h1]
    split
    · have : decide (((k : Nat) : Int) = ((k + 1 + o : Nat) : Int)) = false := decide_eq_false (by omega)
      simp only [List.any_cons, List.any_nil, this, Bool.false_or]
    · simp
theorem ins_head {p : T2} {l : List T2} (h : ∀ q ∈ l, p.1 < q.1) : ins p l = p :: l := by
  cases l with
  | nil => rfl
  | cons q l => unfold ins; rw [if_pos (h q List.mem_cons_self)]
theorem flG_set {n : Int} : ∀ {vs : List V4} {k o : Nat} {w w2 : V4}, vs[o]? = some w → w.2.2.2 = false → w2.2.2.2 = true → w2.2.2.1 = n → flG k (vs.set o w2) = ins (((k + o : Nat) : Int), n) (flG k vs)
  | [], k, o, w, w2, h, _, _, _ => by simp at h
  | w0 :: vs, k, 0, w, w2, h, h1, h2, h3 => by
    simp at h; subst h
    rw [List.set_cons_zero, flG_cons, flG_cons, h1, h2, h3]
    simp only [if_true, Bool.false_eq_true, if_false, List.nil_append, List.singleton_append]
    rw [ins_head (p := (((k + 0 : Nat) : Int), n)) fun q hq => by have := flG_ge hq; show ((k + 0 : Nat) : Int) < _; omega]
    rfl
  | w0 :: vs, k, o + 1, w, w2, h, h1, h2, h3 => by
    simp at h
    rw [List.set_cons_succ, flG_cons, flG_cons, flG_set h h1 h2 h3, show ((k + 1 + o : Nat) : Int) = ((k + (o + 1) : Nat) : Int) from by omega]
    split
    · rw [List.singleton_append, List.singleton_append, ins, if_neg (by show ¬ ((k + (o + 1) : Nat) : Int) < ((k : Nat) : Int); omega)]
    · rfl
theorem flG_same : ∀ {vs : List V4} {k o : Nat} {w w2 : V4}, vs[o]? = some w → w2.2.2 = w.2.2 → flG k (vs.set o w2) = flG k vs
  | [], k, o, w, w2, h, _ => by simp at h
  | w0 :: vs, k, 0, w, w2, h, h1 => by
    simp at h; subst h
    rw [List.set_cons_zero, flG_cons, flG_cons, h1]
  | w0 :: vs, k, o + 1, w, w2, h, h1 => by
    simp at h
    rw [List.set_cons_succ, flG_cons, flG_cons, flG_same h h1]
/-! ### What is kept of a variable -/
def vecK (k : Int) (w : V4) : List Int := if k = 1 then w.1 else w.2.1
/-- A variable's vectors: for each thread the clock ahead of its last access of the kind. -/
def RWI (es : List T3) (c : Nat → Int) (n : Nat) (vs : List V4) : Prop :=
  ∀ (v : Nat) (w : V4), vs[v]? = some w → ∀ k u : Int, (k = 1 ∨ k = 2) → 0 ≤ u → (∀ q, q < n → es[q]? = some (k, u, (v : Int)) → c q ≤ (vecK k w).getD u.toNat 0) ∧
    ((vecK k w).getD u.toNat 0 = 0 ∨ ∃ q, q < n ∧ es[q]? = some (k, u, (v : Int)) ∧ (vecK k w).getD u.toNat 0 = c q)
section
variable {th va vo lk : Int} {pl : List Int} {es : List T3}
theorem rwi_new (c : Nat → Int) : RWI es c 0 (dNew th va vo lk pl).vs := fun v w hw k u hk hu => by
  have : w = v0 := (List.mem_replicate.1 (List.mem_of_getElem? hw)).2
  subst this
  refine ⟨fun q hq => absurd hq (Nat.not_lt_zero _), .inl ?_⟩
  unfold vecK v0; split <;> simp
theorem vecK_ac {n k t k0 : Int} {l : List Int} {w : V4} (h0 : k0 = 1 ∨ k0 = 2) (hk : k = 1 ∨ k = 2) : vecK k (acW n k0 t l w) = if k = k0 then stL (vecK k w) t.toNat (l.getD t.toNat 0) else vecK k w := by
  unfold vecK acW
  rcases h0 with rfl | rfl <;> rcases hk with rfl | rfl <;> rfl
theorem raceF_iff {k : Int} {l : List Int} {w : V4} (hl : CV l) (h1 : CV w.1) (h2 : CV w.2.1) (hk : k = 1 ∨ k = 2) : raceF k l w ↔ ∃ k2 : Int, (k2 = 1 ∨ k2 = 2) ∧ (k2 = 2 ∨ k = 2) ∧ ∃ i : Nat, l.getD i 0 < (vecK k2 w).getD i 0 := by
  have key : ∀ {q : List Int}, CV q → (¬ LeqL q l ↔ ∃ i : Nat, l.getD i 0 < q.getD i 0) := fun hq => by
    rw [leq_iff hq hl]
    constructor
    · intro h
      obtain ⟨i, hi⟩ := Classical.not_forall.1 h
      exact ⟨i, by omega⟩
    · rintro ⟨i, hi⟩ h
      have := h i; omega
  unfold raceF
  rw [key h1, key h2]
  constructor
  · rintro (⟨hk2, h⟩ | h)
    · exact ⟨1, .inl rfl, .inr hk2, h⟩
    · exact ⟨2, .inr rfl, .inl rfl, h⟩
  · rintro ⟨k2, rfl | rfl, h3, h⟩
    · exact .inl ⟨by omega, h⟩
    · exact .inr h
/-- The flags behind the first n events are those of the definition. -/
theorem first_law (hok : OkS th va vo lk pl) (hl : es.length ≤ 1000000) (hall : allC (newF th va vo lk pl) es es.length) :
    ∀ n, n ≤ es.length → RWI es (clkF (vNew th va vo lk pl) es) n (dAll (dNew th va vo lk pl) (es.take n)).vs ∧ flF (dAll (dNew th va vo lk pl) (es.take n)).vs = flagsL (allL es (rf (rnds (newF th va vo lk pl) es)) n)
  | 0, _ => ⟨rwi_new _, by
      show flF (List.replicate va.toNat v0) = []
      unfold flF
      rw [List.map_eq_nil_iff, List.filter_eq_nil_iff]
      intro p hp
      obtain ⟨w, i⟩ := p
      have h1 : w = v0 := (List.mem_replicate.1 (List.mem_of_getElem? (List.mem_zipIdx_iff_getElem?.1 hp))).2
      subst h1
      simp [v0]⟩
  | n + 1, hn => by
    obtain ⟨hR, hF⟩ := first_law hok hl hall n (by omega)
    obtain ⟨⟨k, t, o⟩, he⟩ := get_lt (l := es) (i := n) (by omega)
    obtain ⟨hb, hck, hcn, hh⟩ := h_all hok hl hall n (by omega)
    have hcan := kn_can hok hl hall he
    have hdv := dAll_vN (dNew th va vo lk pl) es n
    have hdn : (dAll (dNew th va vo lk pl) (es.take n)).v.ck.n = n := by
      have hs : ∀ m, m ≤ es.length → (sN (newF th va vo lk pl) es m).n = m := by
        intro m
        induction m with
        | zero => intro _; rfl
        | succ m ih =>
          intro hm
          obtain ⟨e, he⟩ := get_lt (l := es) (i := m) (by omega)
          rw [sN_next he, (nxF_can (hall m e (by omega) he)).1, ih (by omega)]; simp
      rw [hdv]
      show (vN (vNew th va vo lk pl) es n).ck.n = _
      rw [hck, hs n (by omega)]
    obtain ⟨X, hX⟩ : ∃ X, X = dAll (dNew th va vo lk pl) (es.take n) := ⟨_, rfl⟩
    have hi : DInv X := by rw [hX]; exact dAll_inv (new_dinv hok (new_inv hok)) _
    rw [dAll_next he, allL_next]
    rw [← hX] at hR hF hcan hdv hdn ⊢
    have hdv2 : X.v = vN (vNew th va vo lk pl) es n := hdv
    have hcan2 : vcanF X.v k t o := hcan
    obtain ⟨l, hth⟩ := th_some hi.v (can_th hcan2.1)
    have hlc := hi.v.thc _ _ hth
    obtain ⟨t0, t1⟩ := th_rng hi.v (can_th hcan2.1)
    have hc : clkF (vNew th va vo lk pl) es n = l.getD t.toNat 0 := by
      rw [clkF, thrE_at he, eZ_nn t0, ← hdv2, thF_eq hth]
    have hown : ∀ q e, q < n → es[q]? = some e → clkF (vNew th va vo lk pl) es q ≤ (thF X.v e.2.1).getD e.2.1.toNat 0 ∧ 1 ≤ clkF (vNew th va vo lk pl) es q ∧ 0 ≤ e.2.1 := fun q e hq hqe => by
      have h1 := hh.cor.c1 q hq
      have h2 := hh.cor.th0 q hq
      rw [thrE_at hqe, VV, ve_th, ← hdv2] at h1
      rw [thrE_at hqe] at h2
      exact ⟨h1.2, h1.1, h2⟩
    have hhb : ∀ q e, q < n → es[q]? = some e → (k = 1 ∨ k = 2) → (hbF es (rf (rnds (newF th va vo lk pl) es)) q n = decide (clkF (vNew th va vo lk pl) es q ≤ l.getD e.2.1.toNat 0)) := fun q e hq hqe hk => by
      have h1 := hh.cor.k (eT t) q hq (alV_th _ _)
      rw [thrE_at hqe, VV, ve_th, ← hdv2, thF_eq hth] at h1
      rw [Bool.eq_iff_iff, hbF_iff, decide_eq_true_eq, HB.at he (by omega), ← h1]
      constructor
      · rintro (h | ⟨h, _⟩ | ⟨h, _⟩ | ⟨h, _⟩ | ⟨h, _⟩)
        · exact h
        all_goals omega
      · exact .inl
    unfold dEv
    simp only
    have hobj : objN es n = o := by unfold objN; rw [getD_some he]
    have hpr : prs es (rf (rnds (newF th va vo lk pl) es)) n n = [] ↔ ¬ ∃ q, q < n ∧ raceB es (rf (rnds (newF th va vo lk pl) es)) q n = true := by
      unfold prs
      rw [List.map_eq_nil_iff, List.filter_eq_nil_iff]
      constructor
      · rintro h ⟨q, hq, hr⟩; exact h q (List.mem_range.2 hq) hr
      · intro h q hq hr; exact h ⟨q, List.mem_range.1 hq, hr⟩
    have hfold : flagsL (allL es (rf (rnds (newF th va vo lk pl) es)) n ++ prs es (rf (rnds (newF th va vo lk pl) es)) n n) = if prs es (rf (rnds (newF th va vo lk pl) es)) n n = [] then flF X.vs else if hasV (flF X.vs) o = true then flF X.vs else ins (o, (n : Int)) (flF X.vs) := by
      unfold flagsL
      rw [List.foldl_append, show List.foldl fl1 [] (allL es (rf (rnds (newF th va vo lk pl) es)) n) = flF X.vs from hF.symm]
      exact fold_same fun p hp => by
        have := prs_sec hp
        exact ⟨this.2.trans hobj, this.1⟩
    rw [hfold]
    by_cases hk : k = 1 ∨ k = 2
    · obtain ⟨p0, p1⟩ := acc_obj hcan2.1 hk
      have hlen := hi.len
      obtain ⟨w, hw⟩ := get_lt (l := X.vs) (i := o.toNat) (by omega)
      have hwc := hi.vs w (List.mem_of_getElem? hw)
      have hoN : ((o.toNat : Nat) : Int) = o := by omega
      rw [de_acc hcan2 hk hw hth, hdn]
      have hrace : raceF k l w ↔ ∃ q, q < n ∧ raceB es (rf (rnds (newF th va vo lk pl) es)) q n = true := by
        rw [raceF_iff hlc hwc.1 hwc.2 hk]
        constructor
        · rintro ⟨k2, hk2, hk3, i, hi2⟩
          have hv := (hR o.toNat w hw k2 (i : Int) hk2 (by omega)).2
          rw [Int.toNat_natCast, hoN] at hv
          have hl0 := cv_nn' hlc i
          rcases hv with hv | ⟨q, hq, hqe, hv⟩
          · omega
          · refine ⟨q, hq, ?_⟩
            rw [raceB_at hqe he hq, hhb q _ hq hqe hk]
            have hne : (i : Int) ≠ t := fun e => by
              have h1 := (hown q _ hq hqe).1
              simp only at h1
              rw [e, thF_eq hth] at h1
              have : i = t.toNat := by omega
              subst this; omega
            rw [decide_eq_true (show confP (k2, (i : Int), o) (k, t, o) from ⟨hk2, hk, rfl, hne, hk3⟩), decide_eq_false (by show ¬ _ ≤ l.getD ((i : Int)).toNat 0; rw [Int.toNat_natCast]; omega)]; rfl
        · rintro ⟨q, hq, hr⟩
          obtain ⟨⟨k2, u, o2⟩, hqe⟩ := get_lt (l := es) (i := q) (by omega)
          rw [raceB_at hqe he hq, hhb q _ hq hqe hk, Bool.and_eq_true, decide_eq_true_eq, Bool.not_eq_true', decide_eq_false_iff_not] at hr
          obtain ⟨⟨c1, c2, c3, c4, c5⟩, hr⟩ := hr
          simp only at c3 c4 c5 hr
          subst c3
          obtain ⟨h1, h2, h3⟩ := hown q _ hq hqe
          have hv := (hR o2.toNat w hw k2 u c1 h3).1 q hq (by rw [hoN]; exact hqe)
          exact ⟨k2, c1, c5, u.toNat, by omega⟩
      refine ⟨fun v w2 hw2 k2 u hk2 hu => ?_, ?_⟩
      · by_cases ev : v = o.toNat
        · subst ev
          rw [List.getElem?_set_self (List.getElem?_eq_some_iff.1 hw).1] at hw2
          cases hw2
          rw [vecK_ac hk hk2]
          obtain ⟨hA, hB⟩ := hR o.toNat w hw k2 u hk2 hu
          by_cases ek : k2 = k
          · subst ek
            rw [if_pos rfl, stL_g]
            by_cases eu : u.toNat = t.toNat
            · have : u = t := by omega
              subst this
              rw [if_pos rfl, ← hc]
              refine ⟨fun q hq hqe => ?_, .inr ⟨n, Nat.lt_succ_self _, by rw [hoN]; exact he, rfl⟩⟩
              rcases Nat.lt_or_ge q n with h1 | h1
              · have := (hown q _ h1 hqe).1
                simp only at this
                rw [thF_eq hth] at this
                rw [hc]; exact this
              · obtain rfl : q = n := by omega
                exact Int.le_refl _
            · rw [if_neg eu]
              refine ⟨fun q hq hqe => ?_, hB.imp id fun ⟨q, h1, h2, h3⟩ => ⟨q, by omega, h2, h3⟩⟩
              rcases Nat.lt_or_ge q n with h1 | h1
              · exact hA q h1 hqe
              · obtain rfl : q = n := by omega
                rw [he] at hqe; simp only [Option.some.injEq, Prod.mk.injEq] at hqe; exact absurd (by rw [hqe.2.1]) eu
          · rw [if_neg ek]
            refine ⟨fun q hq hqe => ?_, hB.imp id fun ⟨q, h1, h2, h3⟩ => ⟨q, by omega, h2, h3⟩⟩
            rcases Nat.lt_or_ge q n with h1 | h1
            · exact hA q h1 hqe
            · obtain rfl : q = n := by omega
              rw [he] at hqe; simp only [Option.some.injEq, Prod.mk.injEq] at hqe; exact absurd hqe.1.symm ek
        · rw [List.getElem?_set_ne (Ne.symm ev)] at hw2
          obtain ⟨hA, hB⟩ := hR v w2 hw2 k2 u hk2 hu
          refine ⟨fun q hq hqe => ?_, hB.imp id fun ⟨q, h1, h2, h3⟩ => ⟨q, by omega, h2, h3⟩⟩
          rcases Nat.lt_or_ge q n with h1 | h1
          · exact hA q h1 hqe
          · obtain rfl : q = n := by omega
            rw [he] at hqe; cases hqe
            exact absurd (by omega) ev
      · have hhas : hasV (flF X.vs) o = w.2.2.2 := by
          have := has_G (v := 0) (k := 0) hw
          rw [Nat.zero_add, hoN] at this
          exact this
        rw [hhas]
        by_cases hr : raceF k l w
        · rw [if_neg (fun h => hpr.1 h (hrace.1 hr)), flF_G, flF_G]
          cases hf : w.2.2.2 with
          | true =>
            rw [if_pos rfl, flG_same hw]
            show ((if raceF k l w ∧ w.2.2.2 = false then (n : Int) else w.2.2.1), (w.2.2.2 || decide (raceF k l w))) = w.2.2
            rw [if_neg (fun h => by rw [hf] at h; exact absurd h.2 (by decide)), hf, Bool.true_or, ← hf]
          | false =>
            rw [if_neg (by simp), flG_set (n := n) hw hf]
            · rw [Nat.zero_add, hoN]
            · unfold acW; simp [hr]
            · unfold acW; simp [hr, hf]
        · rw [if_pos (hpr.2 fun h => hr (hrace.2 h)), flF_G, flF_G, flG_same hw]
          show ((if raceF k l w ∧ w.2.2.2 = false then (n : Int) else w.2.2.1), (w.2.2.2 || decide (raceF k l w))) = w.2.2
          rw [if_neg (fun h => hr h.1), decide_eq_false hr, Bool.or_false]
    · rw [de_no hcan2 (by omega) (by omega)]
      refine ⟨fun v w2 hw2 k2 u hk2 hu => ?_, ?_⟩
      · obtain ⟨hA, hB⟩ := hR v w2 hw2 k2 u hk2 hu
        refine ⟨fun q hq hqe => ?_, hB.imp id fun ⟨q, h1, h2, h3⟩ => ⟨q, by omega, h2, h3⟩⟩
        rcases Nat.lt_or_ge q n with h1 | h1
        · exact hA q h1 hqe
        · obtain rfl : q = n := by omega
          rw [he] at hqe; cases hqe; exact absurd hk2 hk
      · rw [if_pos]
        rw [hpr]
        rintro ⟨q, hq, hr⟩
        obtain ⟨a, ha⟩ := get_lt (l := es) (i := q) (by omega)
        rw [raceB_at ha he hq, Bool.and_eq_true, decide_eq_true_eq] at hr
        exact hk hr.1.2.1
end
end Go.Ab.DjO
set_option linter.unusedVariables false
set_option linter.unusedSimpArgs false
set_option maxRecDepth 100000
namespace Go.Ab.DjO
open Go Go.Proofs Go.Ab Go.Ab.Fe Go.Ab.Ord
theorem rlenR_spec (b : Nat) (es : List T3) (rs : List Int) (hb : es.length ≤ 2048) : Spec Try.prog 56 [.pointer (some ⟨b, 0, none⟩)] [ordR b es rs] (fun (_ : Unit) => .int .i64 ((es.length : Nat) : Int)) (fun _ => True) (fun _ => [ordR b es rs]) := by
 refine spec_mk (n := 10) Try.func56 rfl rfl rfl ?_
 intro Γ w0
 simp only [argE, List.cons_append, List.nil_append, Nat.zero_add, Nat.reduceAdd]
 refine c_seq ?_
 refine c_plain (.q 0 (.done)) (by kernel_rfl) ?_
 refine q_assign rfl rfl rfl rfl ?_
 refine r_done ?_
 refine k_then_n ?_
 refine c_seq ?_
 refine c_seq ?_
 refine c_plain (.q 0 (.q 1 (.done))) (by kernel_rfl) ?_
 refine q_move rfl rfl rfl rfl ?_
 refine q_eq_nil rfl rfl rfl rfl Try.underlying27 ?_
 refine s_eq 4 rfl (v' := .bool false) rfl ?_
 refine r_done ?_
 refine k_then_n ?_
 refine c_cond_f rfl ?_
 refine c_skip ?_
 refine k_then_n ?_
 refine c_seq ?_
 refine s_take (A := ordR b es rs) Tk ?_
 refine ord_open fun ea ec ra rc ba bc G hGl hGq => ?_
 refine c_plain (.q 0 (.q 1 (.q 2 (.q 3 (.q 4 (.q 5 (.done))))))) (by kernel_rfl) ?_
 refine q_move rfl rfl rfl rfl ?_
 refine q_nil_p rfl rfl rfl rfl ?_
 refine q_field (k := 0) rfl rfl rfl rfl Try.underlying71 rfl Try.sizeOf25 rfl ?_
 refine q_load_c (j := 0) rfl rfl rfl rfl Try.isAgg25 Tk (by first | rfl | exact (Nat.add_zero _).symm) (by rfl) ?_
 refine q_len rfl rfl rfl rfl Try.underlying25 ?_
 refine q_assign rfl rfl rfl rfl ?_
 refine r_done ?_
 refine s_keep [2] (e' := [(2, _)]) rfl ?_
 refine k_then_n ?_
 refine c_ret ?_
 refine ord_fold (b := b) (es := es) (rs := rs) Ts rfl rfl rfl hGl hGq ?_
 refine ret1 rfl rfl (()) (by first | rfl | (first | rfl | (congr 1; done) | (congr 1 <;> first | rfl | omega | (simp; done) | (simp; omega)))) (by trivial) ?_
 exact Tf
theorem risR_spec (b : Nat) (es : List T3) (rs : List Int) (hb : es.length ≤ 2048) (z : Int) : Spec Try.prog 40 [.pointer (some ⟨b, 0, none⟩), .int .i64 z] [ordR b es rs] (fun (_ : Unit) => .bool (decide (0 ≤ z ∧ z < ((es.length : Nat) : Int)))) (fun _ => True) (fun _ => [ordR b es rs]) := by
 refine spec_mk (n := 13) Try.func40 rfl rfl rfl ?_
 intro Γ w0
 simp only [argE, List.cons_append, List.nil_append, Nat.zero_add, Nat.reduceAdd]
 refine c_seq ?_
 refine c_plain (.q 0 (.done)) (by kernel_rfl) ?_
 refine q_assign rfl rfl rfl rfl ?_
 refine r_done ?_
 refine k_then_n ?_
 refine c_seq ?_
 refine c_plain (.q 0 (.q 1 (.q 2 (.q 3 (.q 4 ((.l 5 [] (.q 6 (.q 7 (.q 8 (.done))))))))))) (by kernel_rfl) ?_
 refine q_move rfl rfl rfl rfl ?_
 refine q_int rfl rfl rfl rfl rfl (b_geq _ _ _ _) ?_
 refine q_move rfl rfl rfl rfl ?_
 refine s_bool_p 7 rfl (fun hz => ?_) (fun hz => ?_)
 ·
  refine q_move rfl rfl rfl rfl ?_
  refine q_move rfl rfl rfl rfl ?_
  have sp_1 := rlenR_spec b es rs hb
  refine l_call rfl rfl rfl rfl rfl rfl Try.call56 (sp_1) Ts ?_
  rintro ⟨⟩ -
  try simp only [List.cons_append, List.nil_append]
  refine ag_nil ?_
  refine q_int rfl rfl rfl rfl rfl (b_lss _ _ _ _) ?_
  refine q_pick_t rfl rfl rfl rfl rfl ?_
  refine q_assign rfl rfl rfl rfl ?_
  refine r_done ?_
  refine s_keep [4] (e' := [(4, _)]) rfl ?_
  refine k_then_n ?_
  refine c_ret ?_
  refine ret1 rfl rfl (()) (by congr 1; first | (rw [decide_eq_decide]; omega) | (symm; rw [decide_eq_false_iff_not]; omega)) (by trivial) ?_
  exact Tf
 ·
  refine q_skip rfl rfl rfl rfl ?_
  refine q_skip rfl rfl rfl rfl ?_
  refine l_skip rfl rfl rfl rfl ?_
  refine q_skip rfl rfl rfl rfl ?_
  refine q_pick_f rfl rfl rfl rfl rfl ?_
  refine q_assign rfl rfl rfl rfl ?_
  refine r_done ?_
  refine s_keep [4] (e' := [(4, _)]) rfl ?_
  refine k_then_n ?_
  refine c_ret ?_
  refine ret1 rfl rfl (()) (by congr 1; first | (rw [decide_eq_decide]; omega) | (symm; rw [decide_eq_false_iff_not]; omega)) (by trivial) ?_
  exact Tf
theorem access_spec (k t o : Int) : Spec Try.prog 75 [.agg #[.int .i64 k, .int .i64 t, .int .i64 o]] [] (fun (_ : Unit) => .bool (decide (k = 1 ∨ k = 2))) (fun _ => True) (fun _ => []) := by
 refine spec_mk (n := 11) Try.func75 rfl rfl rfl ?_
 intro Γ w0
 simp only [argE, List.cons_append, List.nil_append, Nat.zero_add, Nat.reduceAdd]
 refine c_seq ?_
 refine c_plain ((.l 0 [] (.q 1 (.done)))) (by kernel_rfl) ?_
 refine l_box rfl rfl rfl rfl (us := [_, _, _]) rfl ?_
 intro b1
 refine ag_nil ?_
 refine q_assign rfl rfl rfl rfl ?_
 refine r_done ?_
 refine k_then_n ?_
 refine c_seq ?_
 refine c_plain (.q 0 (.q 1 (.q 2 (.q 3 (.q 4 (.q 5 (.q 6 (.q 7 (.q 8 (.done)))))))))) (by kernel_rfl) ?_
 refine q_field (k := 0) rfl rfl rfl rfl Try.underlying40 rfl Try.sizeOf38 rfl ?_
 refine q_load_c (j := 0) rfl rfl rfl rfl Try.isAgg38 Tk (by first | rfl | exact (Nat.add_zero _).symm) (by rfl) ?_
 refine q_int rfl rfl rfl rfl rfl (b_eql _ _ _ _) ?_
 refine q_move rfl rfl rfl rfl ?_
 refine s_bool_p 6 rfl (fun h1 => ?_) (fun h1 => ?_)
 ·
  refine q_skip rfl rfl rfl rfl ?_
  refine q_skip rfl rfl rfl rfl ?_
  refine q_skip rfl rfl rfl rfl ?_
  refine q_pick_t rfl rfl rfl rfl rfl ?_
  refine q_assign rfl rfl rfl rfl ?_
  refine r_done ?_
  refine s_keep [2] (e' := [(2, _)]) rfl ?_
  refine k_then_n ?_
  refine c_ret ?_
  refine ret1 rfl rfl (()) (by congr 1; first | (symm; rw [decide_eq_true_eq]; omega) | (rw [decide_eq_decide]; omega)) (by trivial) ?_
  exact Tf
 ·
  refine q_field (k := 0) rfl rfl rfl rfl Try.underlying40 rfl Try.sizeOf38 rfl ?_
  refine q_load_c (j := 0) rfl rfl rfl rfl Try.isAgg38 Tk (by first | rfl | exact (Nat.add_zero _).symm) (by rfl) ?_
  refine q_int rfl rfl rfl rfl rfl (b_eql _ _ _ _) ?_
  refine q_pick_f rfl rfl rfl rfl rfl ?_
  refine q_assign rfl rfl rfl rfl ?_
  refine r_done ?_
  refine s_keep [2] (e' := [(2, _)]) rfl ?_
  refine k_then_n ?_
  refine c_ret ?_
  refine ret1 rfl rfl (()) (by congr 1; first | (symm; rw [decide_eq_true_eq]; omega) | (rw [decide_eq_decide]; omega)) (by trivial) ?_
  exact Tf
theorem orace_spec (b : Nat) (es : List T3) (rs : List Int) (hb : es.length ≤ 2048) (i j : Nat) (hij : i < j) (hj : j < es.length) (x y : T3) (hx : es[i]? = some x) (hy : es[j]? = some y) : Spec Try.prog 59 [.pointer (some ⟨b, 0, none⟩), .int .i64 ((i : Nat) : Int), .int .i64 ((j : Nat) : Int)] [ordR b es rs] (fun (_ : Unit) => .bool (raceB es (rf rs) i j)) (fun _ => True) (fun _ => [ordR b es rs]) := by
 refine spec_mk (n := 81) Try.func59 rfl rfl rfl ?_
 intro Γ w0
 simp only [argE, List.cons_append, List.nil_append, Nat.zero_add, Nat.reduceAdd]
 have hi : i < es.length := by omega
 refine c_seq ?_
 refine c_plain (.q 0 (.done)) (by kernel_rfl) ?_
 refine q_assign rfl rfl rfl rfl ?_
 refine r_done ?_
 refine k_then_n ?_
 refine c_seq ?_
 refine c_seq ?_
 refine c_plain (.q 0 (.q 1 ((.l 2 [] (.q 3 (.q 4 (.q 5 (.q 6 ((.l 7 [] (.q 8 (.q 9 (.q 10 (.q 11 (.q 12 (.q 13 (.q 14 (.done)))))))))))))))))) (by kernel_rfl) ?_
 refine q_move rfl rfl rfl rfl ?_
 refine q_move rfl rfl rfl rfl ?_
 have sp_1 := risR_spec b es rs hb (i : Int)
 refine l_call rfl rfl rfl rfl rfl rfl Try.call40 (sp_1) Ts ?_
 rintro ⟨⟩ -
 try simp only [List.cons_append, List.nil_append]
 refine ag_nil ?_
 refine q_not rfl rfl rfl rfl ?_
 refine q_move rfl rfl rfl rfl ?_
 refine s_bool_np 13 rfl (fun hg => by exfalso; omega) (fun hg => ?_)
 refine q_move rfl rfl rfl rfl ?_
 refine q_move rfl rfl rfl rfl ?_
 have sp_2 := risR_spec b es rs hb (j : Int)
 refine l_call rfl rfl rfl rfl rfl rfl Try.call40 (sp_2) Ts ?_
 rintro ⟨⟩ -
 try simp only [List.cons_append, List.nil_append]
 refine ag_nil ?_
 refine q_not rfl rfl rfl rfl ?_
 refine q_pick_f rfl rfl rfl rfl rfl ?_
 refine q_move rfl rfl rfl rfl ?_
 refine s_bool_np 19 rfl (fun hg => by exfalso; omega) (fun hg => ?_)
 refine q_move rfl rfl rfl rfl ?_
 refine q_move rfl rfl rfl rfl ?_
 refine q_int rfl rfl rfl rfl rfl (b_geq _ _ _ _) ?_
 refine q_pick_f rfl rfl rfl rfl rfl ?_
 refine r_done ?_
 refine s_keep [0, 1, 2, 23] (e' := [(0, _), (1, _), (2, _), (23, _)]) rfl ?_
 refine k_then_n ?_
 refine c_cond_p rfl (fun hg => by exfalso; omega) (fun hg => ?_)
 refine c_skip ?_
 refine k_then_n ?_
 refine c_seq ?_
 refine s_take (A := ordR b es rs) Tk ?_
 refine ord_open fun ea ec ra rc ba bc G hGl hGq => ?_
 obtain ⟨gj, hgj⟩ := get_lt (l := G) (i := i) (by omega)
 have hgv := hGq i gj hgj
 refine s_owA (sz := 1) (enc := encB) (T := G) Tk hgj fun ho1 ho2 => ?_
 have hrj : RdS (bigS (owA 1 encB) G) gj.1 ((mks (hbF es (rf rs) i) es.length).flatMap encB) := rds_big (f := owA 1 encB) (List.mem_of_getElem? hgj) (by rw [← hgv]; exact rds_own encB_len ho1 ho2)
 refine c_plain (.q 0 (.q 1 (.q 2 (.q 3 (.q 4 (.q 5 (.q 6 ((.l 7 [] ((.l 8 [] (.done)))))))))))) (by kernel_rfl) ?_
 refine q_move rfl rfl rfl rfl ?_
 refine q_nil_p rfl rfl rfl rfl ?_
 refine q_field (k := 0) rfl rfl rfl rfl Try.underlying71 rfl Try.sizeOf25 rfl ?_
 refine q_load_c (j := 0) rfl rfl rfl rfl Try.isAgg25 Tk (by first | rfl | exact (Nat.add_zero _).symm) (by rfl) ?_
 refine q_move rfl rfl rfl rfl ?_
 refine q_idxO (sz := 2) (k := i) (enc := enc3) (xs := es) rfl rfl rfl rfl rfl Try.underlying25 Try.sizeOf40 hx (by first | rfl | omega) (by omega) Tk ?_
 intro ib29 io29 ha29 hl29 hc29
 refine q_loadN_O (j := 0) (k' := i) (us := [_, _, _]) (enc := enc3) (off := io29) rfl rfl rfl rfl Try.isAgg40 Try.sizeOf40 ha29 enc3_len hx Tk (by first | rfl | exact (Nat.add_zero _).symm | omega) (by rfl) rfl ?_
 refine l_alloc rfl rfl rfl Try.zeroValue40 (zs := [.int .i64 0, .int .i64 0, .int .i64 0]) rfl ?_
 intro b7
 refine ag_nil ?_
 refine l_store (j := 0) rfl rfl rfl rfl Try.sizeOf40 (us := [_, _, _]) rfl rfl rfl Tk (by first | rfl | exact (Nat.add_zero _).symm) (by first | decide | (simp; done) | omega) ?_
 simp only [setL, List.set]
 refine ag_nil ?_
 refine r_done ?_
 refine s_keep [0, 1, 2, 7] (e' := [(0, _), (1, _), (2, _), (7, _)]) rfl ?_
 refine k_then_n ?_
 refine c_seq ?_
 refine c_plain (.q 0 (.q 1 (.q 2 (.q 3 (.q 4 (.q 5 (.q 6 ((.l 7 [] ((.l 8 [] (.done)))))))))))) (by kernel_rfl) ?_
 refine q_move rfl rfl rfl rfl ?_
 refine q_nil_p rfl rfl rfl rfl ?_
 refine q_field (k := 0) rfl rfl rfl rfl Try.underlying71 rfl Try.sizeOf25 rfl ?_
 refine q_load_c (j := 0) rfl rfl rfl rfl Try.isAgg25 Tk (by first | rfl | exact (Nat.add_zero _).symm) (by rfl) ?_
 refine q_move rfl rfl rfl rfl ?_
 refine q_idxO (sz := 2) (k := j) (enc := enc3) (xs := es) rfl rfl rfl rfl rfl Try.underlying25 Try.sizeOf40 hy (by first | rfl | omega) (by omega) Tk ?_
 intro ib36 io36 ha36 hl36 hc36
 refine q_loadN_O (j := 0) (k' := j) (us := [_, _, _]) (enc := enc3) (off := io36) rfl rfl rfl rfl Try.isAgg40 Try.sizeOf40 ha36 enc3_len hy Tk (by first | rfl | exact (Nat.add_zero _).symm | omega) (by rfl) rfl ?_
 refine l_alloc rfl rfl rfl Try.zeroValue40 (zs := [.int .i64 0, .int .i64 0, .int .i64 0]) rfl ?_
 intro b8
 refine ag_nil ?_
 refine l_store (j := 0) rfl rfl rfl rfl Try.sizeOf40 (us := [_, _, _]) rfl rfl rfl Tk (by first | rfl | exact (Nat.add_zero _).symm) (by first | decide | (simp; done) | omega) ?_
 simp only [setL, List.set]
 refine ag_nil ?_
 refine r_done ?_
 refine s_keep [0, 1, 2, 7, 8] (e' := [(0, _), (1, _), (2, _), (7, _), (8, _)]) rfl ?_
 refine k_then_n ?_
 refine c_seq ?_
 refine c_plain (.q 0 ((.l 1 [] (.q 2 (.q 3 ((.l 4 [] (.q 5 (.q 6 (.q 7 (.q 8 (.q 9 (.q 10 (.q 11 (.q 12 (.q 13 (.q 14 (.q 15 (.q 16 (.q 17 (.q 18 (.q 19 (.q 20 (.q 21 (.q 22 (.q 23 (.q 24 (.q 25 (.q 26 (.q 27 (.q 28 (.q 29 (.q 30 (.q 31 (.q 32 (.q 33 (.q 34 (.q 35 (.q 36 (.q 37 (.q 38 (.q 39 (.q 40 (.q 41 (.q 42 (.q 43 (.done))))))))))))))))))))))))))))))))))))))))))))))) (by kernel_rfl) ?_
 refine q_loadN_c rfl rfl rfl rfl Try.isAgg40 Try.sizeOf40 Tk 0 (us := [_, _, _]) (by first | rfl | exact (Nat.add_zero _).symm) rfl rfl ?_
 have sp_3 := access_spec x.1 x.2.1 x.2.2
 refine l_call rfl rfl rfl rfl rfl rfl Try.call75 (sp_3) Ts ?_
 rintro ⟨⟩ -
 try simp only [List.cons_append, List.nil_append]
 refine ag_nil ?_
 refine q_move rfl rfl rfl rfl ?_
 refine s_bool_p 40 rfl (fun h2 => ?_) (fun h2 => ?_)
 ·
  refine q_loadN_c rfl rfl rfl rfl Try.isAgg40 Try.sizeOf40 Tk 0 (us := [_, _, _]) (by first | rfl | exact (Nat.add_zero _).symm) rfl rfl ?_
  have sp_4 := access_spec y.1 y.2.1 y.2.2
  refine l_call rfl rfl rfl rfl rfl rfl Try.call75 (sp_4) Ts ?_
  rintro ⟨⟩ -
  try simp only [List.cons_append, List.nil_append]
  refine ag_nil ?_
  refine q_pick_t rfl rfl rfl rfl rfl ?_
  refine q_move rfl rfl rfl rfl ?_
  refine s_bool_p 44 rfl (fun h6 => ?_) (fun h6 => ?_)
  ·
   refine q_field (k := 2) rfl rfl rfl rfl Try.underlying40 rfl Try.sizeOf3 rfl ?_
   refine q_load_c (j := 2) rfl rfl rfl rfl Try.isAgg3 Tk (by first | rfl | exact (Nat.add_zero _).symm) (by rfl) ?_
   refine q_field (k := 2) rfl rfl rfl rfl Try.underlying40 rfl Try.sizeOf3 rfl ?_
   refine q_load_c (j := 2) rfl rfl rfl rfl Try.isAgg3 Tk (by first | rfl | exact (Nat.add_zero _).symm) (by rfl) ?_
   refine q_int rfl rfl rfl rfl rfl (b_eql _ _ _ _) ?_
   refine q_pick_t rfl rfl rfl rfl rfl ?_
   refine q_move rfl rfl rfl rfl ?_
   refine s_bool_p 51 rfl (fun h13 => ?_) (fun h13 => ?_)
   ·
    refine q_field (k := 1) rfl rfl rfl rfl Try.underlying40 rfl Try.sizeOf3 rfl ?_
    refine q_load_c (j := 1) rfl rfl rfl rfl Try.isAgg3 Tk (by first | rfl | exact (Nat.add_zero _).symm) (by rfl) ?_
    refine q_field (k := 1) rfl rfl rfl rfl Try.underlying40 rfl Try.sizeOf3 rfl ?_
    refine q_load_c (j := 1) rfl rfl rfl rfl Try.isAgg3 Tk (by first | rfl | exact (Nat.add_zero _).symm) (by rfl) ?_
    refine q_int rfl rfl rfl rfl rfl (b_neq _ _ _ _) ?_
    refine q_pick_t rfl rfl rfl rfl rfl ?_
    refine q_move rfl rfl rfl rfl ?_
    refine s_bool_p 58 rfl (fun h20 => ?_) (fun h20 => ?_)
    ·
     refine q_field (k := 0) rfl rfl rfl rfl Try.underlying40 rfl Try.sizeOf38 rfl ?_
     refine q_load_c (j := 0) rfl rfl rfl rfl Try.isAgg38 Tk (by first | rfl | exact (Nat.add_zero _).symm) (by rfl) ?_
     refine q_int rfl rfl rfl rfl rfl (b_eql _ _ _ _) ?_
     refine q_move rfl rfl rfl rfl ?_
     refine s_bool_p 62 rfl (fun h24 => ?_) (fun h24 => ?_)
     ·
      refine q_skip rfl rfl rfl rfl ?_
      refine q_skip rfl rfl rfl rfl ?_
      refine q_skip rfl rfl rfl rfl ?_
      refine q_pick_t rfl rfl rfl rfl rfl ?_
      refine q_pick_t rfl rfl rfl rfl rfl ?_
      refine q_move rfl rfl rfl rfl ?_
      refine q_move rfl rfl rfl rfl ?_
      refine q_nil_p rfl rfl rfl rfl ?_
      refine q_field (k := 2) rfl rfl rfl rfl Try.underlying71 rfl Try.sizeOf69 rfl ?_
      refine q_load_c (j := 2) rfl rfl rfl rfl Try.isAgg69 Tk (by first | rfl | exact (Nat.add_zero _).symm) (by rfl) ?_
      refine q_move rfl rfl rfl rfl ?_
      refine q_idxO (sz := 0) (k := i) (enc := encH) (xs := G) rfl rfl rfl rfl rfl Try.underlying69 Try.sizeOf94 hgj (by first | rfl | omega) (by omega) Tk ?_
      intro ib74 io74 ha74 hl74 hc74
      refine q_load_O (v := (.slice gj.1 gj.2.2.length gj.2.1)) (j := 0) (k' := i) (enc := encH) (off := io74) rfl rfl rfl rfl Try.isAgg94 ha74 encH_len hgj Tk (by first | rfl | exact (Nat.add_zero _).symm | omega) (by rfl) ?_
      refine q_move rfl rfl rfl rfl ?_
      have hk_5 : (mks (hbF es (rf rs) i) es.length)[j]? = some (hbF es (rf rs) i j) := (mks_get _ (by omega))
      refine q_idxR (sz := 0) (k := j) rfl rfl rfl rfl rfl Try.underlying94 Try.sizeOf4 (hrj) hk_5 encB_len (by first | rfl | omega) (by rw [hgv, mks_len]; omega) ?_
      intro ib77 io77 _ hd77
      refine q_load rfl rfl rfl rfl Try.isAgg4 Tk (hd77 0 (.bool (hbF es (rf rs) i j)) rfl) ?_
      refine q_not rfl rfl rfl rfl ?_
      refine q_pick_t rfl rfl rfl rfl rfl ?_
      refine q_assign rfl rfl rfl rfl ?_
      refine r_done ?_
      refine s_keep [6] (e' := [(6, _)]) rfl ?_
      refine k_then_n ?_
      refine c_ret ?_
      refine ord_fold (b := b) (es := es) (rs := rs) Ts rfl rfl rfl hGl hGq ?_
      refine ret1 rfl rfl (()) (by congr 1; first | (symm; rw [raceB_at hx hy hij, decide_eq_false (fun h => by unfold confP accP at h; omega), Bool.false_and]; done) | rw [raceB_at hx hy hij, decide_eq_true (by unfold confP accP; omega), Bool.true_and]) (by trivial) ?_
      exact Tf
     ·
      refine q_field (k := 0) rfl rfl rfl rfl Try.underlying40 rfl Try.sizeOf38 rfl ?_
      refine q_load_c (j := 0) rfl rfl rfl rfl Try.isAgg38 Tk (by first | rfl | exact (Nat.add_zero _).symm) (by rfl) ?_
      refine q_int rfl rfl rfl rfl rfl (b_eql _ _ _ _) ?_
      refine q_pick_f rfl rfl rfl rfl rfl ?_
      refine q_pick_t rfl rfl rfl rfl rfl ?_
      refine q_move rfl rfl rfl rfl ?_
      refine s_bool_p 68 rfl (fun h30 => ?_) (fun h30 => ?_)
      ·
       refine q_move rfl rfl rfl rfl ?_
       refine q_nil_p rfl rfl rfl rfl ?_
       refine q_field (k := 2) rfl rfl rfl rfl Try.underlying71 rfl Try.sizeOf69 rfl ?_
       refine q_load_c (j := 2) rfl rfl rfl rfl Try.isAgg69 Tk (by first | rfl | exact (Nat.add_zero _).symm) (by rfl) ?_
       refine q_move rfl rfl rfl rfl ?_
       refine q_idxO (sz := 0) (k := i) (enc := encH) (xs := G) rfl rfl rfl rfl rfl Try.underlying69 Try.sizeOf94 hgj (by first | rfl | omega) (by omega) Tk ?_
       intro ib74 io74 ha74 hl74 hc74
       refine q_load_O (v := (.slice gj.1 gj.2.2.length gj.2.1)) (j := 0) (k' := i) (enc := encH) (off := io74) rfl rfl rfl rfl Try.isAgg94 ha74 encH_len hgj Tk (by first | rfl | exact (Nat.add_zero _).symm | omega) (by rfl) ?_
       refine q_move rfl rfl rfl rfl ?_
       have hk_6 : (mks (hbF es (rf rs) i) es.length)[j]? = some (hbF es (rf rs) i j) := (mks_get _ (by omega))
       refine q_idxR (sz := 0) (k := j) rfl rfl rfl rfl rfl Try.underlying94 Try.sizeOf4 (hrj) hk_6 encB_len (by first | rfl | omega) (by rw [hgv, mks_len]; omega) ?_
       intro ib77 io77 _ hd77
       refine q_load rfl rfl rfl rfl Try.isAgg4 Tk (hd77 0 (.bool (hbF es (rf rs) i j)) rfl) ?_
       refine q_not rfl rfl rfl rfl ?_
       refine q_pick_t rfl rfl rfl rfl rfl ?_
       refine q_assign rfl rfl rfl rfl ?_
       refine r_done ?_
       refine s_keep [6] (e' := [(6, _)]) rfl ?_
       refine k_then_n ?_
       refine c_ret ?_
       refine ord_fold (b := b) (es := es) (rs := rs) Ts rfl rfl rfl hGl hGq ?_
       refine ret1 rfl rfl (()) (by congr 1; first | (symm; rw [raceB_at hx hy hij, decide_eq_false (fun h => by unfold confP accP at h; omega), Bool.false_and]; done) | rw [raceB_at hx hy hij, decide_eq_true (by unfold confP accP; omega), Bool.true_and]) (by trivial) ?_
       exact Tf
      ·
       refine q_skip rfl rfl rfl rfl ?_
       refine q_skip rfl rfl rfl rfl ?_
       refine q_skip rfl rfl rfl rfl ?_
       refine q_skip rfl rfl rfl rfl ?_
       refine q_skip rfl rfl rfl rfl ?_
       refine q_skip rfl rfl rfl rfl ?_
       refine q_skip rfl rfl rfl rfl ?_
       refine q_skip rfl rfl rfl rfl ?_
       refine q_skip rfl rfl rfl rfl ?_
       refine q_skip rfl rfl rfl rfl ?_
       refine q_skip rfl rfl rfl rfl ?_
       refine q_pick_f rfl rfl rfl rfl rfl ?_
       refine q_assign rfl rfl rfl rfl ?_
       refine r_done ?_
       refine s_keep [6] (e' := [(6, _)]) rfl ?_
       refine k_then_n ?_
       refine c_ret ?_
       refine ord_fold (b := b) (es := es) (rs := rs) Ts rfl rfl rfl hGl hGq ?_
       refine ret1 rfl rfl (()) (by congr 1; first | (symm; rw [raceB_at hx hy hij, decide_eq_false (fun h => by unfold confP accP at h; omega), Bool.false_and]; done) | rw [raceB_at hx hy hij, decide_eq_true (by unfold confP accP; omega), Bool.true_and]) (by trivial) ?_
       exact Tf
    ·
     refine q_skip rfl rfl rfl rfl ?_
     refine q_skip rfl rfl rfl rfl ?_
     refine q_skip rfl rfl rfl rfl ?_
     refine q_skip rfl rfl rfl rfl ?_
     refine q_skip rfl rfl rfl rfl ?_
     refine q_skip rfl rfl rfl rfl ?_
     refine q_skip rfl rfl rfl rfl ?_
     refine q_skip rfl rfl rfl rfl ?_
     refine q_pick_f rfl rfl rfl rfl rfl ?_
     refine q_move rfl rfl rfl rfl ?_
     refine q_skip rfl rfl rfl rfl ?_
     refine q_skip rfl rfl rfl rfl ?_
     refine q_skip rfl rfl rfl rfl ?_
     refine q_skip rfl rfl rfl rfl ?_
     refine q_skip rfl rfl rfl rfl ?_
     refine q_skip rfl rfl rfl rfl ?_
     refine q_skip rfl rfl rfl rfl ?_
     refine q_skip rfl rfl rfl rfl ?_
     refine q_skip rfl rfl rfl rfl ?_
     refine q_skip rfl rfl rfl rfl ?_
     refine q_skip rfl rfl rfl rfl ?_
     refine q_pick_f rfl rfl rfl rfl rfl ?_
     refine q_assign rfl rfl rfl rfl ?_
     refine r_done ?_
     refine s_keep [6] (e' := [(6, _)]) rfl ?_
     refine k_then_n ?_
     refine c_ret ?_
     refine ord_fold (b := b) (es := es) (rs := rs) Ts rfl rfl rfl hGl hGq ?_
     refine ret1 rfl rfl (()) (by congr 1; first | (symm; rw [raceB_at hx hy hij, decide_eq_false (fun h => by unfold confP accP at h; omega), Bool.false_and]; done) | rw [raceB_at hx hy hij, decide_eq_true (by unfold confP accP; omega), Bool.true_and]) (by trivial) ?_
     exact Tf
   ·
    refine q_skip rfl rfl rfl rfl ?_
    refine q_skip rfl rfl rfl rfl ?_
    refine q_skip rfl rfl rfl rfl ?_
    refine q_skip rfl rfl rfl rfl ?_
    refine q_skip rfl rfl rfl rfl ?_
    refine q_pick_f rfl rfl rfl rfl rfl ?_
    refine q_move rfl rfl rfl rfl ?_
    refine q_skip rfl rfl rfl rfl ?_
    refine q_skip rfl rfl rfl rfl ?_
    refine q_skip rfl rfl rfl rfl ?_
    refine q_skip rfl rfl rfl rfl ?_
    refine q_skip rfl rfl rfl rfl ?_
    refine q_skip rfl rfl rfl rfl ?_
    refine q_skip rfl rfl rfl rfl ?_
    refine q_skip rfl rfl rfl rfl ?_
    refine q_pick_f rfl rfl rfl rfl rfl ?_
    refine q_move rfl rfl rfl rfl ?_
    refine q_skip rfl rfl rfl rfl ?_
    refine q_skip rfl rfl rfl rfl ?_
    refine q_skip rfl rfl rfl rfl ?_
    refine q_skip rfl rfl rfl rfl ?_
    refine q_skip rfl rfl rfl rfl ?_
    refine q_skip rfl rfl rfl rfl ?_
    refine q_skip rfl rfl rfl rfl ?_
    refine q_skip rfl rfl rfl rfl ?_
    refine q_skip rfl rfl rfl rfl ?_
    refine q_skip rfl rfl rfl rfl ?_
    refine q_skip rfl rfl rfl rfl ?_
    refine q_pick_f rfl rfl rfl rfl rfl ?_
    refine q_assign rfl rfl rfl rfl ?_
    refine r_done ?_
    refine s_keep [6] (e' := [(6, _)]) rfl ?_
    refine k_then_n ?_
    refine c_ret ?_
    refine ord_fold (b := b) (es := es) (rs := rs) Ts rfl rfl rfl hGl hGq ?_
    refine ret1 rfl rfl (()) (by congr 1; first | (symm; rw [raceB_at hx hy hij, decide_eq_false (fun h => by unfold confP accP at h; omega), Bool.false_and]; done) | rw [raceB_at hx hy hij, decide_eq_true (by unfold confP accP; omega), Bool.true_and]) (by trivial) ?_
    exact Tf
  ·
   refine q_skip rfl rfl rfl rfl ?_
   refine q_skip rfl rfl rfl rfl ?_
   refine q_skip rfl rfl rfl rfl ?_
   refine q_skip rfl rfl rfl rfl ?_
   refine q_skip rfl rfl rfl rfl ?_
   refine q_pick_f rfl rfl rfl rfl rfl ?_
   refine q_move rfl rfl rfl rfl ?_
   refine q_skip rfl rfl rfl rfl ?_
   refine q_skip rfl rfl rfl rfl ?_
   refine q_skip rfl rfl rfl rfl ?_
   refine q_skip rfl rfl rfl rfl ?_
   refine q_skip rfl rfl rfl rfl ?_
   refine q_pick_f rfl rfl rfl rfl rfl ?_
   refine q_move rfl rfl rfl rfl ?_
   refine q_skip rfl rfl rfl rfl ?_
   refine q_skip rfl rfl rfl rfl ?_
   refine q_skip rfl rfl rfl rfl ?_
   refine q_skip rfl rfl rfl rfl ?_
   refine q_skip rfl rfl rfl rfl ?_
   refine q_skip rfl rfl rfl rfl ?_
   refine q_skip rfl rfl rfl rfl ?_
   refine q_skip rfl rfl rfl rfl ?_
   refine q_pick_f rfl rfl rfl rfl rfl ?_
   refine q_move rfl rfl rfl rfl ?_
   refine q_skip rfl rfl rfl rfl ?_
   refine q_skip rfl rfl rfl rfl ?_
   refine q_skip rfl rfl rfl rfl ?_
   refine q_skip rfl rfl rfl rfl ?_
   refine q_skip rfl rfl rfl rfl ?_
   refine q_skip rfl rfl rfl rfl ?_
   refine q_skip rfl rfl rfl rfl ?_
   refine q_skip rfl rfl rfl rfl ?_
   refine q_skip rfl rfl rfl rfl ?_
   refine q_skip rfl rfl rfl rfl ?_
   refine q_skip rfl rfl rfl rfl ?_
   refine q_pick_f rfl rfl rfl rfl rfl ?_
   refine q_assign rfl rfl rfl rfl ?_
   refine r_done ?_
   refine s_keep [6] (e' := [(6, _)]) rfl ?_
   refine k_then_n ?_
   refine c_ret ?_
   refine ord_fold (b := b) (es := es) (rs := rs) Ts rfl rfl rfl hGl hGq ?_
   refine ret1 rfl rfl (()) (by congr 1; first | (symm; rw [raceB_at hx hy hij, decide_eq_false (fun h => by unfold confP accP at h; omega), Bool.false_and]; done) | rw [raceB_at hx hy hij, decide_eq_true (by unfold confP accP; omega), Bool.true_and]) (by trivial) ?_
   exact Tf
 ·
  refine q_skip rfl rfl rfl rfl ?_
  refine l_skip rfl rfl rfl rfl ?_
  refine q_pick_f rfl rfl rfl rfl rfl ?_
  refine q_move rfl rfl rfl rfl ?_
  refine q_skip rfl rfl rfl rfl ?_
  refine q_skip rfl rfl rfl rfl ?_
  refine q_skip rfl rfl rfl rfl ?_
  refine q_skip rfl rfl rfl rfl ?_
  refine q_skip rfl rfl rfl rfl ?_
  refine q_pick_f rfl rfl rfl rfl rfl ?_
  refine q_move rfl rfl rfl rfl ?_
  refine q_skip rfl rfl rfl rfl ?_
  refine q_skip rfl rfl rfl rfl ?_
  refine q_skip rfl rfl rfl rfl ?_
  refine q_skip rfl rfl rfl rfl ?_
  refine q_skip rfl rfl rfl rfl ?_
  refine q_pick_f rfl rfl rfl rfl rfl ?_
  refine q_move rfl rfl rfl rfl ?_
  refine q_skip rfl rfl rfl rfl ?_
  refine q_skip rfl rfl rfl rfl ?_
  refine q_skip rfl rfl rfl rfl ?_
  refine q_skip rfl rfl rfl rfl ?_
  refine q_skip rfl rfl rfl rfl ?_
  refine q_skip rfl rfl rfl rfl ?_
  refine q_skip rfl rfl rfl rfl ?_
  refine q_skip rfl rfl rfl rfl ?_
  refine q_pick_f rfl rfl rfl rfl rfl ?_
  refine q_move rfl rfl rfl rfl ?_
  refine q_skip rfl rfl rfl rfl ?_
  refine q_skip rfl rfl rfl rfl ?_
  refine q_skip rfl rfl rfl rfl ?_
  refine q_skip rfl rfl rfl rfl ?_
  refine q_skip rfl rfl rfl rfl ?_
  refine q_skip rfl rfl rfl rfl ?_
  refine q_skip rfl rfl rfl rfl ?_
  refine q_skip rfl rfl rfl rfl ?_
  refine q_skip rfl rfl rfl rfl ?_
  refine q_skip rfl rfl rfl rfl ?_
  refine q_skip rfl rfl rfl rfl ?_
  refine q_pick_f rfl rfl rfl rfl rfl ?_
  refine q_assign rfl rfl rfl rfl ?_
  refine r_done ?_
  refine s_keep [6] (e' := [(6, _)]) rfl ?_
  refine k_then_n ?_
  refine c_ret ?_
  refine ord_fold (b := b) (es := es) (rs := rs) Ts rfl rfl rfl hGl hGq ?_
  refine ret1 rfl rfl (()) (by congr 1; first | (symm; rw [raceB_at hx hy hij, decide_eq_false (fun h => by unfold confP accP at h; omega), Bool.false_and]; done) | rw [raceB_at hx hy hij, decide_eq_true (by unfold confP accP; omega), Bool.true_and]) (by trivial) ?_
  exact Tf
theorem oall_spec (b : Nat) (es : List T3) (rs : List Int) (hb : es.length ≤ 2048) : Spec Try.prog 43 [.pointer (some ⟨b, 0, none⟩)] [ordR b es rs] (fun (r : Option Addr × Nat) => .slice r.1 (allL es (rf rs) es.length).length r.2) (fun r => True) (fun r => [ordR b es rs, own 3 enc3 r.1 r.2 (allL es (rf rs) es.length)]) := by
 refine spec_mk (n := 36) Try.func43 rfl rfl rfl ?_
 intro Γ w0
 simp only [argE, List.cons_append, List.nil_append, Nat.zero_add, Nat.reduceAdd]
 refine c_seq ?_
 refine c_plain (.q 0 (.done)) (by kernel_rfl) ?_
 refine q_assign rfl rfl rfl rfl ?_
 refine r_done ?_
 refine k_then_n ?_
 refine c_seq ?_
 refine c_plain (.q 0 (.done)) (by kernel_rfl) ?_
 refine q_assign rfl rfl rfl rfl ?_
 refine r_done ?_
 refine k_then_n ?_
 refine c_seq ?_
 refine c_seq ?_
 refine c_plain (.q 0 (.done)) (by kernel_rfl) ?_
 refine q_assign rfl rfl rfl rfl ?_
 refine r_done ?_
 refine k_then_n ?_
 refine c_block ?_
 refine s_heap (fun _ h => own_nil (sz := 3) (enc := enc3) h) ?_
 refine c_loop2 (α := Nat × Option Addr × Nat) (fun (x_ : Nat × Option Addr × Nat) => match x_ with | (j, ga, gc) => j ≤ es.length) (fun (x_ : Nat × Option Addr × Nat) => match x_ with | (j, ga, gc) => [(3, .slice ga ((allL es (rf rs) j).length) gc), (4, .int .i64 ((j : Nat) : Int))]) (fun (x_ : Nat × Option Addr × Nat) => match x_ with | (j, ga, gc) => [own 3 enc3 ga gc (allL es (rf rs) j)]) (fun (x_ : Nat × Option Addr × Nat) => match x_ with | (j, ga, gc) => es.length - j) [0] (er := [(0, _)]) rfl (0, none, 0) ?_ (by exact ⟨rfl, rfl, trivial⟩) (by (try dsimp only); rw [show allL es (rf rs) 0 = [] from rfl]; (repeat ((with_reducible apply Z2); focus (first | (with_reducible (repeat (first | exact Z0 | apply Z1)); done) | (repeat (first | exact Z0 | apply Z1))))); exact Z3) ?_
 · exact Nat.zero_le _
 rintro ⟨j, ga, gc⟩ hle_j
 try simp only [List.cons_append, List.nil_append]
 have hAl := allL_len (es := es) (R := rf rs) (m := j) (by omega)
 refine c_seq ?_
 refine c_seq ?_
 refine c_plain (.q 0 (.q 1 ((.l 2 [] (.q 3 (.done)))))) (by kernel_rfl) ?_
 refine q_move rfl rfl rfl rfl ?_
 refine q_move rfl rfl rfl rfl ?_
 have sp_1 := rlenR_spec b es rs hb
 refine l_call rfl rfl rfl rfl rfl rfl Try.call56 (sp_1) Ts ?_
 rintro ⟨⟩ -
 try simp only [List.cons_append, List.nil_append]
 refine ag_nil ?_
 refine q_int rfl rfl rfl rfl rfl (b_lss _ _ _ _) ?_
 refine r_done ?_
 refine k_then_n ?_
 refine c_cond_p rfl (fun hj => ?_) (fun hj => ?_)
 ·
  refine c_skip ?_
  refine k_then_n ?_
  refine c_seq ?_
  refine c_block ?_
  refine c_seq ?_
  refine c_plain (.q 0 (.done)) (by kernel_rfl) ?_
  refine q_assign rfl rfl rfl rfl ?_
  refine r_done ?_
  refine s_keep [0, 3, 4, 5] (e' := [(0, _), (3, _), (4, _), (5, _)]) rfl ?_
  refine k_then_n ?_
  refine c_block ?_
  refine s_eq 3 rfl (v' := .slice ga (allL es (rf rs) j ++ prs es (rf rs) j 0).length gc) (by rw [show prs es (rf rs) j 0 = [] from rfl, List.append_nil]) ?_
  refine c_loop2 (α := Nat × Option Addr × Nat) (fun (x_ : Nat × Option Addr × Nat) => match x_ with | (i, ha, hc) => i ≤ j) (fun (x_ : Nat × Option Addr × Nat) => match x_ with | (i, ha, hc) => [(3, .slice ha ((allL es (rf rs) j ++ prs es (rf rs) j i).length) hc), (5, .int .i64 ((i : Nat) : Int))]) (fun (x_ : Nat × Option Addr × Nat) => match x_ with | (i, ha, hc) => [own 3 enc3 ha hc (allL es (rf rs) j ++ prs es (rf rs) j i)]) (fun (x_ : Nat × Option Addr × Nat) => match x_ with | (i, ha, hc) => j - i) [0, 4] (er := [(0, _), (4, _)]) rfl (0, ga, gc) ?_ (by exact ⟨rfl, rfl, trivial⟩) (by (try dsimp only); rw [show prs es (rf rs) j 0 = [] from rfl, List.append_nil]; (repeat ((with_reducible apply Z2); focus (first | (with_reducible (repeat (first | exact Z0 | apply Z1)); done) | (repeat (first | exact Z0 | apply Z1))))); exact Z3) ?_
  · exact Nat.zero_le _
  rintro ⟨i, ha, hc⟩ hle_i
  try simp only [List.cons_append, List.nil_append]
  have hPl := prs_len (es := es) (R := rf rs) (j := j) (i := i)
  have hApl : (allL es (rf rs) j ++ prs es (rf rs) j i).length = (allL es (rf rs) j).length + (prs es (rf rs) j i).length := List.length_append
  obtain ⟨y, hy⟩ := get_lt (l := es) (i := j) (by omega)
  refine c_seq ?_
  refine c_seq ?_
  refine c_plain (.q 0 (.q 1 (.q 2 (.done)))) (by kernel_rfl) ?_
  refine q_move rfl rfl rfl rfl ?_
  refine q_move rfl rfl rfl rfl ?_
  refine q_int rfl rfl rfl rfl rfl (b_lss _ _ _ _) ?_
  refine r_done ?_
  refine k_then_n ?_
  refine c_cond_p rfl (fun hi => ?_) (fun hi => ?_)
  ·
   obtain ⟨x, hx⟩ := get_lt (l := es) (i := i) (by omega)
   refine c_skip ?_
   refine k_then_n ?_
   refine c_seq ?_
   refine c_block ?_
   refine c_seq ?_
   refine c_plain (.q 0 (.q 1 (.q 2 ((.l 3 [] (.done)))))) (by kernel_rfl) ?_
   refine q_move rfl rfl rfl rfl ?_
   refine q_move rfl rfl rfl rfl ?_
   refine q_move rfl rfl rfl rfl ?_
   have sp_2 := orace_spec b es rs hb i j (by omega) (by omega) x y hx hy
   refine l_call rfl rfl rfl rfl rfl rfl Try.call59 (sp_2) Ts ?_
   rintro ⟨⟩ -
   try simp only [List.cons_append, List.nil_append]
   refine ag_nil ?_
   refine r_done ?_
   refine s_keep [0, 3, 4, 5, 20] (e' := [(0, _), (3, _), (4, _), (5, _), (20, _)]) rfl ?_
   refine k_then_n ?_
   refine c_cond rfl (fun hr => ?_) (fun hr => ?_)
   ·
    try simp only [Bool.and_eq_true, Bool.or_eq_true, Bool.not_eq_true', Bool.not_eq_false', Bool.and_eq_false_iff, Bool.or_eq_false_iff, decide_eq_true_eq, decide_eq_false_iff_not] at hr
    refine s_take (A := ordR b es rs) Tk ?_
    refine ord_open fun ea ec ra rc ba bc G hGl hGq => ?_
    refine c_plain (.q 0 (.q 1 (.q 2 (.q 3 (.q 4 (.q 5 (.q 6 (.q 7 (.q 8 (.q 9 (.q 10 (.q 11 ((.l 12 [] ((.l 13 [] (.q 14 (.done)))))))))))))))))) (by kernel_rfl) ?_
    refine q_move rfl rfl rfl rfl ?_
    refine q_move rfl rfl rfl rfl ?_
    refine q_nil_p rfl rfl rfl rfl ?_
    refine q_field (k := 0) rfl rfl rfl rfl Try.underlying71 rfl Try.sizeOf25 rfl ?_
    refine q_load_c (j := 0) rfl rfl rfl rfl Try.isAgg25 Tk (by first | rfl | exact (Nat.add_zero _).symm) (by rfl) ?_
    refine q_move rfl rfl rfl rfl ?_
    refine q_idxO (sz := 2) (k := j) (enc := enc3) (xs := es) rfl rfl rfl rfl rfl Try.underlying25 Try.sizeOf40 hy (by first | rfl | omega) (by omega) Tk ?_
    intro ib27 io27 ha27 hl27 hc27
    refine q_field (k := 2) rfl rfl rfl rfl Try.underlying40 rfl Try.sizeOf3 rfl ?_
    refine q_load_O (v := (.int .i64 y.2.2)) (j := 2) (k' := j) (enc := enc3) (off := io27) rfl rfl rfl rfl Try.isAgg3 ha27 enc3_len hy Tk (by first | rfl | exact (Nat.add_zero _).symm | omega) (by rfl) ?_
    refine q_move rfl rfl rfl rfl ?_
    refine q_move rfl rfl rfl rfl ?_
    refine q_build rfl rfl rfl rfl (vs := [_, _, _]) (run_buildS Try.underlying103 Try.zeroValue103 (ps := [(0, 1), (1, 1), (2, 1)]) ⟨rfl, Try.sizeOf3, rfl, Try.sizeOf3, rfl, Try.sizeOf3, trivial⟩ rfl) ?_
    refine l_buildSlice rfl rfl rfl rfl (run_build1 (us := [_, _, _]) Try.underlying100 Try.sizeOf103 rfl Try.zeroValue103 rfl rfl rfl) ?_
    intro b33
    refine ag_nil ?_
    refine l_append (sz := 3) (enc := enc3) (xs := (allL es (rf rs) j ++ prs es (rf rs) j i)) rfl rfl rfl rfl rfl Try.underlying100 Try.typeInfo103 rfl rfl rfl (by decide) Tk Tk (by first | rfl | omega | (simp; done) | (simp; omega)) (ys := [(y.2.2, ((i : Nat) : Int), ((j : Nat) : Int))]) (rds_some rdn_cells) (by rfl) (by first | rfl | omega) (enc3_len) (enc3_one) (by omega) (by show _ * 24 ≤ _; omega) ?_
    intro ao34 cp34
    refine ag_nil ?_
    refine q_assign rfl rfl rfl rfl ?_
    refine r_done ?_
    refine ord_fold (b := b) (es := es) (rs := rs) Ts rfl rfl rfl hGl hGq ?_
    refine s_keep [0, 3, 4, 5] (e' := [(0, _), (3, _), (4, _), (5, _)]) rfl ?_
    refine k_blk_n ?_
    refine k_then_n ?_
    refine c_plain (.q 0 (.q 1 (.q 2 (.done)))) (by kernel_rfl) ?_
    refine q_move rfl rfl rfl rfl ?_
    refine q_int rfl rfl rfl rfl rfl (b_add' _ (by exact fits_i64 (by omega) (by omega))) ?_
    refine q_assign rfl rfl rfl rfl ?_
    refine r_done ?_
    refine k_then_n ?_
    have hnx : (allL es (rf rs) j ++ prs es (rf rs) j i) ++ [(y.2.2, ((i : Nat) : Int), ((j : Nat) : Int))] = (allL es (rf rs) j ++ prs es (rf rs) j (i + 1)) := by rw [prs_next, if_pos hr, ← List.append_assoc, show objN es j = y.2.2 from by rw [objN, getD_some hy]]
    rw [hnx]
    refine s_eq 3 rfl (v' := .slice ao34 (allL es (rf rs) j ++ prs es (rf rs) j (i + 1)).length cp34) (by congr 1; rw [← hnx]; simp [Nat.add_assoc]) ?_
    refine s_eq 3 rfl (v' := .slice ao34 ((allL es (rf rs) j ++ prs es (rf rs) j (i + 1)).length) cp34) (by first | rfl | (congr 1; done) | (congr 1 <;> first | rfl | omega | (simp; done) | (simp; omega))) ?_
    refine loop_next (x := (i, ha, hc)) ((i + 1, ao34, cp34)) ?_ ?_ ?_ ?_
    · try dsimp only
      show i + 1 ≤ j; omega
    · show j - (i + 1) < j - i; omega
    · exact ⟨rfl, rfl, rfl, rfl, trivial⟩
    · (try simp only [List.cons_append, List.nil_append]); exact Tf
   ·
    try simp only [Bool.and_eq_true, Bool.or_eq_true, Bool.not_eq_true', Bool.not_eq_false', Bool.and_eq_false_iff, Bool.or_eq_false_iff, decide_eq_true_eq, decide_eq_false_iff_not] at hr
    refine c_skip ?_
    refine k_blk_n ?_
    refine k_then_n ?_
    refine c_plain (.q 0 (.q 1 (.q 2 (.done)))) (by kernel_rfl) ?_
    refine q_move rfl rfl rfl rfl ?_
    refine q_int rfl rfl rfl rfl rfl (b_add' _ (by exact fits_i64 (by omega) (by omega))) ?_
    refine q_assign rfl rfl rfl rfl ?_
    refine r_done ?_
    refine k_then_n ?_
    have hnx : (allL es (rf rs) j ++ prs es (rf rs) j i) = (allL es (rf rs) j ++ prs es (rf rs) j (i + 1)) := by rw [prs_next, if_neg (by rw [hr]; decide), List.append_nil]
    rw [hnx]
    refine s_eq 3 rfl (v' := .slice ha ((allL es (rf rs) j ++ prs es (rf rs) j (i + 1)).length) hc) (by first | rfl | (congr 1; done) | (congr 1 <;> first | rfl | omega | (simp; done) | (simp; omega))) ?_
    refine loop_next (x := (i, ha, hc)) ((i + 1, ha, hc)) ?_ ?_ ?_ ?_
    · try dsimp only
      show i + 1 ≤ j; omega
    · show j - (i + 1) < j - i; omega
    · exact ⟨rfl, rfl, rfl, rfl, trivial⟩
    · (try simp only [List.cons_append, List.nil_append]); exact Tf
  ·
   obtain rfl : j = i := by omega
   rw [← allL_next]
   refine c_exit ?_
   refine k_then_exit ?_
   refine k_then_exit ?_
   refine k_blk_here ?_
   refine k_blk_n ?_
   refine k_then_n ?_
   refine c_plain (.q 0 (.q 1 (.q 2 (.done)))) (by kernel_rfl) ?_
   refine q_move rfl rfl rfl rfl ?_
   refine q_int rfl rfl rfl rfl rfl (b_add' _ (by exact fits_i64 (by omega) (by omega))) ?_
   refine q_assign rfl rfl rfl rfl ?_
   refine r_done ?_
   refine s_keep [0, 3, 4] (e' := [(0, _), (3, _), (4, _)]) rfl ?_
   refine k_then_n ?_
   refine s_eq 3 rfl (v' := .slice ha ((allL es (rf rs) (j + 1)).length) hc) (by first | rfl | (congr 1; done) | (congr 1 <;> first | rfl | omega | (simp; done) | (simp; omega))) ?_
   refine loop_next (x := (j, ga, gc)) ((j + 1, ha, hc)) ?_ ?_ ?_ ?_
   · try dsimp only
     show j + 1 ≤ es.length; omega
   · show es.length - (j + 1) < es.length - j; omega
   · exact ⟨rfl, rfl, rfl, trivial⟩
   · (try simp only [List.cons_append, List.nil_append]); exact Tf
 ·
  obtain rfl : j = es.length := by omega
  refine c_exit ?_
  refine k_then_exit ?_
  refine k_then_exit ?_
  refine k_blk_here ?_
  refine k_then_n ?_
  refine c_seq ?_
  refine c_plain (.q 0 (.q 1 (.done))) (by kernel_rfl) ?_
  refine q_move rfl rfl rfl rfl ?_
  refine q_assign rfl rfl rfl rfl ?_
  refine r_done ?_
  refine s_keep [2] (e' := [(2, _)]) rfl ?_
  refine k_then_n ?_
  refine c_ret ?_
  refine ret1 rfl rfl ((ga, gc)) (by first | rfl | (first | rfl | (congr 1; done) | (congr 1 <;> first | rfl | omega | (simp; done) | (simp; omega)))) (by trivial) ?_
  exact Tf
theorem oflags_spec (b : Nat) (es : List T3) (rs : List Int) (hb : es.length ≤ 2048) (n : Nat) (hnl : n ≤ es.length) : Spec Try.prog 19 [.pointer (some ⟨b, 0, none⟩), .int .i64 ((n : Nat) : Int)] [ordR b es rs] (fun (r : Option Addr × Nat) => .slice r.1 (flagsL (allL es (rf rs) n)).length r.2) (fun r => True) (fun r => [ordR b es rs, own 2 enc2 r.1 r.2 (flagsL (allL es (rf rs) n))]) := by
 refine spec_mk (n := 103) Try.func19 rfl rfl rfl ?_
 intro Γ w0
 simp only [argE, List.cons_append, List.nil_append, Nat.zero_add, Nat.reduceAdd]
 refine c_seq ?_
 refine c_plain (.q 0 (.done)) (by kernel_rfl) ?_
 refine q_assign rfl rfl rfl rfl ?_
 refine r_done ?_
 refine k_then_n ?_
 refine c_seq ?_
 refine c_plain (.q 0 (.done)) (by kernel_rfl) ?_
 refine q_assign rfl rfl rfl rfl ?_
 refine r_done ?_
 refine k_then_n ?_
 refine c_seq ?_
 refine c_plain (.q 0 ((.l 1 [] (.q 2 (.done))))) (by kernel_rfl) ?_
 refine q_move rfl rfl rfl rfl ?_
 have sp_1 := oall_spec b es rs hb
 refine l_call rfl rfl rfl rfl rfl rfl Try.call43 (sp_1) Ts ?_
 rintro ⟨La, Lc⟩ -
 try simp only [List.cons_append, List.nil_append]
 refine ag_nil ?_
 refine q_assign rfl rfl rfl rfl ?_
 refine r_done ?_
 have hLl := allL_len (es := es) (R := rf rs) (m := es.length) (by omega)
 obtain ⟨r, hLr, hr⟩ := allL_cut (es := es) (R := rf rs) hnl
 obtain ⟨L, hL⟩ : ∃ y, y = allL es (rf rs) es.length := ⟨_, rfl⟩
 rw [← hL] at hLl hLr ⊢
 refine s_keep [1, 5, 6] (e' := [(1, _), (5, _), (6, _)]) rfl ?_
 refine k_then_n ?_
 refine c_seq ?_
 refine c_seq ?_
 refine c_plain (.q 0 (.done)) (by kernel_rfl) ?_
 refine q_assign rfl rfl rfl rfl ?_
 refine r_done ?_
 refine k_then_n ?_
 refine c_block ?_
 refine s_heap (fun _ h => own_nil (sz := 2) (enc := enc2) h) ?_
 refine c_loop2 (α := Nat × Option Addr × Nat) (fun (x_ : Nat × Option Addr × Nat) => match x_ with | (i, fa, fc) => i ≤ L.length ∧ (∀ p ∈ L.take i, p.2.2 < (n : Int))) (fun (x_ : Nat × Option Addr × Nat) => match x_ with | (i, fa, fc) => [(5, .slice fa ((flagsL (L.take i)).length) fc), (7, .int .i64 ((i : Nat) : Int))]) (fun (x_ : Nat × Option Addr × Nat) => match x_ with | (i, fa, fc) => [own 2 enc2 fa fc (flagsL (L.take i))]) (fun (x_ : Nat × Option Addr × Nat) => match x_ with | (i, fa, fc) => L.length - i) [1, 6] (er := [(1, _), (6, _)]) rfl (0, none, 0) ?_ (by exact ⟨rfl, rfl, trivial⟩) (by (try dsimp only); rw [List.take_zero, show flagsL [] = [] from rfl]; (repeat ((with_reducible apply Z2); focus (first | (with_reducible (repeat (first | exact Z0 | apply Z1)); done) | (repeat (first | exact Z0 | apply Z1))))); exact Z3) ?_
 · exact ⟨Nat.zero_le _, fun p hp => by simp at hp⟩
 rintro ⟨i, fa, fc⟩ ⟨hle_i, hIs⟩
 try simp only [List.cons_append, List.nil_append]
 have hFl := flagsL_len (L := L.take i) (l := [])
 rw [show List.foldl fl1 [] (L.take i) = flagsL (L.take i) from rfl, List.length_take] at hFl
 simp only [List.length_nil] at hFl
 refine c_seq ?_
 refine c_seq ?_
 refine c_plain (.q 0 (.q 1 (.q 2 (.q 3 (.done))))) (by kernel_rfl) ?_
 refine q_move rfl rfl rfl rfl ?_
 refine q_move rfl rfl rfl rfl ?_
 refine q_len rfl rfl rfl rfl Try.underlying100 ?_
 refine q_int rfl rfl rfl rfl rfl (b_lss _ _ _ _) ?_
 refine r_done ?_
 refine k_then_n ?_
 refine c_cond_p rfl (fun hilt => ?_) (fun hilt => ?_)
 ·
  obtain ⟨p, hp⟩ := get_lt (l := L) (i := i) (by omega)
  obtain ⟨FL, hFL⟩ : ∃ y, y = flagsL (L.take i) := ⟨_, rfl⟩
  rw [← hFL] at hFl ⊢
  refine c_skip ?_
  refine k_then_n ?_
  refine c_seq ?_
  refine c_block ?_
  refine c_seq ?_
  refine c_seq ?_
  refine c_plain (.q 0 (.q 1 (.q 2 (.q 3 (.q 4 (.q 5 (.q 6 (.done)))))))) (by kernel_rfl) ?_
  refine q_move rfl rfl rfl rfl ?_
  refine q_move rfl rfl rfl rfl ?_
  refine q_idxO (sz := 2) (k := i) (enc := enc3) (xs := L) rfl rfl rfl rfl rfl Try.underlying100 Try.sizeOf103 hp (by first | rfl | omega) (by omega) Tk ?_
  intro ib22 io22 ha22 hl22 hc22
  refine q_field (k := 2) rfl rfl rfl rfl Try.underlying103 rfl Try.sizeOf3 rfl ?_
  refine q_load_O (v := (.int .i64 p.2.2)) (j := 2) (k' := i) (enc := enc3) (off := io22) rfl rfl rfl rfl Try.isAgg3 ha22 enc3_len hp Tk (by first | rfl | exact (Nat.add_zero _).symm | omega) (by rfl) ?_
  refine q_move rfl rfl rfl rfl ?_
  refine q_int rfl rfl rfl rfl rfl (b_geq _ _ _ _) ?_
  refine r_done ?_
  refine s_keep [1, 5, 6, 7, 26] (e' := [(1, _), (5, _), (6, _), (7, _), (26, _)]) rfl ?_
  refine k_then_n ?_
  refine c_cond_p rfl (fun hsec => ?_) (fun hsec => ?_)
  ·
   rw [hFL]
   have hLn : L.take i = allL es (rf rs) n := by
     have h1 : (allL es (rf rs) n).length = i := by
       rcases Nat.lt_trichotomy i (allL es (rf rs) n).length with h | h | h
       · exfalso
         rw [hLr, List.getElem?_append_left h] at hp
         have := allL_sec (List.mem_of_getElem? hp); omega
       · exact h.symm
       · exfalso
         obtain ⟨z, hz⟩ := get_lt (l := L) (i := (allL es (rf rs) n).length) (by omega)
         have h2 := hIs z (List.mem_of_getElem? (i := (allL es (rf rs) n).length) (by rw [List.getElem?_take_of_lt h]; exact hz))
         rw [hLr, List.getElem?_append_right (Nat.le_refl _)] at hz
         have := hr z (List.mem_of_getElem? hz); omega
     rw [hLr, ← h1, List.take_left']
     rfl
   rw [hLn]
   refine c_exit ?_
   refine k_then_exit ?_
   refine k_blk_out rfl ?_
   refine k_then_exit ?_
   refine k_then_exit ?_
   refine k_blk_here ?_
   refine k_then_n ?_
   refine c_seq ?_
   refine c_plain (.q 0 (.q 1 (.done))) (by kernel_rfl) ?_
   refine q_move rfl rfl rfl rfl ?_
   refine q_assign rfl rfl rfl rfl ?_
   refine r_done ?_
   refine s_keep [4] (e' := [(4, _)]) rfl ?_
   refine k_then_n ?_
   refine c_ret ?_
   refine ret1 rfl rfl ((fa, fc)) (by first | rfl | (first | rfl | (congr 1; done) | (congr 1 <;> first | rfl | omega | (simp; done) | (simp; omega)))) (by trivial) ?_
   exact Tf
  ·
   refine c_skip ?_
   refine k_then_n ?_
   refine c_seq ?_
   refine c_plain (.q 0 (.done)) (by kernel_rfl) ?_
   refine q_assign rfl rfl rfl rfl ?_
   refine r_done ?_
   refine k_then_n ?_
   refine c_seq ?_
   refine c_plain (.q 0 (.done)) (by kernel_rfl) ?_
   refine q_assign rfl rfl rfl rfl ?_
   refine r_done ?_
   refine k_then_n ?_
   refine c_seq ?_
   refine c_plain (.q 0 (.done)) (by kernel_rfl) ?_
   refine q_assign rfl rfl rfl rfl ?_
   refine r_done ?_
   refine k_then_n ?_
   refine c_seq ?_
   refine c_seq ?_
   refine c_plain (.q 0 (.done)) (by kernel_rfl) ?_
   refine q_assign rfl rfl rfl rfl ?_
   refine r_done ?_
   refine k_then_n ?_
   refine c_block ?_
   refine s_heap (fun _ h => own_nil (sz := 2) (enc := enc2) h) ?_
   refine c_loop2 (α := Nat × Option Addr × Nat) (fun (x_ : Nat × Option Addr × Nat) => match x_ with | (k, ma, mc) => k ≤ FL.length) (fun (x_ : Nat × Option Addr × Nat) => match x_ with | (k, ma, mc) => [(8, .slice ma ((insB (p.1, p.2.2) (FL.take k)).length) mc), (9, .bool (laidB p.1 (FL.take k))), (10, .bool (hasV (FL.take k) p.1)), (11, .int .i64 ((k : Nat) : Int))]) (fun (x_ : Nat × Option Addr × Nat) => match x_ with | (k, ma, mc) => [own 2 enc2 ma mc (insB (p.1, p.2.2) (FL.take k))]) (fun (x_ : Nat × Option Addr × Nat) => match x_ with | (k, ma, mc) => FL.length - k) [1, 5, 6, 7] (er := [(1, _), (5, _), (6, _), (7, _)]) rfl (0, none, 0) ?_ (by exact ⟨rfl, rfl, rfl, rfl, trivial⟩) (by (try dsimp only); rw [List.take_zero, show insB (p.1, p.2.2) [] = [] from rfl]; (repeat ((with_reducible apply Z2); focus (first | (with_reducible (repeat (first | exact Z0 | apply Z1)); done) | (repeat (first | exact Z0 | apply Z1))))); exact Z3) ?_
   · exact Nat.zero_le _
   rintro ⟨k, ma, mc⟩ hle_k
   try simp only [List.cons_append, List.nil_append]
   have hMl : (insB (p.1, p.2.2) (FL.take k)).length ≤ FL.length + 1 := by
     unfold insB; split
     · rw [ins_len, List.length_take]; omega
     · rw [List.length_take]; omega
   refine c_seq ?_
   refine c_seq ?_
   refine c_plain (.q 0 (.q 1 (.q 2 (.q 3 (.done))))) (by kernel_rfl) ?_
   refine q_move rfl rfl rfl rfl ?_
   refine q_move rfl rfl rfl rfl ?_
   refine q_len rfl rfl rfl rfl Try.underlying48 ?_
   refine q_int rfl rfl rfl rfl rfl (b_lss _ _ _ _) ?_
   refine r_done ?_
   refine k_then_n ?_
   refine c_cond_p rfl (fun hklt => ?_) (fun hklt => ?_)
   ·
    obtain ⟨q, hq⟩ := get_lt (l := FL) (i := k) (by omega)
    refine c_skip ?_
    refine k_then_n ?_
    refine c_seq ?_
    refine c_block ?_
    refine c_seqJ (α := Unit) (fun (z_ : Unit) => True) (fun (z_ : Unit) => [(10, .bool (hasV (FL.take (k + 1)) p.1))]) (fun (z_ : Unit) => []) [1, 5, 6, 7, 8, 9, 11] (er := [(1, _), (5, _), (6, _), (7, _), (8, _), (9, _), (11, _)]) rfl [] Ts ?_ ?_
    ·
     refine c_draw rfl (.q 0 (.q 1 (.q 2 (.q 3 (.q 4 (.q 5 (.q 6 (.q 7 (.q 8 (.q 9 (.q 10 (.q 11 (.q 12 (.q 13 ((.l 14 [] (.done))))))))))))))))) (by kernel_rfl) ?_
     refine q_move rfl rfl rfl rfl ?_
     refine q_move rfl rfl rfl rfl ?_
     refine s_bool 34 rfl (fun hth => ?_) (fun hth => ?_)
     ·
      try simp only [Bool.and_eq_true, Bool.or_eq_true, Bool.not_eq_true', Bool.not_eq_false', Bool.and_eq_false_iff, Bool.or_eq_false_iff, decide_eq_true_eq, decide_eq_false_iff_not] at hth
      refine q_skip rfl rfl rfl rfl ?_
      refine q_skip rfl rfl rfl rfl ?_
      refine q_skip rfl rfl rfl rfl ?_
      refine q_skip rfl rfl rfl rfl ?_
      refine q_skip rfl rfl rfl rfl ?_
      refine q_skip rfl rfl rfl rfl ?_
      refine q_skip rfl rfl rfl rfl ?_
      refine q_skip rfl rfl rfl rfl ?_
      refine q_skip rfl rfl rfl rfl ?_
      refine q_skip rfl rfl rfl rfl ?_
      refine q_skip rfl rfl rfl rfl ?_
      refine q_pick_t rfl rfl rfl rfl rfl ?_
      refine l_assign rfl rfl rfl rfl ?_
      refine ag_nil ?_
      refine r_done ?_
      refine s_keep [1, 5, 6, 7, 8, 9, 10, 11] (e' := [(1, _), (5, _), (6, _), (7, _), (8, _), (9, _), (10, _), (11, _)]) rfl ?_
      refine k_then_n ?_
      refine s_eq 10 rfl (v' := .bool (hasV (FL.take (k + 1)) p.1)) (by congr 1; rw [take_next hq, has_snoc, hth]; simp) ?_
      refine join_next (()) (by trivial) (by exact ⟨rfl, rfl, rfl, rfl, rfl, rfl, rfl, rfl, trivial⟩) (by (try simp only [List.cons_append, List.nil_append]); (repeat ((with_reducible apply Z2); focus (first | (with_reducible (repeat (first | exact Z0 | apply Z1)); done) | (repeat (first | exact Z0 | apply Z1))))); (repeat (first | exact Z3 | exact Takes.self | refine takes_drop2 ?_)))
     ·
      try simp only [Bool.and_eq_true, Bool.or_eq_true, Bool.not_eq_true', Bool.not_eq_false', Bool.and_eq_false_iff, Bool.or_eq_false_iff, decide_eq_true_eq, decide_eq_false_iff_not] at hth
      refine q_move rfl rfl rfl rfl ?_
      refine q_move rfl rfl rfl rfl ?_
      refine q_idxO (sz := 1) (k := k) (enc := enc2) (xs := FL) rfl rfl rfl rfl rfl Try.underlying48 Try.sizeOf67 hq (by first | rfl | omega) (by omega) Tk ?_
      intro ib37 io37 ha37 hl37 hc37
      refine q_field (k := 0) rfl rfl rfl rfl Try.underlying67 rfl Try.sizeOf3 rfl ?_
      refine q_load_O (v := (.int .i64 q.1)) (j := 0) (k' := k) (enc := enc2) (off := io37) rfl rfl rfl rfl Try.isAgg3 ha37 enc2_len hq Tk (by first | rfl | exact (Nat.add_zero _).symm | omega) (by rfl) ?_
      refine q_move rfl rfl rfl rfl ?_
      refine q_move rfl rfl rfl rfl ?_
      refine q_idxO (sz := 2) (k := i) (enc := enc3) (xs := L) rfl rfl rfl rfl rfl Try.underlying100 Try.sizeOf103 hp (by first | rfl | omega) (by omega) Tk ?_
      intro ib42 io42 ha42 hl42 hc42
      refine q_field (k := 0) rfl rfl rfl rfl Try.underlying103 rfl Try.sizeOf3 rfl ?_
      refine q_load_O (v := (.int .i64 p.1)) (j := 0) (k' := i) (enc := enc3) (off := io42) rfl rfl rfl rfl Try.isAgg3 ha42 enc3_len hp Tk (by first | rfl | exact (Nat.add_zero _).symm | omega) (by rfl) ?_
      refine q_int rfl rfl rfl rfl rfl (b_eql _ _ _ _) ?_
      refine q_pick_f rfl rfl rfl rfl rfl ?_
      refine l_assign rfl rfl rfl rfl ?_
      refine ag_nil ?_
      refine r_done ?_
      refine s_keep [1, 5, 6, 7, 8, 9, 10, 11] (e' := [(1, _), (5, _), (6, _), (7, _), (8, _), (9, _), (10, _), (11, _)]) rfl ?_
      refine k_then_n ?_
      refine s_eq 10 rfl (v' := .bool (hasV (FL.take (k + 1)) p.1)) (by congr 1; rw [take_next hq, has_snoc, hth]; simp) ?_
      refine join_next (()) (by trivial) (by exact ⟨rfl, rfl, rfl, rfl, rfl, rfl, rfl, rfl, trivial⟩) (by (try simp only [List.cons_append, List.nil_append]); (repeat ((with_reducible apply Z2); focus (first | (with_reducible (repeat (first | exact Z0 | apply Z1)); done) | (repeat (first | exact Z0 | apply Z1))))); (repeat (first | exact Z3 | exact Takes.self | refine takes_drop2 ?_)))
    ·
     rintro ⟨⟩ -
     try simp only [List.cons_append, List.nil_append]
     refine c_seq ?_
     refine c_seq ?_
     refine c_draw rfl (.q 0 (.q 1 (.q 2 (.q 3 (.q 4 (.q 5 (.q 6 (.q 7 (.q 8 (.q 9 (.q 10 (.q 11 (.q 12 (.q 13 (.q 14 (.done)))))))))))))))) (by kernel_rfl) ?_
     refine q_move rfl rfl rfl rfl ?_
     refine q_not rfl rfl rfl rfl ?_
     refine q_move rfl rfl rfl rfl ?_
     refine s_bool 49 rfl (fun hla => ?_) (fun hla => ?_)
     ·
      try simp only [Bool.and_eq_true, Bool.or_eq_true, Bool.not_eq_true', Bool.not_eq_false', Bool.and_eq_false_iff, Bool.or_eq_false_iff, decide_eq_true_eq, decide_eq_false_iff_not] at hla
      refine q_move rfl rfl rfl rfl ?_
      refine q_move rfl rfl rfl rfl ?_
      refine q_idxO (sz := 1) (k := k) (enc := enc2) (xs := FL) rfl rfl rfl rfl rfl Try.underlying48 Try.sizeOf67 hq (by first | rfl | omega) (by omega) Tk ?_
      intro ib52 io52 ha52 hl52 hc52
      refine q_field (k := 0) rfl rfl rfl rfl Try.underlying67 rfl Try.sizeOf3 rfl ?_
      refine q_load_O (v := (.int .i64 q.1)) (j := 0) (k' := k) (enc := enc2) (off := io52) rfl rfl rfl rfl Try.isAgg3 ha52 enc2_len hq Tk (by first | rfl | exact (Nat.add_zero _).symm | omega) (by rfl) ?_
      refine q_move rfl rfl rfl rfl ?_
      refine q_move rfl rfl rfl rfl ?_
      refine q_idxO (sz := 2) (k := i) (enc := enc3) (xs := L) rfl rfl rfl rfl rfl Try.underlying100 Try.sizeOf103 hp (by first | rfl | omega) (by omega) Tk ?_
      intro ib57 io57 ha57 hl57 hc57
      refine q_field (k := 0) rfl rfl rfl rfl Try.underlying103 rfl Try.sizeOf3 rfl ?_
      refine q_load_O (v := (.int .i64 p.1)) (j := 0) (k' := i) (enc := enc3) (off := io57) rfl rfl rfl rfl Try.isAgg3 ha57 enc3_len hp Tk (by first | rfl | exact (Nat.add_zero _).symm | omega) (by rfl) ?_
      refine q_int rfl rfl rfl rfl rfl (b_gtr _ _ _ _) ?_
      refine q_pick_t rfl rfl rfl rfl rfl ?_
      refine r_done ?_
      refine k_then_n ?_
      refine c_cond_p rfl (fun hlt2 => ?_) (fun hlt2 => ?_)
      ·
       refine c_seq ?_
       refine c_draw rfl (.q 0 (.q 1 (.q 2 (.q 3 (.q 4 (.q 5 (.q 6 (.q 7 (.q 8 (.q 9 (.q 10 (.q 11 ((.l 12 [] ((.l 13 [] ((.l 14 [] (.done))))))))))))))))))) (by kernel_rfl) ?_
       refine q_move rfl rfl rfl rfl ?_
       refine q_move rfl rfl rfl rfl ?_
       refine q_move rfl rfl rfl rfl ?_
       refine q_idxO (sz := 2) (k := i) (enc := enc3) (xs := L) rfl rfl rfl rfl rfl Try.underlying100 Try.sizeOf103 hp (by first | rfl | omega) (by omega) Tk ?_
       intro ib65 io65 ha65 hl65 hc65
       refine q_field (k := 0) rfl rfl rfl rfl Try.underlying103 rfl Try.sizeOf3 rfl ?_
       refine q_load_O (v := (.int .i64 p.1)) (j := 0) (k' := i) (enc := enc3) (off := io65) rfl rfl rfl rfl Try.isAgg3 ha65 enc3_len hp Tk (by first | rfl | exact (Nat.add_zero _).symm | omega) (by rfl) ?_
       refine q_move rfl rfl rfl rfl ?_
       refine q_move rfl rfl rfl rfl ?_
       refine q_idxO (sz := 2) (k := i) (enc := enc3) (xs := L) rfl rfl rfl rfl rfl Try.underlying100 Try.sizeOf103 hp (by first | rfl | omega) (by omega) Tk ?_
       intro ib70 io70 ha70 hl70 hc70
       refine q_field (k := 2) rfl rfl rfl rfl Try.underlying103 rfl Try.sizeOf3 rfl ?_
       refine q_load_O (v := (.int .i64 p.2.2)) (j := 2) (k' := i) (enc := enc3) (off := io70) rfl rfl rfl rfl Try.isAgg3 ha70 enc3_len hp Tk (by first | rfl | exact (Nat.add_zero _).symm | omega) (by rfl) ?_
       refine q_build rfl rfl rfl rfl (vs := [_, _]) (run_buildS Try.underlying67 Try.zeroValue67 (ps := [(0, 1), (1, 1)]) ⟨rfl, Try.sizeOf3, rfl, Try.sizeOf3, trivial⟩ rfl) ?_
       refine l_buildSlice rfl rfl rfl rfl (run_build1 (us := [_, _]) Try.underlying48 Try.sizeOf67 rfl Try.zeroValue67 rfl rfl rfl) ?_
       intro b74
       refine ag_nil ?_
       refine l_append (sz := 2) (enc := enc2) (xs := (insB (p.1, p.2.2) (FL.take k))) rfl rfl rfl rfl rfl Try.underlying48 Try.typeInfo67 rfl rfl rfl (by decide) Tk Tk (by first | rfl | omega | (simp; done) | (simp; omega)) (ys := [(p.1, p.2.2)]) (rds_some rdn_cells) (by rfl) (by first | rfl | omega) (enc2_len) (enc2_one) (by omega) (by show _ * 16 ≤ _; omega) ?_
       intro ao75 cp75
       refine ag_nil ?_
       refine l_assign rfl rfl rfl rfl ?_
       refine ag_nil ?_
       refine r_done ?_
       refine s_keep [1, 5, 6, 7, 8, 10, 11, 50, 51, 52, 53, 54, 55, 56, 57, 58, 59, 60] (e' := [(1, _), (5, _), (6, _), (7, _), (8, _), (10, _), (11, _), (50, _), (51, _), (52, _), (53, _), (54, _), (55, _), (56, _), (57, _), (58, _), (59, _), (60, _)]) rfl ?_
       refine k_then_n ?_
       refine c_plain (.q 0 (.done)) (by kernel_rfl) ?_
       refine q_assign rfl rfl rfl rfl ?_
       refine r_done ?_
       refine k_then_n ?_
       refine c_plain (.q 0 (.q 1 (.q 2 (.q 3 (.q 4 ((.l 5 [] ((.l 6 [] (.q 7 (.done))))))))))) (by kernel_rfl) ?_
       refine q_move rfl rfl rfl rfl ?_
       refine q_move rfl rfl rfl rfl ?_
       refine q_move rfl rfl rfl rfl ?_
       refine q_idxO (sz := 1) (k := k) (enc := enc2) (xs := FL) rfl rfl rfl rfl rfl Try.underlying48 Try.sizeOf67 hq (by first | rfl | omega) (by omega) Tk ?_
       intro ib79 io79 ha79 hl79 hc79
       refine q_loadN_O (j := 0) (k' := k) (us := [_, _]) (enc := enc2) (off := io79) rfl rfl rfl rfl Try.isAgg67 Try.sizeOf67 ha79 enc2_len hq Tk (by first | rfl | exact (Nat.add_zero _).symm | omega) (by rfl) rfl ?_
       refine l_buildSlice rfl rfl rfl rfl (run_build1 (us := [_, _]) Try.underlying48 Try.sizeOf67 rfl Try.zeroValue67 rfl rfl rfl) ?_
       intro b81
       refine ag_nil ?_
       refine l_append (sz := 2) (enc := enc2) (xs := ((insB (p.1, p.2.2) (FL.take k)) ++ ([(p.1, p.2.2)]))) rfl rfl rfl rfl rfl Try.underlying48 Try.typeInfo67 rfl rfl rfl (by decide) Tk Tk (by first | rfl | omega | (simp; done) | (simp; omega)) (ys := [q]) (rds_some rdn_cells) (by rfl) (by first | rfl | omega) (enc2_len) (enc2_one) (by omega) (by show _ * 16 ≤ _; omega) ?_
       intro ao82 cp82
       refine ag_nil ?_
       refine q_assign rfl rfl rfl rfl ?_
       refine r_done ?_
       refine s_keep [1, 5, 6, 7, 8, 9, 10, 11, 50, 51, 52, 53, 54, 55, 56, 57, 58, 59, 60] (e' := [(1, _), (5, _), (6, _), (7, _), (8, _), (9, _), (10, _), (11, _), (50, _), (51, _), (52, _), (53, _), (54, _), (55, _), (56, _), (57, _), (58, _), (59, _), (60, _)]) rfl ?_
       refine k_blk_n ?_
       refine k_then_n ?_
       refine c_plain (.q 0 (.q 1 (.q 2 (.done)))) (by kernel_rfl) ?_
       refine q_move rfl rfl rfl rfl ?_
       refine q_int rfl rfl rfl rfl rfl (b_add' _ (by exact fits_i64 (by omega) (by omega))) ?_
       refine q_assign rfl rfl rfl rfl ?_
       refine r_done ?_
       refine k_then_n ?_
       have hmk : (((insB (p.1, p.2.2) (FL.take k)) ++ ([(p.1, p.2.2)])) ++ ([q])) = (insB (p.1, p.2.2) (FL.take (k + 1))) := by rw [take_next hq, insB_snoc, if_pos ⟨by simpa using hla, hlt2⟩]
       rw [hmk]
       refine s_eq 8 rfl (v' := .slice ao82 (insB (p.1, p.2.2) (FL.take (k + 1))).length cp82) (by congr 1; rw [← hmk]; simp) ?_
       refine s_eq 9 rfl (v' := .bool (laidB p.1 (FL.take (k + 1)))) (by congr 1; rw [take_next hq, laid_snoc, decide_eq_true (show p.1 < q.1 from hlt2), Bool.or_true]) ?_
       refine s_eq 8 rfl (v' := .slice ao82 ((insB (p.1, p.2.2) (FL.take (k + 1))).length) cp82) (by first | rfl | (congr 1; done) | (congr 1 <;> first | rfl | omega | (simp; done) | (simp; omega))) ?_
       refine loop_next (x := (k, ma, mc)) ((k + 1, ao82, cp82)) ?_ ?_ ?_ ?_
       · try dsimp only
         show k + 1 ≤ FL.length; omega
       · show FL.length - (k + 1) < FL.length - k; omega
       · exact ⟨rfl, rfl, rfl, rfl, rfl, rfl, rfl, rfl, trivial⟩
       · (try simp only [List.cons_append, List.nil_append]); exact Tf
      ·
       refine c_skip ?_
       refine k_then_n ?_
       refine c_plain (.q 0 (.q 1 (.q 2 (.q 3 (.q 4 ((.l 5 [] ((.l 6 [] (.q 7 (.done))))))))))) (by kernel_rfl) ?_
       refine q_move rfl rfl rfl rfl ?_
       refine q_move rfl rfl rfl rfl ?_
       refine q_move rfl rfl rfl rfl ?_
       refine q_idxO (sz := 1) (k := k) (enc := enc2) (xs := FL) rfl rfl rfl rfl rfl Try.underlying48 Try.sizeOf67 hq (by first | rfl | omega) (by omega) Tk ?_
       intro ib79 io79 ha79 hl79 hc79
       refine q_loadN_O (j := 0) (k' := k) (us := [_, _]) (enc := enc2) (off := io79) rfl rfl rfl rfl Try.isAgg67 Try.sizeOf67 ha79 enc2_len hq Tk (by first | rfl | exact (Nat.add_zero _).symm | omega) (by rfl) rfl ?_
       refine l_buildSlice rfl rfl rfl rfl (run_build1 (us := [_, _]) Try.underlying48 Try.sizeOf67 rfl Try.zeroValue67 rfl rfl rfl) ?_
       intro b81
       refine ag_nil ?_
       refine l_append (sz := 2) (enc := enc2) (xs := (insB (p.1, p.2.2) (FL.take k))) rfl rfl rfl rfl rfl Try.underlying48 Try.typeInfo67 rfl rfl rfl (by decide) Tk Tk (by first | rfl | omega | (simp; done) | (simp; omega)) (ys := [q]) (rds_some rdn_cells) (by rfl) (by first | rfl | omega) (enc2_len) (enc2_one) (by omega) (by show _ * 16 ≤ _; omega) ?_
       intro ao82 cp82
       refine ag_nil ?_
       refine q_assign rfl rfl rfl rfl ?_
       refine r_done ?_
       refine s_keep [1, 5, 6, 7, 8, 9, 10, 11, 50, 51, 52, 53, 54, 55, 56, 57, 58, 59, 60] (e' := [(1, _), (5, _), (6, _), (7, _), (8, _), (9, _), (10, _), (11, _), (50, _), (51, _), (52, _), (53, _), (54, _), (55, _), (56, _), (57, _), (58, _), (59, _), (60, _)]) rfl ?_
       refine k_blk_n ?_
       refine k_then_n ?_
       refine c_plain (.q 0 (.q 1 (.q 2 (.done)))) (by kernel_rfl) ?_
       refine q_move rfl rfl rfl rfl ?_
       refine q_int rfl rfl rfl rfl rfl (b_add' _ (by exact fits_i64 (by omega) (by omega))) ?_
       refine q_assign rfl rfl rfl rfl ?_
       refine r_done ?_
       refine k_then_n ?_
       have hmk : ((insB (p.1, p.2.2) (FL.take k)) ++ ([q])) = (insB (p.1, p.2.2) (FL.take (k + 1))) := by rw [take_next hq, insB_snoc, if_neg (fun h => hlt2 h.2)]
       rw [hmk]
       refine s_eq 8 rfl (v' := .slice ao82 (insB (p.1, p.2.2) (FL.take (k + 1))).length cp82) (by congr 1; rw [← hmk]; simp) ?_
       refine s_eq 9 rfl (v' := .bool (laidB p.1 (FL.take (k + 1)))) (by congr 1; rw [take_next hq, laid_snoc, decide_eq_false (show ¬ p.1 < q.1 from hlt2), Bool.or_false]) ?_
       refine s_eq 8 rfl (v' := .slice ao82 ((insB (p.1, p.2.2) (FL.take (k + 1))).length) cp82) (by first | rfl | (congr 1; done) | (congr 1 <;> first | rfl | omega | (simp; done) | (simp; omega))) ?_
       refine loop_next (x := (k, ma, mc)) ((k + 1, ao82, cp82)) ?_ ?_ ?_ ?_
       · try dsimp only
         show k + 1 ≤ FL.length; omega
       · show FL.length - (k + 1) < FL.length - k; omega
       · exact ⟨rfl, rfl, rfl, rfl, rfl, rfl, rfl, rfl, trivial⟩
       · (try simp only [List.cons_append, List.nil_append]); exact Tf
     ·
      try simp only [Bool.and_eq_true, Bool.or_eq_true, Bool.not_eq_true', Bool.not_eq_false', Bool.and_eq_false_iff, Bool.or_eq_false_iff, decide_eq_true_eq, decide_eq_false_iff_not] at hla
      refine q_skip rfl rfl rfl rfl ?_
      refine q_skip rfl rfl rfl rfl ?_
      refine q_skip rfl rfl rfl rfl ?_
      refine q_skip rfl rfl rfl rfl ?_
      refine q_skip rfl rfl rfl rfl ?_
      refine q_skip rfl rfl rfl rfl ?_
      refine q_skip rfl rfl rfl rfl ?_
      refine q_skip rfl rfl rfl rfl ?_
      refine q_skip rfl rfl rfl rfl ?_
      refine q_skip rfl rfl rfl rfl ?_
      refine q_skip rfl rfl rfl rfl ?_
      refine q_pick_f rfl rfl rfl rfl rfl ?_
      refine r_done ?_
      refine k_then_n ?_
      refine c_cond_f rfl ?_
      refine c_skip ?_
      refine k_then_n ?_
      refine c_plain (.q 0 (.q 1 (.q 2 (.q 3 (.q 4 ((.l 5 [] ((.l 6 [] (.q 7 (.done))))))))))) (by kernel_rfl) ?_
      refine q_move rfl rfl rfl rfl ?_
      refine q_move rfl rfl rfl rfl ?_
      refine q_move rfl rfl rfl rfl ?_
      refine q_idxO (sz := 1) (k := k) (enc := enc2) (xs := FL) rfl rfl rfl rfl rfl Try.underlying48 Try.sizeOf67 hq (by first | rfl | omega) (by omega) Tk ?_
      intro ib79 io79 ha79 hl79 hc79
      refine q_loadN_O (j := 0) (k' := k) (us := [_, _]) (enc := enc2) (off := io79) rfl rfl rfl rfl Try.isAgg67 Try.sizeOf67 ha79 enc2_len hq Tk (by first | rfl | exact (Nat.add_zero _).symm | omega) (by rfl) rfl ?_
      refine l_buildSlice rfl rfl rfl rfl (run_build1 (us := [_, _]) Try.underlying48 Try.sizeOf67 rfl Try.zeroValue67 rfl rfl rfl) ?_
      intro b81
      refine ag_nil ?_
      refine l_append (sz := 2) (enc := enc2) (xs := (insB (p.1, p.2.2) (FL.take k))) rfl rfl rfl rfl rfl Try.underlying48 Try.typeInfo67 rfl rfl rfl (by decide) Tk Tk (by first | rfl | omega | (simp; done) | (simp; omega)) (ys := [q]) (rds_some rdn_cells) (by rfl) (by first | rfl | omega) (enc2_len) (enc2_one) (by omega) (by show _ * 16 ≤ _; omega) ?_
      intro ao82 cp82
      refine ag_nil ?_
      refine q_assign rfl rfl rfl rfl ?_
      refine r_done ?_
      refine s_keep [1, 5, 6, 7, 8, 9, 10, 11, 50, 51, 52, 53, 54, 55, 56, 57, 58, 59, 60] (e' := [(1, _), (5, _), (6, _), (7, _), (8, _), (9, _), (10, _), (11, _), (50, _), (51, _), (52, _), (53, _), (54, _), (55, _), (56, _), (57, _), (58, _), (59, _), (60, _)]) rfl ?_
      refine k_blk_n ?_
      refine k_then_n ?_
      refine c_plain (.q 0 (.q 1 (.q 2 (.done)))) (by kernel_rfl) ?_
      refine q_move rfl rfl rfl rfl ?_
      refine q_int rfl rfl rfl rfl rfl (b_add' _ (by exact fits_i64 (by omega) (by omega))) ?_
      refine q_assign rfl rfl rfl rfl ?_
      refine r_done ?_
      refine k_then_n ?_
      have hmk : ((insB (p.1, p.2.2) (FL.take k)) ++ ([q])) = (insB (p.1, p.2.2) (FL.take (k + 1))) := by rw [take_next hq, insB_snoc, if_neg (fun h => by rw [h.1] at hla; simp at hla)]
      rw [hmk]
      refine s_eq 8 rfl (v' := .slice ao82 (insB (p.1, p.2.2) (FL.take (k + 1))).length cp82) (by congr 1; rw [← hmk]; simp) ?_
      refine s_eq 9 rfl (v' := .bool (laidB p.1 (FL.take (k + 1)))) (by congr 1; rw [take_next hq, laid_snoc]; (try simp at hla); rw [hla, Bool.true_or]) ?_
      refine s_eq 8 rfl (v' := .slice ao82 ((insB (p.1, p.2.2) (FL.take (k + 1))).length) cp82) (by first | rfl | (congr 1; done) | (congr 1 <;> first | rfl | omega | (simp; done) | (simp; omega))) ?_
      refine loop_next (x := (k, ma, mc)) ((k + 1, ao82, cp82)) ?_ ?_ ?_ ?_
      · try dsimp only
        show k + 1 ≤ FL.length; omega
      · show FL.length - (k + 1) < FL.length - k; omega
      · exact ⟨rfl, rfl, rfl, rfl, rfl, rfl, rfl, rfl, trivial⟩
      · (try simp only [List.cons_append, List.nil_append]); exact Tf
   ·
    obtain hkk : k = FL.length := by omega
    subst hkk
    rw [List.take_length] at hMl ⊢
    refine c_exit ?_
    refine k_then_exit ?_
    refine k_then_exit ?_
    refine k_blk_here ?_
    refine k_then_n ?_
    refine c_seq ?_
    refine c_seq ?_
    refine c_plain (.q 0 (.q 1 (.done))) (by kernel_rfl) ?_
    refine q_move rfl rfl rfl rfl ?_
    refine q_not rfl rfl rfl rfl ?_
    refine r_done ?_
    refine s_keep [1, 5, 6, 7, 8, 10, 84] (e' := [(1, _), (5, _), (6, _), (7, _), (8, _), (10, _), (84, _)]) rfl ?_
    refine k_then_n ?_
    refine c_cond rfl (fun hla => ?_) (fun hla => ?_)
    ·
     try simp only [Bool.and_eq_true, Bool.or_eq_true, Bool.not_eq_true', Bool.not_eq_false', Bool.and_eq_false_iff, Bool.or_eq_false_iff, decide_eq_true_eq, decide_eq_false_iff_not] at hla
     have hla2 : laidB p.1 FL = false := by simpa using hla
     have hin : insB (p.1, p.2.2) FL ++ [(p.1, p.2.2)] = ins (p.1, p.2.2) FL := by unfold insB; rw [if_neg (by rw [hla2]; decide), ins_end hla2]
     refine c_draw rfl (.q 0 (.q 1 (.q 2 (.q 3 (.q 4 (.q 5 (.q 6 (.q 7 (.q 8 (.q 9 (.q 10 (.q 11 ((.l 12 [] ((.l 13 [] ((.l 14 [] (.done))))))))))))))))))) (by kernel_rfl) ?_
     refine q_move rfl rfl rfl rfl ?_
     refine q_move rfl rfl rfl rfl ?_
     refine q_move rfl rfl rfl rfl ?_
     refine q_idxO (sz := 2) (k := i) (enc := enc3) (xs := L) rfl rfl rfl rfl rfl Try.underlying100 Try.sizeOf103 hp (by first | rfl | omega) (by omega) Tk ?_
     intro ib88 io88 ha88 hl88 hc88
     refine q_field (k := 0) rfl rfl rfl rfl Try.underlying103 rfl Try.sizeOf3 rfl ?_
     refine q_load_O (v := (.int .i64 p.1)) (j := 0) (k' := i) (enc := enc3) (off := io88) rfl rfl rfl rfl Try.isAgg3 ha88 enc3_len hp Tk (by first | rfl | exact (Nat.add_zero _).symm | omega) (by rfl) ?_
     refine q_move rfl rfl rfl rfl ?_
     refine q_move rfl rfl rfl rfl ?_
     refine q_idxO (sz := 2) (k := i) (enc := enc3) (xs := L) rfl rfl rfl rfl rfl Try.underlying100 Try.sizeOf103 hp (by first | rfl | omega) (by omega) Tk ?_
     intro ib93 io93 ha93 hl93 hc93
     refine q_field (k := 2) rfl rfl rfl rfl Try.underlying103 rfl Try.sizeOf3 rfl ?_
     refine q_load_O (v := (.int .i64 p.2.2)) (j := 2) (k' := i) (enc := enc3) (off := io93) rfl rfl rfl rfl Try.isAgg3 ha93 enc3_len hp Tk (by first | rfl | exact (Nat.add_zero _).symm | omega) (by rfl) ?_
     refine q_build rfl rfl rfl rfl (vs := [_, _]) (run_buildS Try.underlying67 Try.zeroValue67 (ps := [(0, 1), (1, 1)]) ⟨rfl, Try.sizeOf3, rfl, Try.sizeOf3, trivial⟩ rfl) ?_
     refine l_buildSlice rfl rfl rfl rfl (run_build1 (us := [_, _]) Try.underlying48 Try.sizeOf67 rfl Try.zeroValue67 rfl rfl rfl) ?_
     intro b97
     refine ag_nil ?_
     refine l_append (sz := 2) (enc := enc2) (xs := (insB (p.1, p.2.2) FL)) rfl rfl rfl rfl rfl Try.underlying48 Try.typeInfo67 rfl rfl rfl (by decide) Tk Tk (by first | rfl | omega | (simp; done) | (simp; omega)) (ys := [(p.1, p.2.2)]) (rds_some rdn_cells) (by rfl) (by first | rfl | omega) (enc2_len) (enc2_one) (by omega) (by show _ * 16 ≤ _; omega) ?_
     intro ao98 cp98
     refine ag_nil ?_
     refine l_assign rfl rfl rfl rfl ?_
     refine ag_nil ?_
     refine r_done ?_
     refine s_keep [1, 5, 6, 7, 8, 10] (e' := [(1, _), (5, _), (6, _), (7, _), (8, _), (10, _)]) rfl ?_
     refine k_then_n ?_
     refine c_seq ?_
     refine c_plain (.q 0 (.q 1 (.done))) (by kernel_rfl) ?_
     refine q_move rfl rfl rfl rfl ?_
     refine q_not rfl rfl rfl rfl ?_
     refine r_done ?_
     refine k_then_n ?_
     refine c_cond rfl (fun hha => ?_) (fun hha => ?_)
     ·
      try simp only [Bool.and_eq_true, Bool.or_eq_true, Bool.not_eq_true', Bool.not_eq_false', Bool.and_eq_false_iff, Bool.or_eq_false_iff, decide_eq_true_eq, decide_eq_false_iff_not] at hha
      have hf1 : ins (p.1, p.2.2) FL = flagsL (L.take (i + 1)) := by rw [flagsL_next hp, ← hFL, fl1, if_neg (by simpa using hha)]
      refine c_plain (.q 0 (.q 1 (.done))) (by kernel_rfl) ?_
      refine q_move rfl rfl rfl rfl ?_
      refine q_assign rfl rfl rfl rfl ?_
      refine r_done ?_
      refine s_keep [1, 5, 6, 7] (e' := [(1, _), (5, _), (6, _), (7, _)]) rfl ?_
      refine k_blk_n ?_
      refine k_then_n ?_
      refine c_plain (.q 0 (.q 1 (.q 2 (.done)))) (by kernel_rfl) ?_
      refine q_move rfl rfl rfl rfl ?_
      refine q_int rfl rfl rfl rfl rfl (b_add' _ (by exact fits_i64 (by omega) (by omega))) ?_
      refine q_assign rfl rfl rfl rfl ?_
      refine r_done ?_
      refine k_then_n ?_
      rw [hin, hf1]
      refine s_eq 5 rfl (v' := .slice ao98 (flagsL (L.take (i + 1))).length cp98) (by first | rfl | (congr 1; rw [← hf1, ← hin]; simp; done) | (congr 1; rw [← hf1]; done)) ?_
      refine s_eq 5 rfl (v' := .slice ao98 ((flagsL (L.take (i + 1))).length) cp98) (by first | rfl | (congr 1; done) | (congr 1 <;> first | rfl | omega | (simp; done) | (simp; omega))) ?_
      refine loop_next (x := (i, fa, fc)) ((i + 1, ao98, cp98)) ?_ ?_ ?_ ?_
      · try dsimp only
        exact ⟨by omega, fun q hq => (List.mem_append.1 (by rw [take_next hp] at hq; exact hq)).elim (hIs q) (fun h => by simp at h; subst h; omega)⟩
      · show L.length - (i + 1) < L.length - i; omega
      · exact ⟨rfl, rfl, rfl, rfl, trivial⟩
      · (try simp only [List.cons_append, List.nil_append]); exact Tf
     ·
      try simp only [Bool.and_eq_true, Bool.or_eq_true, Bool.not_eq_true', Bool.not_eq_false', Bool.and_eq_false_iff, Bool.or_eq_false_iff, decide_eq_true_eq, decide_eq_false_iff_not] at hha
      have hf1 : FL = flagsL (L.take (i + 1)) := by rw [flagsL_next hp, ← hFL, fl1, if_pos (by simpa using hha)]
      refine c_skip ?_
      refine k_blk_n ?_
      refine k_then_n ?_
      refine c_plain (.q 0 (.q 1 (.q 2 (.done)))) (by kernel_rfl) ?_
      refine q_move rfl rfl rfl rfl ?_
      refine q_int rfl rfl rfl rfl rfl (b_add' _ (by exact fits_i64 (by omega) (by omega))) ?_
      refine q_assign rfl rfl rfl rfl ?_
      refine r_done ?_
      refine s_keep [1, 5, 6, 7] (e' := [(1, _), (5, _), (6, _), (7, _)]) rfl ?_
      refine k_then_n ?_
      rw [hf1]
      refine s_eq 5 rfl (v' := .slice fa (flagsL (L.take (i + 1))).length fc) (by first | rfl | (congr 1; rw [← hf1, ← hin]; simp; done) | (congr 1; rw [← hf1]; done)) ?_
      refine s_eq 5 rfl (v' := .slice fa ((flagsL (L.take (i + 1))).length) fc) (by first | rfl | (congr 1; done) | (congr 1 <;> first | rfl | omega | (simp; done) | (simp; omega))) ?_
      refine loop_next (x := (i, fa, fc)) ((i + 1, fa, fc)) ?_ ?_ ?_ ?_
      · try dsimp only
        exact ⟨by omega, fun q hq => (List.mem_append.1 (by rw [take_next hp] at hq; exact hq)).elim (hIs q) (fun h => by simp at h; subst h; omega)⟩
      · show L.length - (i + 1) < L.length - i; omega
      · exact ⟨rfl, rfl, rfl, rfl, trivial⟩
      · (try simp only [List.cons_append, List.nil_append]); exact Tf
    ·
     try simp only [Bool.and_eq_true, Bool.or_eq_true, Bool.not_eq_true', Bool.not_eq_false', Bool.and_eq_false_iff, Bool.or_eq_false_iff, decide_eq_true_eq, decide_eq_false_iff_not] at hla
     have hla2 : laidB p.1 FL = true := by simpa using hla
     have hin : insB (p.1, p.2.2) FL = ins (p.1, p.2.2) FL := by unfold insB; rw [if_pos hla2]
     refine c_skip ?_
     refine k_then_n ?_
     refine c_seq ?_
     refine c_plain (.q 0 (.q 1 (.done))) (by kernel_rfl) ?_
     refine q_move rfl rfl rfl rfl ?_
     refine q_not rfl rfl rfl rfl ?_
     refine r_done ?_
     refine k_then_n ?_
     refine c_cond rfl (fun hha => ?_) (fun hha => ?_)
     ·
      try simp only [Bool.and_eq_true, Bool.or_eq_true, Bool.not_eq_true', Bool.not_eq_false', Bool.and_eq_false_iff, Bool.or_eq_false_iff, decide_eq_true_eq, decide_eq_false_iff_not] at hha
      have hf1 : ins (p.1, p.2.2) FL = flagsL (L.take (i + 1)) := by rw [flagsL_next hp, ← hFL, fl1, if_neg (by simpa using hha)]
      refine c_plain (.q 0 (.q 1 (.done))) (by kernel_rfl) ?_
      refine q_move rfl rfl rfl rfl ?_
      refine q_assign rfl rfl rfl rfl ?_
      refine r_done ?_
      refine s_keep [1, 5, 6, 7] (e' := [(1, _), (5, _), (6, _), (7, _)]) rfl ?_
      refine k_blk_n ?_
      refine k_then_n ?_
      refine c_plain (.q 0 (.q 1 (.q 2 (.done)))) (by kernel_rfl) ?_
      refine q_move rfl rfl rfl rfl ?_
      refine q_int rfl rfl rfl rfl rfl (b_add' _ (by exact fits_i64 (by omega) (by omega))) ?_
      refine q_assign rfl rfl rfl rfl ?_
      refine r_done ?_
      refine k_then_n ?_
      rw [hin, hf1]
      refine s_eq 5 rfl (v' := .slice ma (flagsL (L.take (i + 1))).length mc) (by first | rfl | (congr 1; rw [← hf1, ← hin]; simp; done) | (congr 1; rw [← hf1]; done)) ?_
      refine s_eq 5 rfl (v' := .slice ma ((flagsL (L.take (i + 1))).length) mc) (by first | rfl | (congr 1; done) | (congr 1 <;> first | rfl | omega | (simp; done) | (simp; omega))) ?_
      refine loop_next (x := (i, fa, fc)) ((i + 1, ma, mc)) ?_ ?_ ?_ ?_
      · try dsimp only
        exact ⟨by omega, fun q hq => (List.mem_append.1 (by rw [take_next hp] at hq; exact hq)).elim (hIs q) (fun h => by simp at h; subst h; omega)⟩
      · show L.length - (i + 1) < L.length - i; omega
      · exact ⟨rfl, rfl, rfl, rfl, trivial⟩
      · (try simp only [List.cons_append, List.nil_append]); exact Tf
     ·
      try simp only [Bool.and_eq_true, Bool.or_eq_true, Bool.not_eq_true', Bool.not_eq_false', Bool.and_eq_false_iff, Bool.or_eq_false_iff, decide_eq_true_eq, decide_eq_false_iff_not] at hha
      have hf1 : FL = flagsL (L.take (i + 1)) := by rw [flagsL_next hp, ← hFL, fl1, if_pos (by simpa using hha)]
      refine c_skip ?_
      refine k_blk_n ?_
      refine k_then_n ?_
      refine c_plain (.q 0 (.q 1 (.q 2 (.done)))) (by kernel_rfl) ?_
      refine q_move rfl rfl rfl rfl ?_
      refine q_int rfl rfl rfl rfl rfl (b_add' _ (by exact fits_i64 (by omega) (by omega))) ?_
      refine q_assign rfl rfl rfl rfl ?_
      refine r_done ?_
      refine s_keep [1, 5, 6, 7] (e' := [(1, _), (5, _), (6, _), (7, _)]) rfl ?_
      refine k_then_n ?_
      rw [hf1]
      refine s_eq 5 rfl (v' := .slice fa (flagsL (L.take (i + 1))).length fc) (by first | rfl | (congr 1; rw [← hf1, ← hin]; simp; done) | (congr 1; rw [← hf1]; done)) ?_
      refine s_eq 5 rfl (v' := .slice fa ((flagsL (L.take (i + 1))).length) fc) (by first | rfl | (congr 1; done) | (congr 1 <;> first | rfl | omega | (simp; done) | (simp; omega))) ?_
      refine loop_next (x := (i, fa, fc)) ((i + 1, fa, fc)) ?_ ?_ ?_ ?_
      · try dsimp only
        exact ⟨by omega, fun q hq => (List.mem_append.1 (by rw [take_next hp] at hq; exact hq)).elim (hIs q) (fun h => by simp at h; subst h; omega)⟩
      · show L.length - (i + 1) < L.length - i; omega
      · exact ⟨rfl, rfl, rfl, rfl, trivial⟩
      · (try simp only [List.cons_append, List.nil_append]); exact Tf
 ·
  have hLn : L.take i = allL es (rf rs) n := by
    have h1 : (allL es (rf rs) n).length = i := by
      rcases Nat.lt_trichotomy i (allL es (rf rs) n).length with h | h | h
      · exfalso
        have h9 : L.length = (allL es (rf rs) n).length + r.length := by rw [hLr, List.length_append]
        omega
      · exact h.symm
      · exfalso
        obtain ⟨z, hz⟩ := get_lt (l := L) (i := (allL es (rf rs) n).length) (by omega)
        have h2 := hIs z (List.mem_of_getElem? (i := (allL es (rf rs) n).length) (by rw [List.getElem?_take_of_lt h]; exact hz))
        rw [hLr, List.getElem?_append_right (Nat.le_refl _)] at hz
        have := hr z (List.mem_of_getElem? hz); omega
    rw [hLr, ← h1, List.take_left']
    rfl
  rw [hLn]
  refine c_exit ?_
  refine k_then_exit ?_
  refine k_then_exit ?_
  refine k_blk_here ?_
  refine k_then_n ?_
  refine c_seq ?_
  refine c_plain (.q 0 (.q 1 (.done))) (by kernel_rfl) ?_
  refine q_move rfl rfl rfl rfl ?_
  refine q_assign rfl rfl rfl rfl ?_
  refine r_done ?_
  refine s_keep [4] (e' := [(4, _)]) rfl ?_
  refine k_then_n ?_
  refine c_ret ?_
  refine ret1 rfl rfl ((fa, fc)) (by first | rfl | (first | rfl | (congr 1; done) | (congr 1 <;> first | rfl | omega | (simp; done) | (simp; omega)))) (by trivial) ?_
  exact Tf
end Go.Ab.DjO
set_option linter.unusedVariables false
set_option linter.unusedSimpArgs false
set_option maxRecDepth 100000
namespace Go.Ab.DjO
open Go Go.Proofs Go.Ab Go.Ab.Fe Go.Ab.Vc Go.Ab.Ord Go.Ab.Dj
theorem kn_n {th va vo lk : Int} {pl : List Int} {es : List T3} (hok : OkS th va vo lk pl) (hl : es.length ≤ 1000000) (hall : allC (newF th va vo lk pl) es es.length) : ∀ n, n ≤ es.length → (dAll (dNew th va vo lk pl) (es.take n)).v.ck.n = n
  | 0, _ => rfl
  | n + 1, hn => by
    obtain ⟨e, he⟩ := get_lt (l := es) (i := n) (by omega)
    have hc := kn_can hok hl hall he
    have := kn_n hok hl hall n (by omega)
    rw [dAll_next he, dEv, de_v hc, vn_ck, (nxF_can hc.1).1, this]; simp
theorem first_ok (th va vo lk : Int) (pl : List Int) (ao : Option Addr) (n c : Nat) (A : HProp) (hr : RdS A ao (pl.flatMap encZ)) (hn : pl.length = n) (hb : n ≤ 4000000) (hok : OkS th va vo lk pl) (es : List T3) (eo : Option Addr) (m ec : Nat) (he_ : RdS A eo (es.flatMap enc3)) (hem : es.length = m) (hmb : m ≤ 4000000) (hml : es.length ≤ 2048) (hall : allC (newF th va vo lk pl) es es.length) : Spec Try.prog 5 [.agg #[.int .i64 th, .int .i64 va, .int .i64 vo, .int .i64 lk, .slice ao n c], .slice eo m ec] [A] (fun (_ : Unit) => .bool true) (fun _ => True) (fun _ => [A]) := by
 refine spec_mk (n := 65) Try.func5 rfl rfl rfl ?_
 intro Γ w0
 simp only [argE, List.cons_append, List.nil_append, Nat.zero_add, Nat.reduceAdd]
 refine c_seq ?_
 refine c_plain ((.l 0 [] (.q 1 (.done)))) (by kernel_rfl) ?_
 refine l_box rfl rfl rfl rfl (us := [_, _, _, _, _]) rfl ?_
 intro b2
 refine ag_nil ?_
 refine q_assign rfl rfl rfl rfl ?_
 refine r_done ?_
 refine k_then_n ?_
 refine c_seq ?_
 refine c_seq ?_
 refine c_plain ((.l 0 [] (.q 1 (.done)))) (by kernel_rfl) ?_
 refine l_call rfl rfl rfl rfl rfl rfl Try.call8 (works_spec) Ts ?_
 rintro ⟨⟩ -
 try simp only [List.cons_append, List.nil_append]
 refine ag_nil ?_
 refine q_not rfl rfl rfl rfl ?_
 refine s_eq 11 rfl (v' := .bool false) rfl ?_
 refine r_done ?_
 refine k_then_n ?_
 refine c_cond_f rfl ?_
 refine c_skip ?_
 refine k_then_n ?_
 refine c_seq ?_
 refine c_plain (.q 0 (.q 1 ((.l 2 [] (.q 3 (.q 4 (.q 5 (.q 6 (.q 7 (.done)))))))))) (by kernel_rfl) ?_
 refine q_loadN_c rfl rfl rfl rfl Try.isAgg24 Try.sizeOf24 Tk 0 (us := [_, _, _, _, _]) (by first | rfl | exact (Nat.add_zero _).symm) rfl rfl ?_
 refine q_move rfl rfl rfl rfl ?_
 have sp_1 := onew_spec th va vo lk pl ao n c A hr hn hb es eo m ec he_ hem hmb hok hml hall
 refine l_call rfl rfl rfl rfl rfl rfl Try.call9 (sp_1) Ts ?_
 rintro ob -
 try simp only [List.cons_append, List.nil_append]
 refine ag_nil ?_
 refine q_move rfl rfl rfl rfl ?_
 refine q_extract rfl rfl rfl rfl rfl ?_
 refine q_extract rfl rfl rfl rfl rfl ?_
 refine q_assign rfl rfl rfl rfl ?_
 refine q_assign rfl rfl rfl rfl ?_
 refine r_done ?_
 refine s_keep [1, 2, 5, 6] (e' := [(1, _), (2, _), (5, _), (6, _)]) rfl ?_
 refine k_then_n ?_
 refine c_seq ?_
 refine c_seq ?_
 refine c_plain (.q 0 (.q 1 (.done))) (by kernel_rfl) ?_
 refine q_move rfl rfl rfl rfl ?_
 refine q_int rfl rfl rfl rfl rfl (b_neq _ _ _ _) ?_
 refine s_eq 19 rfl (v' := .bool false) (by first | rfl | simp) ?_
 refine r_done ?_
 refine k_then_n ?_
 refine c_cond_f rfl ?_
 refine c_skip ?_
 refine k_then_n ?_
 refine c_seq ?_
 refine c_plain (.q 0 ((.l 1 [] (.q 2 (.q 3 (.q 4 (.q 5 (.q 6 (.done))))))))) (by kernel_rfl) ?_
 refine q_loadN_c rfl rfl rfl rfl Try.isAgg24 Try.sizeOf24 Tk 0 (us := [_, _, _, _, _]) (by first | rfl | exact (Nat.add_zero _).symm) rfl rfl ?_
 have sp_2 := Dj.new_spec th va vo lk pl ao n c A (hr) (by first | rfl | assumption | omega | (simp; done) | (simp; omega)) (by omega) hok
 refine l_call rfl rfl rfl rfl rfl rfl Try.call15 (sp_2) Ts ?_
 rintro ⟨d, ⟨dpa, dpc⟩, dpo, dpoc⟩ -
 try simp only [List.cons_append, List.nil_append]
 refine ag_nil ?_
 refine q_move rfl rfl rfl rfl ?_
 refine q_extract rfl rfl rfl rfl rfl ?_
 refine q_extract rfl rfl rfl rfl rfl ?_
 refine q_assign rfl rfl rfl rfl ?_
 refine q_assign rfl rfl rfl rfl ?_
 refine r_done ?_
 obtain ⟨x0, hx0⟩ : ∃ y, y = dNew th va vo lk pl := ⟨_, rfl⟩
 rw [← hx0]
 have hi0 : DInv x0 := by rw [hx0]; exact new_dinv hok (new_inv hok)
 have hn0 : x0.v.ck.n = 0 := by rw [hx0]; rfl
 have hp0 : x0.v.ck.pa = pl := by rw [hx0]; rfl
 refine s_keep [1, 5, 7, 8] (e' := [(1, _), (5, _), (7, _), (8, _)]) rfl ?_
 refine k_then_n ?_
 refine c_seq ?_
 refine c_seq ?_
 refine c_plain (.q 0 ((.l 1 [] (.q 2 (.done))))) (by kernel_rfl) ?_
 refine q_move rfl rfl rfl rfl ?_
 have sp_3 := num_spec 0
 refine l_call rfl rfl rfl rfl rfl rfl Try.call16 (sp_3) Ts ?_
 rintro ⟨⟩ -
 try simp only [List.cons_append, List.nil_append]
 refine ag_nil ?_
 refine q_int rfl rfl rfl rfl rfl (b_neq _ _ _ _) ?_
 refine s_eq 27 rfl (v' := .bool false) (by first | rfl | simp) ?_
 refine r_done ?_
 refine k_then_n ?_
 refine c_cond_f rfl ?_
 refine c_skip ?_
 refine k_then_n ?_
 refine c_seq ?_
 refine c_seq ?_
 refine c_plain (.q 0 (.done)) (by kernel_rfl) ?_
 refine q_assign rfl rfl rfl rfl ?_
 refine r_done ?_
 refine s_keep [1, 5, 7, 9] (e' := [(1, _), (5, _), (7, _), (9, _)]) rfl ?_
 refine k_then_n ?_
 refine c_block ?_
 refine c_loop2 (α := Nat) (fun (i : Nat) => i ≤ m) (fun (i : Nat) => [(9, .int .i64 ((i : Nat) : Int))]) (fun (i : Nat) => [dR dpa dpc dpo dpoc d (dAll x0 (es.take i)), own 1 encZ dpa dpc pl, own 1 encZ dpo dpoc pl]) (fun (i : Nat) => m - i) [1, 5, 7] (er := [(1, _), (5, _), (7, _)]) rfl (0) ?_ (by exact ⟨rfl, trivial⟩) (by (try dsimp only); (try simp only [Nat.add_zero, Nat.zero_add]); (repeat ((with_reducible apply Z2); focus (first | (with_reducible (repeat (first | exact Z0 | apply Z1)); done) | (repeat (first | exact Z0 | apply Z1))))); exact Z3) ?_
 · exact Nat.zero_le _
 rintro i hle_i
 try simp only [List.cons_append, List.nil_append]
 obtain ⟨hdn, hdp, hdt, hdv⟩ := dAll_n (es.take i) x0
 rw [List.length_take] at hdn
 have hfb := flF_len (dAll x0 (es.take i)).vs
 have hvl := (dAll_inv hi0 (es.take i)).len
 have hvv := (dAll_inv hi0 (es.take i)).v.ck.sh.va
 have hfl := (first_law hok (by omega) hall i (by omega)).2
 rw [← hx0] at hfl
 refine c_seq ?_
 refine c_seq ?_
 refine c_plain (.q 0 (.q 1 (.q 2 (.q 3 (.done))))) (by kernel_rfl) ?_
 refine q_move rfl rfl rfl rfl ?_
 refine q_move rfl rfl rfl rfl ?_
 refine q_len rfl rfl rfl rfl Try.underlying25 ?_
 refine q_int rfl rfl rfl rfl rfl (b_lss _ _ _ _) ?_
 refine r_done ?_
 refine k_then_n ?_
 refine c_cond_p rfl (fun hlt => ?_) (fun hlt => ?_)
 ·
  obtain ⟨e, he⟩ := get_lt (l := es) (i := i) (by omega)
  have hcan : canE (dAll x0 (es.take i)) e := by rw [hx0]; exact kn_can hok (by omega) hall he
  have hnn : (deF (dAll x0 (es.take i)) e.1 e.2.1 e.2.2).v.ck.n = ((i + 1 : Nat) : Int) := by
    have h := kn_n hok (by omega) hall (i + 1) (by omega)
    rw [dAll_next he, ← hx0] at h; exact h
  refine c_skip ?_
  refine k_then_n ?_
  refine c_seq ?_
  refine c_block ?_
  refine c_seq ?_
  refine c_plain (.q 0 ((.l 1 [] (.q 2 (.q 3 ((.l 4 [] ((.l 5 [] (.q 6 (.q 7 (.q 8 (.q 9 (.q 10 (.q 11 (.q 12 ((.l 13 [] ((.l 14 [] (.q 15 (.q 16 (.q 17 (.q 18 ((.l 19 [] (.q 20 (.q 21 (.q 22 (.q 23 (.done))))))))))))))))))))))))))))))) (by kernel_rfl) ?_
  refine q_move rfl rfl rfl rfl ?_
  have sp_4 := Dj.flags_spec dpa dpc dpo dpoc d (dAll x0 (es.take i)) (dAll_inv hi0 _)
  refine l_call rfl rfl rfl rfl rfl rfl Try.call18 (sp_4) Ts ?_
  rintro ⟨fa, fc⟩ -
  try simp only [List.cons_append, List.nil_append]
  refine ag_nil ?_
  refine q_move rfl rfl rfl rfl ?_
  refine q_move rfl rfl rfl rfl ?_
  have sp_5 := oflags_spec ob es (rnds (newF th va vo lk pl) es) (by omega) i (by omega)
  refine l_call rfl rfl rfl rfl rfl rfl Try.call19 (sp_5) Ts ?_
  rintro ⟨ga, gc⟩ -
  try simp only [List.cons_append, List.nil_append]
  refine ag_nil ?_
  refine s_take (A := own 2 enc2 fa fc (flF (dAll x0 (es.take i)).vs)) Tk ?_
  refine own_fc fun f_6a f_6b f_6c => ?_
  refine s_take (A := own 2 enc2 ga gc (flagsL (allL es (rf (rnds (newF th va vo lk pl) es)) i))) Tk ?_
  refine own_fc fun f_7a f_7b f_7c => ?_
  refine s_heap (fun _ h => Bun.fold ((by (repeat ((with_reducible apply Z2); focus (first | (with_reducible (repeat (first | exact Z0 | apply Z1)); done) | (repeat (first | exact Z0 | apply Z1))))); exact Z3 : Takes _ [own 2 enc2 fa fc (flF (dAll x0 (es.take i)).vs), own 2 enc2 ga gc (flagsL (allL es (rf (rnds (newF th va vo lk pl) es)) i))] _) _ h)) ?_
  have sp_8 := flags_same (flF (dAll x0 (es.take i)).vs) (flagsL (allL es (rf (rnds (newF th va vo lk pl) es)) i)) fa ga ((flF (dAll x0 (es.take i)).vs).length) ((flagsL (allL es (rf (rnds (newF th va vo lk pl) es)) i)).length) fc gc (Bun [own 2 enc2 fa fc (flF (dAll x0 (es.take i)).vs), own 2 enc2 ga gc (flagsL (allL es (rf (rnds (newF th va vo lk pl) es)) i))]) (by first | rfl | assumption | omega | (simp; done) | (simp; omega)) (rds_bun (List.mem_cons_self) (rds_own enc2_len (fun h => (f_6b h).1) f_6c)) (by first | rfl | assumption | omega | (simp; done) | (simp; omega)) (rds_bun (List.mem_cons_of_mem _ (List.mem_cons_self)) (rds_own enc2_len (fun h => (f_7b h).1) f_7c)) (by omega)
  refine l_call rfl rfl rfl rfl rfl rfl Try.call17 (sp_8) Ts ?_
  rintro ⟨⟩ -
  try simp only [List.cons_append, List.nil_append]
  refine s_take (A := Bun [own 2 enc2 fa fc (flF (dAll x0 (es.take i)).vs), own 2 enc2 ga gc (flagsL (allL es (rf (rnds (newF th va vo lk pl) es)) i))]) Tk ?_
  refine s_bun ?_
  try simp only [List.cons_append, List.nil_append]
  try simp only [List.cons_append, List.nil_append]
  refine ag_nil ?_
  refine q_not rfl rfl rfl rfl ?_
  refine q_move rfl rfl rfl rfl ?_
  refine s_bool_np 41 rfl (fun hg => by exfalso; exact hg hfl) (fun hg => ?_)
  refine q_move rfl rfl rfl rfl ?_
  refine q_move rfl rfl rfl rfl ?_
  refine q_move rfl rfl rfl rfl ?_
  refine q_idxR (sz := 2) (k := i) rfl rfl rfl rfl rfl Try.underlying25 Try.sizeOf40 (he_) he enc3_len (by first | rfl | omega) (by omega) ?_
  intro ib45 io45 _ hd45
  refine q_loadN (vs := [_, _, _]) rfl rfl rfl rfl Try.isAgg40 Try.sizeOf40 Tk (hd45) rfl ?_
  have sp_9 := event_spec dpa dpc dpo dpoc d (dAll x0 (es.take i)) (dAll_inv hi0 _) (by omega) pl (hdp.trans hp0) e.1 e.2.1 e.2.2
  refine l_call rfl rfl rfl rfl rfl rfl Try.call20 (sp_9) Ts ?_
  rintro ⟨⟩ -
  try simp only [List.cons_append, List.nil_append]
  refine ag_nil ?_
  have sp_10 := num_spec (deE (dAll x0 (es.take i)) e.1 e.2.1 e.2.2)
  refine l_call rfl rfl rfl rfl rfl rfl Try.call16 (sp_10) Ts ?_
  rintro ⟨⟩ -
  try simp only [List.cons_append, List.nil_append]
  refine ag_nil ?_
  refine q_int rfl rfl rfl rfl rfl (b_neq _ _ _ _) ?_
  refine q_pick_f rfl rfl rfl rfl rfl ?_
  refine q_move rfl rfl rfl rfl ?_
  refine s_bool_p 51 rfl (fun hg => by exfalso; exact hg (if_pos hcan)) (fun hg => ?_)
  refine q_move rfl rfl rfl rfl ?_
  have sp_11 := Dj.len_spec dpa dpc dpo dpoc d (deF (dAll x0 (es.take i)) e.1 e.2.1 e.2.2) (de_inv (dAll_inv hi0 _) e.1 e.2.1 e.2.2)
  refine l_call rfl rfl rfl rfl rfl rfl Try.call21 (sp_11) Ts ?_
  rintro ⟨⟩ -
  try simp only [List.cons_append, List.nil_append]
  refine ag_nil ?_
  refine q_move rfl rfl rfl rfl ?_
  refine q_int rfl rfl rfl rfl rfl (b_add' _ (by exact fits_i64 (by omega) (by omega))) ?_
  refine q_int rfl rfl rfl rfl rfl (b_neq _ _ _ _) ?_
  refine q_pick_f rfl rfl rfl rfl rfl ?_
  refine r_done ?_
  refine s_keep [1, 5, 7, 9, 42, 43, 44, 45, 46, 47, 48, 49, 52, 53, 54, 55, 56, 57] (e' := [(1, _), (5, _), (7, _), (9, _), (42, _), (43, _), (44, _), (45, _), (46, _), (47, _), (48, _), (49, _), (52, _), (53, _), (54, _), (55, _), (56, _), (57, _)]) rfl ?_
  refine k_then_n ?_
  refine c_cond_p rfl (fun hg => by exfalso; omega) (fun hg => ?_)
  refine c_skip ?_
  refine k_blk_n ?_
  refine k_then_n ?_
  refine c_plain (.q 0 (.q 1 (.q 2 (.done)))) (by kernel_rfl) ?_
  refine q_move rfl rfl rfl rfl ?_
  refine q_int rfl rfl rfl rfl rfl (b_add' _ (by exact fits_i64 (by omega) (by omega))) ?_
  refine q_assign rfl rfl rfl rfl ?_
  refine r_done ?_
  refine k_then_n ?_
  rw [show (deF (dAll x0 (es.take i)) e.1 e.2.1 e.2.2) = dAll x0 (es.take (i + 1)) from (dAll_next he).symm]
  refine loop_next (x := i) (i + 1) ?_ ?_ ?_ ?_
  · exact by show i + 1 ≤ m; omega
  · show m - (i + 1) < m - i; omega
  · exact ⟨rfl, rfl, rfl, rfl, trivial⟩
  · (try simp only [List.cons_append, List.nil_append]); exact Tf
 ·
  obtain rfl : m = i := by omega
  rw [List.take_of_length_le (show es.length ≤ m by omega)] at hfl ⊢
  rw [List.take_of_length_le (show es.length ≤ m by omega)] at hfb hvl hvv hdp
  refine c_exit ?_
  refine k_then_exit ?_
  refine k_then_exit ?_
  refine k_blk_here ?_
  refine k_then_n ?_
  refine c_seq ?_
  refine c_plain (.q 0 ((.l 1 [] (.q 2 (.q 3 (.q 4 ((.l 5 [] ((.l 6 [] (.q 7 (.done)))))))))))) (by kernel_rfl) ?_
  refine q_move rfl rfl rfl rfl ?_
  have sp_12 := Dj.flags_spec dpa dpc dpo dpoc d (dAll x0 es) (dAll_inv hi0 _)
  refine l_call rfl rfl rfl rfl rfl rfl Try.call18 (sp_12) Ts ?_
  rintro ⟨fa, fc⟩ -
  try simp only [List.cons_append, List.nil_append]
  refine ag_nil ?_
  refine q_move rfl rfl rfl rfl ?_
  refine q_move rfl rfl rfl rfl ?_
  refine q_len rfl rfl rfl rfl Try.underlying25 ?_
  have sp_13 := oflags_spec ob es (rnds (newF th va vo lk pl) es) (by omega) m (by omega)
  refine l_call rfl rfl rfl rfl rfl rfl Try.call19 (sp_13) Ts ?_
  rintro ⟨ga, gc⟩ -
  try simp only [List.cons_append, List.nil_append]
  refine ag_nil ?_
  refine s_take (A := own 2 enc2 fa fc (flF (dAll x0 es).vs)) Tk ?_
  refine own_fc fun f_14a f_14b f_14c => ?_
  refine s_take (A := own 2 enc2 ga gc (flagsL (allL es (rf (rnds (newF th va vo lk pl) es)) m))) Tk ?_
  refine own_fc fun f_15a f_15b f_15c => ?_
  refine s_heap (fun _ h => Bun.fold ((by (repeat ((with_reducible apply Z2); focus (first | (with_reducible (repeat (first | exact Z0 | apply Z1)); done) | (repeat (first | exact Z0 | apply Z1))))); exact Z3 : Takes _ [own 2 enc2 fa fc (flF (dAll x0 es).vs), own 2 enc2 ga gc (flagsL (allL es (rf (rnds (newF th va vo lk pl) es)) m))] _) _ h)) ?_
  have sp_16 := flags_same (flF (dAll x0 es).vs) (flagsL (allL es (rf (rnds (newF th va vo lk pl) es)) m)) fa ga ((flF (dAll x0 es).vs).length) ((flagsL (allL es (rf (rnds (newF th va vo lk pl) es)) m)).length) fc gc (Bun [own 2 enc2 fa fc (flF (dAll x0 es).vs), own 2 enc2 ga gc (flagsL (allL es (rf (rnds (newF th va vo lk pl) es)) m))]) (by first | rfl | assumption | omega | (simp; done) | (simp; omega)) (rds_bun (List.mem_cons_self) (rds_own enc2_len (fun h => (f_14b h).1) f_14c)) (by first | rfl | assumption | omega | (simp; done) | (simp; omega)) (rds_bun (List.mem_cons_of_mem _ (List.mem_cons_self)) (rds_own enc2_len (fun h => (f_15b h).1) f_15c)) (by omega)
  refine l_call rfl rfl rfl rfl rfl rfl Try.call17 (sp_16) Ts ?_
  rintro ⟨⟩ -
  try simp only [List.cons_append, List.nil_append]
  refine s_take (A := Bun [own 2 enc2 fa fc (flF (dAll x0 es).vs), own 2 enc2 ga gc (flagsL (allL es (rf (rnds (newF th va vo lk pl) es)) m))]) Tk ?_
  refine s_bun ?_
  try simp only [List.cons_append, List.nil_append]
  try simp only [List.cons_append, List.nil_append]
  refine ag_nil ?_
  refine q_assign rfl rfl rfl rfl ?_
  refine r_done ?_
  refine s_keep [4] (e' := [(4, _)]) rfl ?_
  refine k_then_n ?_
  refine c_ret ?_
  refine ret1 rfl rfl (()) (by rw [decide_eq_true hfl]) (by trivial) ?_
  exact Tf
theorem first_bad1 (th va vo lk : Int) (pl : List Int) (ao : Option Addr) (n c : Nat) (A : HProp) (hr : RdS A ao (pl.flatMap encZ)) (hn : pl.length = n) (hb : n ≤ 4000000) (hok : OkS th va vo lk pl) (es : List T3) (eo : Option Addr) (m ec : Nat) (he_ : RdS A eo (es.flatMap enc3)) (hem : es.length = m) (hmb : m ≤ 4000000) (hbad : ¬ (es.length ≤ 2048 ∧ allC (newF th va vo lk pl) es es.length)) : Spec Try.prog 5 [.agg #[.int .i64 th, .int .i64 va, .int .i64 vo, .int .i64 lk, .slice ao n c], .slice eo m ec] [A] (fun (_ : Unit) => .bool true) (fun _ => True) (fun _ => [A]) := by
 refine spec_mk (n := 65) Try.func5 rfl rfl rfl ?_
 intro Γ w0
 simp only [argE, List.cons_append, List.nil_append, Nat.zero_add, Nat.reduceAdd]
 refine c_seq ?_
 refine c_plain ((.l 0 [] (.q 1 (.done)))) (by kernel_rfl) ?_
 refine l_box rfl rfl rfl rfl (us := [_, _, _, _, _]) rfl ?_
 intro b2
 refine ag_nil ?_
 refine q_assign rfl rfl rfl rfl ?_
 refine r_done ?_
 refine k_then_n ?_
 refine c_seq ?_
 refine c_seq ?_
 refine c_plain ((.l 0 [] (.q 1 (.done)))) (by kernel_rfl) ?_
 refine l_call rfl rfl rfl rfl rfl rfl Try.call8 (works_spec) Ts ?_
 rintro ⟨⟩ -
 try simp only [List.cons_append, List.nil_append]
 refine ag_nil ?_
 refine q_not rfl rfl rfl rfl ?_
 refine s_eq 11 rfl (v' := .bool false) rfl ?_
 refine r_done ?_
 refine k_then_n ?_
 refine c_cond_f rfl ?_
 refine c_skip ?_
 refine k_then_n ?_
 refine c_seq ?_
 refine c_plain (.q 0 (.q 1 ((.l 2 [] (.q 3 (.q 4 (.q 5 (.q 6 (.q 7 (.done)))))))))) (by kernel_rfl) ?_
 refine q_loadN_c rfl rfl rfl rfl Try.isAgg24 Try.sizeOf24 Tk 0 (us := [_, _, _, _, _]) (by first | rfl | exact (Nat.add_zero _).symm) rfl rfl ?_
 refine q_move rfl rfl rfl rfl ?_
 have sp_1 := onewbad1_spec th va vo lk pl ao n c A hr hn hb es eo m ec he_ hem hmb hok hbad
 refine l_call rfl rfl rfl rfl rfl rfl Try.call9 (sp_1) Ts ?_
 rintro oe hoe
 try simp only [List.cons_append, List.nil_append]
 refine ag_nil ?_
 refine q_move rfl rfl rfl rfl ?_
 refine q_extract rfl rfl rfl rfl rfl ?_
 refine q_extract rfl rfl rfl rfl rfl ?_
 refine q_assign rfl rfl rfl rfl ?_
 refine q_assign rfl rfl rfl rfl ?_
 refine r_done ?_
 refine s_keep [1, 2, 5, 6] (e' := [(1, _), (2, _), (5, _), (6, _)]) rfl ?_
 refine k_then_n ?_
 refine c_seq ?_
 refine c_seq ?_
 refine c_plain (.q 0 (.q 1 (.done))) (by kernel_rfl) ?_
 refine q_move rfl rfl rfl rfl ?_
 refine q_int rfl rfl rfl rfl rfl (b_neq _ _ _ _) ?_
 refine r_done ?_
 refine k_then_n ?_
 refine c_cond_p rfl (fun hg => ?_) (fun hg => by exfalso; exact hoe (Classical.byContradiction hg))
 refine c_seq ?_
 refine c_plain (.q 0 (.done)) (by kernel_rfl) ?_
 refine q_assign rfl rfl rfl rfl ?_
 refine r_done ?_
 refine s_keep [4] (e' := [(4, _)]) rfl ?_
 refine k_then_n ?_
 refine c_ret ?_
 refine k_then_ret ?_
 refine ret1 rfl rfl (()) (by first | rfl | (first | rfl | (congr 1; done) | (congr 1 <;> first | rfl | omega | (simp; done) | (simp; omega)))) (by trivial) ?_
 exact Tf
theorem first_bad2 (th va vo lk : Int) (pl : List Int) (ao : Option Addr) (n c : Nat) (A : HProp) (hr : RdS A ao (pl.flatMap encZ)) (hn : pl.length = n) (hb : n ≤ 4000000) (hok : ¬ OkS th va vo lk pl) (es : List T3) (eo : Option Addr) (m ec : Nat) (he_ : RdS A eo (es.flatMap enc3)) (hem : es.length = m) (hmb : m ≤ 4000000) : Spec Try.prog 5 [.agg #[.int .i64 th, .int .i64 va, .int .i64 vo, .int .i64 lk, .slice ao n c], .slice eo m ec] [A] (fun (_ : Unit) => .bool true) (fun _ => True) (fun _ => [A]) := by
 refine spec_mk (n := 65) Try.func5 rfl rfl rfl ?_
 intro Γ w0
 simp only [argE, List.cons_append, List.nil_append, Nat.zero_add, Nat.reduceAdd]
 refine c_seq ?_
 refine c_plain ((.l 0 [] (.q 1 (.done)))) (by kernel_rfl) ?_
 refine l_box rfl rfl rfl rfl (us := [_, _, _, _, _]) rfl ?_
 intro b2
 refine ag_nil ?_
 refine q_assign rfl rfl rfl rfl ?_
 refine r_done ?_
 refine k_then_n ?_
 refine c_seq ?_
 refine c_seq ?_
 refine c_plain ((.l 0 [] (.q 1 (.done)))) (by kernel_rfl) ?_
 refine l_call rfl rfl rfl rfl rfl rfl Try.call8 (works_spec) Ts ?_
 rintro ⟨⟩ -
 try simp only [List.cons_append, List.nil_append]
 refine ag_nil ?_
 refine q_not rfl rfl rfl rfl ?_
 refine s_eq 11 rfl (v' := .bool false) rfl ?_
 refine r_done ?_
 refine k_then_n ?_
 refine c_cond_f rfl ?_
 refine c_skip ?_
 refine k_then_n ?_
 refine c_seq ?_
 refine c_plain (.q 0 (.q 1 ((.l 2 [] (.q 3 (.q 4 (.q 5 (.q 6 (.q 7 (.done)))))))))) (by kernel_rfl) ?_
 refine q_loadN_c rfl rfl rfl rfl Try.isAgg24 Try.sizeOf24 Tk 0 (us := [_, _, _, _, _]) (by first | rfl | exact (Nat.add_zero _).symm) rfl rfl ?_
 refine q_move rfl rfl rfl rfl ?_
 have sp_1 := onewbad2_spec th va vo lk pl ao n c A hr hn hb es eo m ec he_ hem hmb hok
 refine l_call rfl rfl rfl rfl rfl rfl Try.call9 (sp_1) Ts ?_
 rintro oe hoe
 try simp only [List.cons_append, List.nil_append]
 refine ag_nil ?_
 refine q_move rfl rfl rfl rfl ?_
 refine q_extract rfl rfl rfl rfl rfl ?_
 refine q_extract rfl rfl rfl rfl rfl ?_
 refine q_assign rfl rfl rfl rfl ?_
 refine q_assign rfl rfl rfl rfl ?_
 refine r_done ?_
 refine s_keep [1, 2, 5, 6] (e' := [(1, _), (2, _), (5, _), (6, _)]) rfl ?_
 refine k_then_n ?_
 refine c_seq ?_
 refine c_seq ?_
 refine c_plain (.q 0 (.q 1 (.done))) (by kernel_rfl) ?_
 refine q_move rfl rfl rfl rfl ?_
 refine q_int rfl rfl rfl rfl rfl (b_neq _ _ _ _) ?_
 refine r_done ?_
 refine k_then_n ?_
 refine c_cond_p rfl (fun hg => ?_) (fun hg => by exfalso; exact hoe (Classical.byContradiction hg))
 refine c_seq ?_
 refine c_plain (.q 0 (.done)) (by kernel_rfl) ?_
 refine q_assign rfl rfl rfl rfl ?_
 refine r_done ?_
 refine s_keep [4] (e' := [(4, _)]) rfl ?_
 refine k_then_n ?_
 refine c_ret ?_
 refine k_then_ret ?_
 refine ret1 rfl rfl (()) (by first | rfl | (first | rfl | (congr 1; done) | (congr 1 <;> first | rfl | omega | (simp; done) | (simp; omega)))) (by trivial) ?_
 exact Tf
theorem first_spec (th va vo lk : Int) (pl : List Int) (ao : Option Addr) (n c : Nat) (A : HProp) (hr : RdS A ao (pl.flatMap encZ)) (hn : pl.length = n) (hb : n ≤ 4000000) (es : List T3) (eo : Option Addr) (m ec : Nat) (he_ : RdS A eo (es.flatMap enc3)) (hem : es.length = m) (hmb : m ≤ 4000000) : Spec Try.prog 5 [.agg #[.int .i64 th, .int .i64 va, .int .i64 vo, .int .i64 lk, .slice ao n c], .slice eo m ec] [A] (fun (_ : Unit) => .bool true) (fun _ => True) (fun _ => [A]) := by
  by_cases hok : OkS th va vo lk pl
  · by_cases hall : es.length ≤ 2048 ∧ allC (newF th va vo lk pl) es es.length
    · exact first_ok th va vo lk pl ao n c A hr hn hb hok es eo m ec he_ hem hmb hall.1 hall.2
    · exact first_bad1 th va vo lk pl ao n c A hr hn hb hok es eo m ec he_ hem hmb hall
  · exact first_bad2 th va vo lk pl ao n c A hr hn hb hok es eo m ec he_ hem hmb
end Go.Ab.DjO
set_option linter.unusedVariables false
set_option linter.unusedSimpArgs false
namespace Go.Proofs.Ytkoclbjiaofkhaa.frame
open Go Go.Ab Go.ChangeShapes Go.WideShapes Go.ChangeAt Go.RowKit
/-! The bound. -/
theorem one_le {H : Type} (d : DataW H) : 1 ≤ Rows.uptoBulk d := by
  cases d with
  | lit l => cases l <;> simp [Rows.uptoBulk]
  | nil => simp [Rows.uptoBulk]
  | ptr d => simp [Rows.uptoBulk]
  | slice elems spare => simp [Rows.uptoBulk]
  | agg parts => simp [Rows.uptoBulk]
  | iface t d => simp [Rows.uptoBulk]
  | map entries => simp [Rows.uptoBulk]
  | held h => simp [Rows.uptoBulk]
theorem part_le {H : Type} {d : DataW H} {l : List (DataW H)} (h : d ∈ l) : Rows.uptoBulk d ≤ Rows.uptoBulkAll l := by
  induction l with
  | nil => cases h
  | cons x r ih =>
    simp only [Rows.uptoBulkAll]
    cases List.mem_cons.1 h with
    | inl e => subst e; omega
    | inr e => have := ih e; omega
theorem length_le {H : Type} (l : List (DataW H)) : l.length ≤ Rows.uptoBulkAll l := by
  induction l with
  | nil => simp [Rows.uptoBulkAll]
  | cons x r ih => have := one_le x; simp only [Rows.uptoBulkAll, List.length_cons]; omega
theorem bound {H : Type} {l : List (DataW H)} (hk : Rows.uptoSmall H l = true) : Rows.uptoBulkAll l ≤ 1048576 := of_decide_eq_true hk
theorem bound_mem {H : Type} {l : List (DataW H)} {d : DataW H} (hk : Rows.uptoSmall H l = true) (h : d ∈ l) : Rows.uptoBulk d ≤ 1048576 := Nat.le_trans (part_le h) (bound hk)
theorem bulk_slice {H : Type} {es rs : List (DataW H)} {d : DataW H} (h : d ∈ es) : Rows.uptoBulk d ≤ Rows.uptoBulk (.slice es rs) := by
  have := part_le h
  simp only [Rows.uptoBulk]; omega
theorem bulk_len {H : Type} (es rs : List (DataW H)) : es.length ≤ Rows.uptoBulk (.slice es rs) := by
  have := length_le es
  simp only [Rows.uptoBulk]; omega
/-! The arguments read behind the call as before. -/
theorem trodAll_below {H : Type} {enc : TypeId × Value → H} {P : Program} (hl : laidOutB P = true) {W W' : World} (hb : Below W.heap.size W W') : ∀ {ts : List TypeId} {vs : List Value} {ds : List (DataW H)} {ps : List MemPlace}, (∀ t ∈ ts, P.readableRec t = true ∧ t < P.types.size) →
    DataW.TrodAll enc P W 0 (fun _ => true) true ts vs ds ps → (∀ x ∈ ps, x.block < W.heap.size) → DataW.TrodAll enc P W' 0 (fun b => decide (b < W.heap.size)) true ts vs ds ps
  | [], [], [], _, _, h, _ => h
  | t :: ts, v :: vs, d :: ds, ps, hr, ⟨p, q, h, hs, e⟩, hlt => by
    subst e
    exact ⟨p, q, Below.trod hl (hr t (by simp)).1 (hr t (by simp)).2 h hb (fun x hx => hlt x (List.mem_append_left _ hx)), trodAll_below hl hb (fun t ht => hr t (List.mem_cons_of_mem _ ht)) hs (fun x hx => hlt x (List.mem_append_right _ hx)), rfl⟩
theorem law_post {H : Type} {enc : TypeId × Value → H} {P : Program} {f : Func} {s : ChangeSpec} {W W' : World} {args : Array Value} {ds gs : List (DataW H)} {before : List MemPlace} {tb : TypeId}
    (hl : laidOutB P = true) (hr : ∀ t ∈ f.params.toList, P.readableRec t = true ∧ t < P.types.size) (hvars : s.vars = []) (hres : f.resultTypes = #[tb]) (hb : P.underlying tb = some .bool)
    (hf : s.fn H (ds ++ gs) = { results := [.lit (.bool true)], args := ds, vars := [] }) (hW : DataW.Whole enc P f.params.toList s.vars false W args.toList ds gs before) (bel : Below W.heap.size W W') : s.post enc P f false true false false W args (.bool true) W' := by
  have hW' := hW
  obtain ⟨p, q, hA, hV, rfl, hfz, hnd⟩ := hW
  rw [hvars] at hV
  obtain ⟨rfl, rfl⟩ := trodVars_none hV
  have hA' : DataW.TrodAll enc P W 0 (fun _ => true) true f.params.toList args.toList ds p := hA
  refine ⟨ds, [], p ++ [], [], p, [], hW', ?_, ?_, ?_, bel.frame _, fun h => by cases h⟩
  · rw [hf, hres]
    exact trodAll_mk1 (shut_bool hb true)
  · rw [hf]
    exact trodAll_below hl bel hr hA' (fun x hx => hW'.lt x (List.mem_append_left _ hx))
  · rw [hf, hvars]
    exact rfl
theorem spec_calls {P : Program} {f : FuncId} {args : List Value} {W : World} (h : Ab.Spec P f args [base W] (fun (_ : Unit) => .bool true) (fun _ => True) (fun _ => [base W])) : Calls P f args.toArray W fun e W' => e = .returned (.bool true) ∧ Below W.heap.size W W' :=
  (h [] W (base_self W)).mono fun e w' ⟨_, e1, _, s, a⟩ => ⟨e1, below_of_base s a⟩
/-! Arguments are opened. -/
theorem spot_of_cell {W : World} {a : Addr} {v : Value} (h : W.cell? a = some v) : a.spot = none := by
  unfold World.cell? at h
  split at h
  · split at h
    · cases h
    · rename_i hs; simpa using hs
  · cases h
theorem choose_list {α : Type} : ∀ (n : Nat) (Q : Nat → α → Prop), (∀ i, i < n → ∃ x, Q i x) → ∃ xs : List α, xs.length = n ∧ ∀ i x, xs[i]? = some x → Q i x
  | 0, Q, _ => ⟨[], rfl, fun i x h => by simp at h⟩
  | n + 1, Q, h => by
    obtain ⟨xs, h1, h2⟩ := choose_list n Q (fun i hi => h i (by omega))
    obtain ⟨x, hx⟩ := h n (by omega)
    refine ⟨xs ++ [x], by simp [h1], fun i y hy => ?_⟩
    rcases Nat.lt_trichotomy i n with hi | hi | hi
    · rw [List.getElem?_append_left (by omega)] at hy; exact h2 i y hy
    · subst hi; rw [List.getElem?_append_right (by omega), h1, Nat.sub_self] at hy; simp at hy; subst hy; exact hx
    · rw [List.getElem?_eq_none (by simp; omega)] at hy; cases hy
theorem rdn_flat_mk {α : Type} {A : HProp} {b sz : Nat} {enc : α → List Value} (hsz : ∀ x, (enc x).length = sz) : ∀ (xs : List α) (o : Nat), (∀ i x, xs[i]? = some x → RdN A b (o + i * sz) (enc x)) → RdN A b o (xs.flatMap enc)
  | [], o, _ => fun i v h => by simp at h
  | x :: xs, o, h => fun i v hv => by
    rw [List.flatMap_cons] at hv
    by_cases hi : i < (enc x).length
    · rw [List.getElem?_append_left hi] at hv
      have := h 0 x rfl i v hv
      rwa [Nat.zero_mul, Nat.add_zero] at this
    · rw [List.getElem?_append_right (by omega), hsz] at hv
      rw [hsz] at hi
      have ih := rdn_flat_mk hsz xs (o + sz) (fun i y hy => by
        have := h (i + 1) y (by simpa using hy)
        rw [Nat.succ_mul] at this
        rwa [show o + sz + i * sz = o + (i * sz + sz) from by omega])
      have := ih (i - sz) v hv
      rwa [show o + sz + (i - sz) = o + i from by omega] at this
/-- A slice among what is read: its elements are opened by 'hel'. -/
theorem open_sl {α H : Type} {enc : TypeId × Value → H} {P : Program} {W : World} {t e : TypeId} {ao : Option Addr} {len cap sz fuel : Nat} {y : DataW H × List MemPlace} {enc' : α → List Value} {Q : α → DataW H → Prop} (ht : P.underlying t = some (.slice e)) (hc : P.cellsOf e = sz + 1) (hsz : ∀ x, (enc' x).length = sz + 1)
    (hel : ∀ n cs y, DataW.trod enc P W 0 (fun _ => true) true n e cs = some y → cs.length = sz + 1 → ∃ x : α, enc' x = cs ∧ Q x y.1)
    (h : DataW.trod enc P W 0 (fun _ => true) true fuel t [.slice ao len cap] = some y) :
    ∃ xs : List α, xs.length = len ∧ RdS (base W) ao (xs.flatMap enc') ∧ len ≤ cap ∧ cap ≤ maxLen ∧ xs.length ≤ Rows.uptoBulk y.1 ∧ (∀ x ∈ xs, ∃ d, Q x d ∧ Rows.uptoBulk d ≤ Rows.uptoBulk y.1) ∧ (ao = none → cap = 0) := by
  rcases DataW.trod_slice ht h with ⟨h1, h2⟩ | ⟨a, len', cap', elems, rest, n, -, h1, h2, -, hl, hm, hlen, hel', -⟩
  · simp only [List.cons.injEq, Value.slice.injEq, and_true] at h1
    obtain ⟨rfl, rfl, rfl⟩ := h1
    exact ⟨[], rfl, .inl rfl, Nat.le_refl _, Nat.zero_le _, Nat.zero_le _, fun _ h => (by cases h), fun _ => rfl⟩
  · simp only [List.cons.injEq, Value.slice.injEq, and_true] at h1
    obtain ⟨rfl, rfl, rfl⟩ := h1
    subst h2
    have key : ∀ i, i < len → ∃ x : α, ∃ cs y, W.cells? 0 (a.add (i * (sz + 1))) (sz + 1) = some cs ∧ elems[i]? = some y ∧ enc' x = cs ∧ Q x y.1 := by
      intro i hi
      have h3 := hel' i hi
      rw [List.getElem?_eq_getElem (by omega), hc, Option.bind_eq_some_iff] at h3
      obtain ⟨cs, h4, h5⟩ := h3
      have h6 := World.cells?_some h4
      obtain ⟨x, hx, hq⟩ := hel n cs _ h5 (by have := mapM_some_length (by unfold World.cells? at h4; rwa [if_pos (Nat.zero_le _)] at h4); simpa using this)
      exact ⟨x, cs, _, h4, List.getElem?_eq_getElem (by omega), hx, hq⟩
    obtain ⟨xs, hx1, hx2⟩ := choose_list len _ key
    have hcell : ∀ i x, xs[i]? = some x → ∀ j v, (enc' x)[j]? = some v → W.cell? ((a.add (i * (sz + 1))).add j) = some v := by
      intro i x hx j v hv
      obtain ⟨cs, y, h4, -, h5, -⟩ := hx2 i x hx
      subst h5
      unfold World.cells? at h4
      rw [if_pos (Nat.zero_le _)] at h4
      have hj : j < sz + 1 := by rw [← hsz x]; exact (List.getElem?_eq_some_iff.1 hv).1
      have := mapM_some_get h4 j j (by simp [hj])
      rw [this, hv]
    refine ⟨xs, hx1, ?_, hl, hm, ?_, ?_, fun h => by cases h⟩
    · cases hxs : xs with
      | nil => exact .inl rfl
      | cons x0 xs' =>
        obtain ⟨v0, hv0⟩ := get_lt (l := enc' x0) (i := 0) (by rw [hsz]; omega)
        have h6 := hcell 0 x0 (by rw [hxs]; rfl) 0 v0 hv0
        rw [Nat.zero_mul] at h6
        have hsp : a.spot = none := spot_of_cell (by simpa [Addr.add] using h6)
        obtain ⟨b, o, sp⟩ := a
        simp only at hsp
        subst hsp
        refine .inr ⟨b, o, rfl, ?_⟩
        rw [← hxs]
        refine rdn_flat_mk hsz xs o fun i x hx j v hv => rd_base ?_
        have := hcell i x hx j v hv
        rwa [add_none, add_none] at this
    · have := bulk_len (elems.map (·.1)) (rest.map (·.1))
      rw [List.length_map, hlen] at this
      rw [hx1]; exact this
    · intro x hx
      obtain ⟨i, hi⟩ := List.getElem?_of_mem hx
      obtain ⟨cs, y, -, h5, -, h7⟩ := hx2 i x hi
      exact ⟨y.1, h7, bulk_slice (List.mem_map_of_mem (List.mem_of_getElem? h5))⟩
/-- Whole arguments. -/
theorem arg_sl {α H : Type} {enc : TypeId × Value → H} {P : Program} {W : World} {t e : TypeId} {v : Value} {d : DataW H} {ps : List MemPlace} {bs sz : Nat} {enc' : α → List Value} {Q : α → DataW H → Prop} (ht : P.underlying t = some (.slice e)) (hc : P.cellsOf e = sz + 1) (hsz : ∀ x, (enc' x).length = sz + 1)
    (hel : ∀ n cs y, DataW.trod enc P W 0 (fun _ => true) true n e cs = some y → cs.length = sz + 1 → ∃ x : α, enc' x = cs ∧ Q x y.1)
    (hval : Value.okWide P W .any bs t v) (h : DataW.Trod enc P W 0 (fun _ => true) true t v d ps) :
    ∃ (xs : List α) (ao : Option Addr) (cap : Nat), v = .slice ao xs.length cap ∧ RdS (base W) ao (xs.flatMap enc') ∧ xs.length ≤ cap ∧ cap ≤ maxLen ∧ xs.length ≤ Rows.uptoBulk d ∧ (∀ x ∈ xs, ∃ y, Q x y ∧ Rows.uptoBulk y ≤ Rows.uptoBulk d) ∧ (ao = none → cap = 0) := by
  obtain ⟨ao, len, cap, rfl⟩ := okWide_slice ht hval
  obtain ⟨n, hn⟩ := h
  obtain ⟨xs, h1, h2, h3, h4, h5, h6, h7⟩ := open_sl ht hc hsz hel (y := (d, ps)) (by simpa [Value.cells] using hn)
  subst h1
  exact ⟨xs, ao, cap, rfl, h2, h3, h4, h5, h6, h7⟩
/-- A slice of an element of a slice. -/
theorem el_sl {α H : Type} {enc : TypeId × Value → H} {P : Program} {W : World} {t e : TypeId} {sz : Nat} {enc' : α → List Value} {Q : α → DataW H → Prop} (ht : P.underlying t = some (.slice e)) (hc : P.cellsOf e = sz + 1) (hsz : ∀ x, (enc' x).length = sz + 1)
    (hel : ∀ n cs y, DataW.trod enc P W 0 (fun _ => true) true n e cs = some y → cs.length = sz + 1 → ∃ x : α, enc' x = cs ∧ Q x y.1)
    (n : Nat) (cs : List Value) (y : DataW H × List MemPlace) (h : DataW.trod enc P W 0 (fun _ => true) true n t cs = some y) (hl : cs.length = 0 + 1) :
    ∃ x : LstA α, encH x = cs ∧ (RdS (base W) x.1 (x.2.2.flatMap enc') ∧ x.2.2.length ≤ Rows.uptoBulk y.1 ∧ (∀ z ∈ x.2.2, ∃ d, Q z d ∧ Rows.uptoBulk d ≤ Rows.uptoBulk y.1) ∧ x.2.2.length ≤ x.2.1) := by
  have h0 : ∃ ao len cap, cs = [.slice ao len cap] := by
    rcases DataW.trod_slice ht h with ⟨h1, -⟩ | ⟨a, len', cap', elems, rest, n, -, h1, -⟩
    · exact ⟨_, _, _, h1⟩
    · exact ⟨_, _, _, h1⟩
  obtain ⟨ao, len, cap, rfl⟩ := h0
  obtain ⟨xs, h1, h2, h3, h4, h5, h6, h7⟩ := open_sl ht hc hsz hel h
  subst h1
  exact ⟨(ao, cap, xs), rfl, h2, h5, h6, h3⟩
/-- An integer. -/
theorem el_int {H : Type} {enc : TypeId × Value → H} {P : Program} {W : World} {e : TypeId} {k : IntKind} (he : P.underlying e = some (.int k)) (n : Nat) (cs : List Value) (y : DataW H × List MemPlace) (h : DataW.trod enc P W 0 (fun _ => true) true n e cs = some y) (hl : cs.length = 0 + 1) : ∃ x : Int, [Value.int k x] = cs ∧ (Lit.int k x).wf = true := by
  obtain ⟨m, rfl, rfl, hw⟩ := DataW.trod_int he h
  exact ⟨m, rfl, hw⟩
end Go.Proofs.Ytkoclbjiaofkhaa.frame
set_option linter.unusedVariables false
set_option linter.unusedSimpArgs false
namespace Go.Proofs.Ytkoclbjiaofkhaa.frame
open Go Go.Ab Go.ChangeShapes Go.WideShapes Go.ChangeAt Go.RowKit
variable {α β H : Type} {enc : TypeId × Value → H} {P : Program} {W : World} {e : TypeId} {fs : Array Field} {m : Nat} {cs : List Value} {B : Nat}
/-- How an element of type e is opened. -/
abbrev El (enc : TypeId × Value → H) (P : Program) (W : World) (e : TypeId) (sz : Nat) (encA : α → List Value) (Q : α → DataW H → Prop) : Prop :=
  ∀ n cs y, DataW.trod enc P W 0 (fun _ => true) true n e cs = some y → cs.length = sz → ∃ x : α, encA x = cs ∧ Q x y.1
/-- What is known of the fields from i on. -/
def FR (enc : TypeId × Value → H) (P : Program) (W : World) (fs : Array Field) (m i : Nat) (cs : List Value) (B : Nat) : Prop :=
  ∀ j f, i ≤ j → fs[j]? = some f → ∃ y : DataW H × List MemPlace, DataW.trod enc P W 0 (fun _ => true) true m f.type ((cs.drop f.offset).take (P.cellsOf f.type)) = some y ∧ Rows.uptoBulk y.1 ≤ B
theorem fr_start {n : Nat} {y : DataW H × List MemPlace} (he : P.underlying e = some (.struct fs)) (h : DataW.trod enc P W 0 (fun _ => true) true n e cs = some y) : ∃ m, FR enc P W fs m 0 cs (Rows.uptoBulk y.1) := by
  obtain ⟨xs, m, -, hy, -, hxs, hf⟩ := DataW.trod_struct he h
  refine ⟨m, fun j f _ hj => ?_⟩
  have hlt : j < xs.length := by rw [hxs]; exact (Array.getElem?_eq_some_iff.1 hj).1
  have := hf j f hj
  rw [List.getElem?_eq_getElem hlt] at this
  refine ⟨_, this, ?_⟩
  rw [hy]
  have hp := part_le (l := xs.map (·.1)) (d := xs[j].1) (List.mem_map_of_mem (List.getElem_mem hlt))
  simp only [Rows.uptoBulk]
  omega
/-- Fields from i on, opened. -/
abbrev Fo (enc : TypeId × Value → H) (P : Program) (W : World) (fs : Array Field) (i off sz : Nat) (encA : α → List Value) (Q : α → Nat → Prop) : Prop :=
  ∀ m cs B, FR enc P W fs m i cs B → cs.length = off + sz → ∃ x : α, encA x = cs.drop off ∧ Q x B
theorem fo_last {i off sz : Nat} {f : Field} {encA : α → List Value} {Q : α → DataW H → Prop} (hf : fs[i]? = some f) (ho : f.offset = off) (hc : P.cellsOf f.type = sz) (el : El enc P W f.type sz encA Q) :
    Fo enc P W fs i off sz encA (fun x B => ∃ d, Q x d ∧ Rows.uptoBulk d ≤ B) := by
  intro m cs B h hl
  obtain ⟨y, hy, hb⟩ := h i f (Nat.le_refl _) hf
  rw [ho, hc, List.take_of_length_le (by rw [List.length_drop]; omega)] at hy
  obtain ⟨x, hx, hq⟩ := el m _ y hy (by rw [List.length_drop]; omega)
  exact ⟨x, hx, y.1, hq, hb⟩
theorem fo_cons {i off sz n : Nat} {f : Field} {encA : α → List Value} {Q : α → DataW H → Prop} {encB : β → List Value} {R : β → Nat → Prop} (hf : fs[i]? = some f) (ho : f.offset = off) (hc : P.cellsOf f.type = sz) (el : El enc P W f.type sz encA Q)
    (rest : Fo enc P W fs (i + 1) (off + sz) n encB R) : Fo enc P W fs i off (sz + n) (fun x : α × β => encA x.1 ++ encB x.2) (fun x B => (∃ d, Q x.1 d ∧ Rows.uptoBulk d ≤ B) ∧ R x.2 B) := by
  intro m cs B h hl
  obtain ⟨y, hy, hb⟩ := h i f (Nat.le_refl _) hf
  rw [ho, hc] at hy
  obtain ⟨x, hx, hq⟩ := el m _ y hy (by rw [List.length_take, List.length_drop]; omega)
  obtain ⟨z, hz, hr⟩ := rest m cs B (fun j g hj hg => h j g (by omega) hg) (by omega)
  refine ⟨(x, z), ?_, ⟨y.1, hq, hb⟩, hr⟩
  show encA x ++ encB z = _
  rw [hx, hz, ← List.drop_drop, List.take_append_drop]
theorem el_struct {sz : Nat} {encA : α → List Value} {Q : α → Nat → Prop} (he : P.underlying e = some (.struct fs)) (fo : Fo enc P W fs 0 0 sz encA Q) : El enc P W e sz encA (fun x d => Q x (Rows.uptoBulk d)) := by
  intro n cs y h hl
  obtain ⟨m, hm⟩ := fr_start he h
  obtain ⟨x, hx, hq⟩ := fo m cs _ hm (by omega)
  exact ⟨x, hx, hq⟩
/-- A struct handed in. -/
theorem arg_struct {t : TypeId} {v : Value} {d : DataW H} {ps : List MemPlace} {bs sz : Nat} {encA : α → List Value} {Q : α → DataW H → Prop} (ht : P.underlying t = some (.struct fs)) (hc : P.cellsOf t = sz) (el : El enc P W t sz encA Q)
    (hval : Value.okWide P W .any bs t v) (h : DataW.Trod enc P W 0 (fun _ => true) true t v d ps) : ∃ x : α, v = .agg (encA x).toArray ∧ Q x d := by
  obtain ⟨cs, rfl, hs⟩ := okWide_struct ht hval
  obtain ⟨n, hn⟩ := h
  obtain ⟨x, hx, hq⟩ := el n cs.toList (d, ps) (by simpa [Value.cells] using hn) (by simpa [hc] using hs)
  exact ⟨x, by rw [hx], hq⟩
end Go.Proofs.Ytkoclbjiaofkhaa.frame
