/- What the law Against rests on, part 6 of 6. -/
import Derived.Test.YtiefkbajaffgcaaAgainstE
import Derived.Test.YtiefkbajaffgcaaRows
import Derived.WalkKit
import Derived.ProofKit
import Derived.OpenShut
import Derived.JoinedCond
import Derived.Carry
set_option linter.unusedVariables false
set_option linter.unusedSimpArgs false
set_option maxRecDepth 100000
namespace Go.Ab.Hi
open Go Go.Proofs Go.Ab Go.Ab.Fe Go.Ab.Vc Go.Ab.Dj Go.Ab.So Go.Ab.Ord Go.Ab.DjB
open Go.Ab.DjO (vEv vN vN_next vN_app clkF eZ_nn vn_hb h_all raceB raceB_at confP accP orace_spec)
theorem pw_at {l : List Int} {p : Nat} {a b : Int} (h : l.Pairwise (· < ·)) (hp : 0 < p) (h0 : l[p - 1]? = some a) (h1 : l[p]? = some b) : a < b := by
  obtain ⟨i0, e0⟩ := List.getElem?_eq_some_iff.1 h0
  obtain ⟨i1, e1⟩ := List.getElem?_eq_some_iff.1 h1
  rw [← e0, ← e1]
  exact List.pairwise_iff_getElem.1 h (p - 1) p i0 i1 (by omega)
theorem has_at {l : List Int} {z : Int} {i : Nat} (h : i ≤ l.length) (hn : ∀ j : Nat, j < i → l[j]? ≠ some z) (he : i = l.length) : z ∉ l := fun hm => by
  obtain ⟨j, hj⟩ := List.getElem?_of_mem hm
  exact hn j (by have := (List.getElem?_eq_some_iff.1 hj).1; omega) hj
theorem lastF_eq {es : List T3} {e : T3} {n m : Nat} (hm : m ≤ n) (hn : ∀ j : Nat, m ≤ j → j < n → es[j]? ≠ some e) : lastF es e n = lastF es e m := by
  induction n with
  | zero => obtain rfl : m = 0 := by omega
            rfl
  | succ n ih =>
    by_cases h : m = n + 1
    · rw [h]
    · rw [lastF, if_neg (hn n (by omega) (by omega))]
      exact ih (by omega) fun j h1 h2 => hn j h1 (by omega)
theorem wH_next {x : HS} {k t o : Int} (hx : SInv x) (hv : vcanF x.v k t o) (hk : k = 1 ∨ k = 2) : wH (heF x k t o) o = ntV x.v.ck.n k t o (agF x k t o) (wH x o) := by
  obtain ⟨o0, o1⟩ := acc_o hv.1 hk
  have hlen := hx.len
  obtain ⟨w, hw⟩ := get_lt (l := x.vars) (i := o.toNat) (by omega)
  have hl := (List.getElem?_eq_some_iff.1 hw).1
  have h1 : wH x o = w := by rw [wH, if_pos o0, hw]; rfl
  rw [h1, heF, if_pos hv, accF, if_pos hk]
  unfold wH ntF
  rw [if_pos o0]
  show ((x.vars.set o.toNat _)[o.toNat]?).getD t0 = _
  rw [List.getElem?_set_self hl, getD_some hw]; rfl
theorem ntV_facts {n k t o : Int} {l : List Int} {w : Tld} : (w.2.2.1 = true → (ntV n k t o l w).1 = w.1 ∧ (ntV n k t o l w).2.2.1 = true) ∧
    (w.2.2.1 = false → l.length = 0 → (ntV n k t o l w).2.2.1 = false) ∧ (w.2.2.1 = false → ∀ z, l[l.length - 1]? = some z → (ntV n k t o l w).2.2.1 = true ∧ (ntV n k t o l w).1 = (o, z, n)) := by
  refine ⟨fun h => ?_, fun h hl => ?_, fun h z hz => ?_⟩
  · unfold ntV
    split
    · exact ⟨rfl, h⟩
    · rw [if_pos h]; exact ⟨rfl, rfl⟩
  · have : l = [] := List.eq_nil_of_length_eq_zero hl
    subst this; exact h
  · rw [ntV_at hz, if_neg (by rw [h]; decide)]
    exact ⟨rfl, rfl⟩
theorem has_spec (xs : List Int) (ao : Option Addr) (n c : Nat) (A : HProp) (hr : RdS A ao (xs.flatMap encZ)) (hn : xs.length = n) (hb : n ≤ 4000000) (z : Int) : Spec Try.prog 19 [.slice ao n c, .int .i64 z] [A] (fun (_ : Unit) => .bool (decide (z ∈ xs))) (fun _ => True) (fun _ => [A]) := by
 refine spec_mk (n := 18) Try.func19 rfl rfl rfl ?_
 intro Γ w0
 simp only [argE, List.cons_append, List.nil_append, Nat.zero_add, Nat.reduceAdd]
 refine c_seq ?_
 refine c_plain (.q 0 (.done)) (by kernel_rfl) ?_
 refine q_assign rfl rfl rfl rfl ?_
 refine r_done ?_
 refine k_then_n ?_
 refine c_seq ?_
 refine c_seq ?_
 refine c_plain (.q 0 (.done)) (by kernel_rfl) ?_
 refine q_assign rfl rfl rfl rfl ?_
 refine r_done ?_
 refine k_then_n ?_
 refine c_block ?_
 refine c_loop2 (α := Nat) (fun (i : Nat) => i ≤ n ∧ (∀ j : Nat, j < i → xs[j]? ≠ some z)) (fun (i : Nat) => [(5, .int .i64 ((i : Nat) : Int))]) (fun (i : Nat) => []) (fun (i : Nat) => n - i) [0, 1] (er := [(0, _), (1, _)]) rfl (0) ?_ (by exact ⟨rfl, trivial⟩) (by (try dsimp only); (try simp only [Nat.add_zero, Nat.zero_add]); (repeat ((with_reducible apply Z2); focus (first | (with_reducible (repeat (first | exact Z0 | apply Z1)); done) | (repeat (first | exact Z0 | apply Z1))))); exact Z3) ?_
 · exact ⟨Nat.zero_le _, fun j h => by omega⟩
 rintro i ⟨hle_i, hI⟩
 try simp only [List.cons_append, List.nil_append]
 refine c_seq ?_
 refine c_seq ?_
 refine c_plain (.q 0 (.q 1 (.q 2 (.q 3 (.done))))) (by kernel_rfl) ?_
 refine q_move rfl rfl rfl rfl ?_
 refine q_move rfl rfl rfl rfl ?_
 refine q_len rfl rfl rfl rfl Try.underlying23 ?_
 refine q_int rfl rfl rfl rfl rfl (b_lss _ _ _ _) ?_
 refine r_done ?_
 refine k_then_n ?_
 refine c_cond_p rfl (fun hlt => ?_) (fun hlt => ?_)
 ·
  refine c_skip ?_
  refine k_then_n ?_
  refine c_seq ?_
  refine c_block ?_
  refine c_seq ?_
  refine c_plain (.q 0 (.q 1 (.q 2 (.q 3 (.q 4 (.q 5 (.done))))))) (by kernel_rfl) ?_
  refine q_move rfl rfl rfl rfl ?_
  refine q_move rfl rfl rfl rfl ?_
  obtain ⟨x, hx⟩ := get_lt (l := xs) (i := i) (by first | omega | (simp; done) | (simp; omega))
  refine q_idxR (sz := 0) (k := i) rfl rfl rfl rfl rfl Try.underlying23 Try.sizeOf3 (hr) hx encZ_len (by first | rfl | omega) (by omega) ?_
  intro ib14 io14 _ hd14
  refine q_load rfl rfl rfl rfl Try.isAgg3 Tk (hd14 0 (.int .i64 x) rfl) ?_
  refine q_move rfl rfl rfl rfl ?_
  refine q_int rfl rfl rfl rfl rfl (b_eql _ _ _ _) ?_
  refine r_done ?_
  refine s_keep [0, 1, 5, 17] (e' := [(0, _), (1, _), (5, _), (17, _)]) rfl ?_
  refine k_then_n ?_
  refine c_cond_p rfl (fun hne => ?_) (fun hne => ?_)
  ·
   refine c_seq ?_
   refine c_plain (.q 0 (.done)) (by kernel_rfl) ?_
   refine q_assign rfl rfl rfl rfl ?_
   refine r_done ?_
   refine s_keep [4] (e' := [(4, _)]) rfl ?_
   refine k_then_n ?_
   refine c_ret ?_
   refine k_blk_ret ?_
   refine k_then_ret ?_
   refine k_then_ret ?_
   refine k_blk_ret ?_
   refine k_then_ret ?_
   refine ret1 rfl rfl (()) (by congr 1; symm; rw [decide_eq_true_eq]; rw [← hne]; exact List.mem_of_getElem? hx) (by trivial) ?_
   exact Tf
  ·
   refine c_skip ?_
   refine k_blk_n ?_
   refine k_then_n ?_
   refine c_plain (.q 0 (.q 1 (.q 2 (.done)))) (by kernel_rfl) ?_
   refine q_move rfl rfl rfl rfl ?_
   refine q_int rfl rfl rfl rfl rfl (b_add' _ (by exact fits_i64 (by omega) (by omega))) ?_
   refine q_assign rfl rfl rfl rfl ?_
   refine r_done ?_
   refine k_then_n ?_
   refine loop_next (x := i) (i + 1) ?_ ?_ ?_ ?_
   · exact ⟨by omega, fun j hj hq => (by
         by_cases e : j = i
         · subst e; rw [hx] at hq; exact hne (Option.some.inj hq)
         · exact hI j (by omega) hq)⟩
   · show n - (i + 1) < n - i; omega
   · exact ⟨rfl, rfl, rfl, trivial⟩
   · (try simp only [List.cons_append, List.nil_append]); exact Tf
 ·
  refine c_exit ?_
  refine k_then_exit ?_
  refine k_then_exit ?_
  refine k_blk_here ?_
  refine k_then_n ?_
  refine c_seq ?_
  refine c_plain (.q 0 (.done)) (by kernel_rfl) ?_
  refine q_assign rfl rfl rfl rfl ?_
  refine r_done ?_
  refine s_keep [4] (e' := [(4, _)]) rfl ?_
  refine k_then_n ?_
  refine c_ret ?_
  refine ret1 rfl rfl (()) (by congr 1; symm; rw [decide_eq_false_iff_not]; exact has_at (by omega) hI (by omega)) (by trivial) ?_
  exact Tf
theorem last_of (es : List T3) (eo : Option Addr) (m ec : Nat) (A : HProp) (he : RdS A eo (es.flatMap enc3)) (hm : es.length = m) (hmb : m ≤ 4000000) (e : T3) : Spec Try.prog 20 [.slice eo m ec, .agg #[.int .i64 e.1, .int .i64 e.2.1, .int .i64 e.2.2]] [A] (fun (_ : Unit) => .int .i64 (lastF es e m)) (fun _ => True) (fun _ => [A]) := by
 refine spec_mk (n := 20) Try.func20 rfl rfl rfl ?_
 intro Γ w0
 simp only [argE, List.cons_append, List.nil_append, Nat.zero_add, Nat.reduceAdd]
 refine c_seq ?_
 refine c_plain ((.l 0 [] (.q 1 (.done)))) (by kernel_rfl) ?_
 refine l_box rfl rfl rfl rfl (us := [_, _, _]) rfl ?_
 intro b3
 refine ag_nil ?_
 refine q_assign rfl rfl rfl rfl ?_
 refine r_done ?_
 refine k_then_n ?_
 refine c_seq ?_
 refine c_seq ?_
 refine c_plain (.q 0 (.q 1 (.q 2 (.q 3 (.done))))) (by kernel_rfl) ?_
 refine q_move rfl rfl rfl rfl ?_
 refine q_len rfl rfl rfl rfl Try.underlying26 ?_
 refine q_int rfl rfl rfl rfl rfl (b_sub' _ (by exact fits_i64 (by omega) (by omega))) ?_
 refine q_assign rfl rfl rfl rfl ?_
 refine r_done ?_
 refine s_keep [0, 3, 5] (e' := [(0, _), (3, _), (5, _)]) rfl ?_
 refine k_then_n ?_
 refine c_block ?_
 refine c_loop2 (α := Nat) (fun (i : Nat) => i ≤ m ∧ ∀ j : Nat, i ≤ j → j < m → es[j]? ≠ some e) (fun (i : Nat) => [(5, .int .i64 (((i : Nat) : Int) - 1))]) (fun (i : Nat) => []) (fun (i : Nat) => i) [0, 3] (er := [(0, _), (3, _)]) rfl (m) ?_ (by exact ⟨rfl, trivial⟩) (by (try dsimp only); (try simp only [Nat.add_zero, Nat.zero_add]); (repeat ((with_reducible apply Z2); focus (first | (with_reducible (repeat (first | exact Z0 | apply Z1)); done) | (repeat (first | exact Z0 | apply Z1))))); exact Z3) ?_
 · exact ⟨Nat.le_refl _, fun j h1 h2 => by omega⟩
 rintro i ⟨hi, hI⟩
 try simp only [List.cons_append, List.nil_append]
 refine c_seq ?_
 refine c_seq ?_
 refine c_plain (.q 0 (.q 1 (.done))) (by kernel_rfl) ?_
 refine q_move rfl rfl rfl rfl ?_
 refine q_int rfl rfl rfl rfl rfl (b_geq _ _ _ _) ?_
 refine r_done ?_
 refine k_then_n ?_
 refine c_cond_p rfl (fun hge => ?_) (fun hge => ?_)
 ·
  obtain ⟨ev, hev⟩ := get_lt (l := es) (i := i - 1) (by omega)
  refine c_skip ?_
  refine k_then_n ?_
  refine c_seq ?_
  refine c_block ?_
  refine c_seq ?_
  refine c_draw rfl (.q 0 (.q 1 (.q 2 (.q 3 (.q 4 (.q 5 (.done))))))) (by kernel_rfl) ?_
  refine q_move rfl rfl rfl rfl ?_
  refine q_move rfl rfl rfl rfl ?_
  refine q_idxR (sz := 2) (k := (i - 1)) rfl rfl rfl rfl rfl Try.underlying26 Try.sizeOf36 (he) hev enc3_len (by first | rfl | omega) (by omega) ?_
  intro ib15 io15 _ hd15
  refine q_loadN (vs := [_, _, _]) rfl rfl rfl rfl Try.isAgg36 Try.sizeOf36 Tk (hd15) rfl ?_
  refine q_loadN_c rfl rfl rfl rfl Try.isAgg36 Try.sizeOf36 Tk 0 (us := [_, _, _]) (by first | rfl | exact (Nat.add_zero _).symm) rfl rfl ?_
  refine q_eqS rfl rfl rfl rfl rfl (by kernel_rfl) (eqc_struct Try.underlying36 (by kernel_rfl) (eqf_cons rfl Try.isAgg34 rfl rfl (eqc_int Try.underlying34) (eqf_cons rfl Try.isAgg3 rfl rfl (eqc_int Try.underlying3) (eqf_last rfl Try.isAgg3 rfl rfl (eqc_int Try.underlying3))))) ?_
  refine s_eq 18 rfl (v' := .bool (decide (ev = (e.1, e.2.1, e.2.2)))) (by first | (congr 1; done) | (congr 1; rw [Bool.eq_iff_iff]; simp [Prod.ext_iff, and_assoc])) ?_
  refine r_done ?_
  refine s_keep [0, 3, 5, 18] (e' := [(0, _), (3, _), (5, _), (18, _)]) rfl ?_
  refine k_then_n ?_
  refine c_cond_p rfl (fun hne => ?_) (fun hne => ?_)
  ·
   refine c_seq ?_
   refine c_plain (.q 0 (.q 1 (.done))) (by kernel_rfl) ?_
   refine q_move rfl rfl rfl rfl ?_
   refine q_assign rfl rfl rfl rfl ?_
   refine r_done ?_
   refine s_keep [4] (e' := [(4, _)]) rfl ?_
   refine k_then_n ?_
   refine c_ret ?_
   refine k_blk_ret ?_
   refine k_then_ret ?_
   refine k_then_ret ?_
   refine k_blk_ret ?_
   refine k_then_ret ?_
   refine ret1 rfl rfl (()) (by congr 1; rw [lastF_eq (m := i) hi hI]; obtain ⟨j, rfl⟩ : ∃ j, i = j + 1 := ⟨i - 1, by omega⟩; rw [lastF, if_pos (by have h9 : ev = e := hne; rw [← h9]; simpa using hev)]; omega) (by trivial) ?_
   exact Tf
  ·
   refine c_skip ?_
   refine k_blk_n ?_
   refine k_then_n ?_
   refine c_plain (.q 0 (.q 1 (.q 2 (.done)))) (by kernel_rfl) ?_
   refine q_move rfl rfl rfl rfl ?_
   refine q_int rfl rfl rfl rfl rfl (b_sub' _ (by exact fits_i64 (by omega) (by omega))) ?_
   refine q_assign rfl rfl rfl rfl ?_
   refine r_done ?_
   refine k_then_n ?_
   refine s_eq 5 rfl (v' := .int .i64 ((((i - 1) : Nat) : Int) - 1)) (by first | rfl | (congr 1; done) | (congr 1 <;> first | rfl | omega | (simp; done) | (simp; omega))) ?_
   refine loop_next (x := i) (i - 1) ?_ ?_ ?_ ?_
   · exact ⟨by omega, fun j h1 h2 hq => (by
         by_cases e0 : j = i - 1
         · subst e0; rw [hev] at hq; exact hne (Option.some.inj hq)
         · exact hI j (by omega) h2 hq)⟩
   · show i - 1 < i; omega
   · exact ⟨rfl, rfl, rfl, trivial⟩
   · (try simp only [List.cons_append, List.nil_append]); exact Tf
 ·
  refine c_exit ?_
  refine k_then_exit ?_
  refine k_then_exit ?_
  refine k_blk_here ?_
  refine k_then_n ?_
  refine c_seq ?_
  refine c_plain (.q 0 (.done)) (by kernel_rfl) ?_
  refine q_assign rfl rfl rfl rfl ?_
  refine r_done ?_
  refine s_keep [4] (e' := [(4, _)]) rfl ?_
  refine k_then_n ?_
  refine c_ret ?_
  refine ret1 rfl rfl (()) (by rw [lastF_eq (m := i) hi hI]; obtain rfl : i = 0 := (by omega); rfl) (by trivial) ?_
  exact Tf
theorem againstlaw_ok (th va vo lk : Int) (pl : List Int) (ao : Option Addr) (n c : Nat) (A : HProp) (hr : RdS A ao (pl.flatMap encZ)) (hn : pl.length = n) (hb : n ≤ 4000000) (es : List T3) (eo : Option Addr) (m ec : Nat) (he : RdS A eo (es.flatMap enc3)) (hm : es.length = m) (hmb : m ≤ 4000000) (t v : Int) (wr : Bool) (kk : Int) (hkk : kk = if wr = true then 2 else 1) (hok : OkS th va vo lk pl) (hall : allC (newF th va vo lk pl) (es ++ [(kk, t, v)]) (es ++ [(kk, t, v)]).length) : Spec Try.prog 5 [.agg #[.int .i64 th, .int .i64 va, .int .i64 vo, .int .i64 lk, .slice ao n c], .slice eo m ec, .int .i64 t, .int .i64 v, .bool wr] [A] (fun (_ : Unit) => .bool true) (fun _ => True) (fun _ => [A]) := by
 refine spec_mk (n := 227) Try.func5 rfl rfl rfl ?_
 intro Γ w0
 simp only [argE, List.cons_append, List.nil_append, Nat.zero_add, Nat.reduceAdd]
 refine c_seq ?_
 refine c_plain ((.l 0 [] (.q 1 (.done)))) (by kernel_rfl) ?_
 refine l_box rfl rfl rfl rfl (us := [_, _, _, _, _]) rfl ?_
 intro b5
 refine ag_nil ?_
 refine q_assign rfl rfl rfl rfl ?_
 refine r_done ?_
 refine k_then_n ?_
 refine c_seq ?_
 refine c_seq ?_
 refine c_plain ((.l 0 [] (.q 1 (.q 2 (.q 3 (.q 4 ((.l 5 [] (.q 6 (.q 7 (.done))))))))))) (by kernel_rfl) ?_
 have sp_1 := works_spec
 refine l_call rfl rfl rfl rfl rfl rfl Try.call7 (sp_1) Ts ?_
 rintro ⟨⟩ -
 try simp only [List.cons_append, List.nil_append]
 refine ag_nil ?_
 refine q_not rfl rfl rfl rfl ?_
 refine s_eq 30 rfl (v' := .bool false) rfl ?_
 refine q_move rfl rfl rfl rfl ?_
 refine q_loadN_c rfl rfl rfl rfl Try.isAgg25 Try.sizeOf25 Tk 0 (us := [_, _, _, _, _]) (by first | rfl | exact (Nat.add_zero _).symm) rfl rfl ?_
 refine q_move rfl rfl rfl rfl ?_
 have sp_2 := small_spec th va vo lk ao n c eo m ec
 refine l_call rfl rfl rfl rfl rfl rfl Try.call8 (sp_2) Ts ?_
 rintro ⟨⟩ -
 try simp only [List.cons_append, List.nil_append]
 refine ag_nil ?_
 refine q_not rfl rfl rfl rfl ?_
 refine q_pick_f rfl rfl rfl rfl rfl ?_
 refine r_done ?_
 refine s_keep [1, 2, 3, 4, 5, 36] (e' := [(1, _), (2, _), (3, _), (4, _), (5, _), (36, _)]) rfl ?_
 refine k_then_n ?_
 refine c_cond_np rfl (fun hsm => ?_) (fun hsm => ?_)
 ·
  refine c_seq ?_
  refine c_plain ((.l 0 [] (.q 1 (.done)))) (by kernel_rfl) ?_
  have sp_3 := works_spec
  refine l_call rfl rfl rfl rfl rfl rfl Try.call7 (sp_3) Ts ?_
  rintro ⟨⟩ -
  try simp only [List.cons_append, List.nil_append]
  refine ag_nil ?_
  refine q_assign rfl rfl rfl rfl ?_
  refine r_done ?_
  refine s_keep [10] (e' := [(10, _)]) rfl ?_
  refine k_then_n ?_
  refine c_ret ?_
  refine k_then_ret ?_
  refine ret1 rfl rfl (()) (by first | rfl | (first | rfl | (congr 1; done) | (congr 1 <;> first | rfl | omega | (simp; done) | (simp; omega)))) (by trivial) ?_
  exact Tf
 ·
  refine c_skip ?_
  refine k_then_n ?_
  refine c_seq ?_
  refine c_plain (.q 0 (.q 1 (.q 2 ((.l 3 [] ((.l 4 [] (.done)))))))) (by kernel_rfl) ?_
  refine q_move rfl rfl rfl rfl ?_
  refine q_move rfl rfl rfl rfl ?_
  refine q_build rfl rfl rfl rfl (vs := [_, _, _]) (run_buildS Try.underlying36 Try.zeroValue36 (ps := [(0, 1), (1, 1), (2, 1)]) ⟨rfl, Try.sizeOf34, rfl, Try.sizeOf3, rfl, Try.sizeOf3, trivial⟩ rfl) ?_
  refine l_alloc rfl rfl rfl Try.zeroValue36 (zs := [.int .i64 0, .int .i64 0, .int .i64 0]) rfl ?_
  intro b11
  refine ag_nil ?_
  refine l_store (j := 0) rfl rfl rfl rfl Try.sizeOf36 (us := [_, _, _]) rfl rfl rfl Tk (by first | rfl | exact (Nat.add_zero _).symm) (by first | decide | (simp; done) | omega) ?_
  simp only [setL, List.set]
  refine ag_nil ?_
  refine r_done ?_
  refine s_keep [1, 3, 4, 5, 11] (e' := [(1, _), (3, _), (4, _), (5, _), (11, _)]) rfl ?_
  refine k_then_n ?_
  refine c_seqJ (α := Unit) (fun (_u : Unit) => True) (fun (_u : Unit) => []) (fun (_u : Unit) => [cells b11 0 [.int .i64 kk, .int .i64 t, .int .i64 v]]) [1, 3, 5, 11] (er := [(1, _), (3, _), (5, _), (11, _)]) rfl [cells b11 0 [.int .i64 1, .int .i64 t, .int .i64 v]] Ts ?_ ?_
  ·
   refine c_seq ?_
   refine c_plain (.q 0 (.done)) (by kernel_rfl) ?_
   refine q_move rfl rfl rfl rfl ?_
   refine r_done ?_
   refine k_then_n ?_
   refine c_cond rfl (fun hw => ?_) (fun hw => ?_)
   ·
    try simp only [Bool.and_eq_true, Bool.or_eq_true, Bool.not_eq_true', Bool.not_eq_false', Bool.and_eq_false_iff, Bool.or_eq_false_iff, decide_eq_true_eq, decide_eq_false_iff_not] at hw
    refine c_plain (.q 0 ((.l 1 [] (.done)))) (by kernel_rfl) ?_
    refine q_field (k := 0) rfl rfl rfl rfl Try.underlying36 rfl Try.sizeOf34 rfl ?_
    refine l_store (j := 0) rfl rfl rfl rfl Try.sizeOf34 (us := [_]) rfl rfl rfl Tk (by first | rfl | exact (Nat.add_zero _).symm) (by first | decide | (simp; done) | omega) ?_
    simp only [setL, List.set]
    refine ag_nil ?_
    refine r_done ?_
    refine s_take (A := cells b11 0 [.int .i64 2, .int .i64 t, .int .i64 v]) Tk ?_
    refine s_heap (Γ' := cells b11 0 [.int .i64 kk, .int .i64 t, .int .i64 v] :: _) (fun _ h => (by rw [hkk, if_pos hw]; exact h)) ?_
    refine k_then_n ?_
    refine join_next (()) (by trivial) (by exact ⟨rfl, rfl, rfl, rfl, trivial⟩) (by (try simp only [List.cons_append, List.nil_append]); (repeat ((with_reducible apply Z2); focus (first | (with_reducible (repeat (first | exact Z0 | apply Z1)); done) | (repeat (first | exact Z0 | apply Z1))))); (repeat (first | exact Z3 | exact Takes.self | refine takes_drop2 ?_)))
   ·
    try simp only [Bool.and_eq_true, Bool.or_eq_true, Bool.not_eq_true', Bool.not_eq_false', Bool.and_eq_false_iff, Bool.or_eq_false_iff, decide_eq_true_eq, decide_eq_false_iff_not] at hw
    refine s_take (A := cells b11 0 [.int .i64 1, .int .i64 t, .int .i64 v]) Tk ?_
    refine s_heap (Γ' := cells b11 0 [.int .i64 kk, .int .i64 t, .int .i64 v] :: _) (fun _ h => (by rw [hkk, if_neg (by simpa using hw)]; exact h)) ?_
    refine c_skip ?_
    refine k_then_n ?_
    refine join_next (()) (by trivial) (by exact ⟨rfl, rfl, rfl, rfl, trivial⟩) (by (try simp only [List.cons_append, List.nil_append]); (repeat ((with_reducible apply Z2); focus (first | (with_reducible (repeat (first | exact Z0 | apply Z1)); done) | (repeat (first | exact Z0 | apply Z1))))); (repeat (first | exact Z3 | exact Takes.self | refine takes_drop2 ?_)))
  ·
   rintro _u -
   try simp only [List.cons_append, List.nil_append]
   refine c_seqJ (α := Option Addr × Nat) (fun (x_ : Option Addr × Nat) => match x_ with | (la, lc) => True) (fun (x_ : Option Addr × Nat) => match x_ with | (la, lc) => [(12, .slice la (m + 1) lc)]) (fun (x_ : Option Addr × Nat) => match x_ with | (la, lc) => [own 3 enc3 la lc (es ++ [(kk, t, v)])]) [1, 3, 5, 11] (er := [(1, _), (3, _), (5, _), (11, _)]) rfl [] Ts ?_ ?_
   ·
    refine c_draw rfl (.q 1 (.q 3 ((.alt (.l 0 [3] ((.alt (.l 2 [3] ((.l 4 [] ((.l 5 [] (.q 6 (.done))))))) (.l 4 [] ((.l 2 [] ((.l 5 [] (.q 6 (.done)))))))))) (.l 4 [] ((.l 0 [] ((.l 2 [] ((.l 5 [] (.q 6 (.done))))))))))))) (by kernel_rfl) ?_
    refine q_move rfl rfl rfl rfl ?_
    refine q_loadN_c rfl rfl rfl rfl Try.isAgg36 Try.sizeOf36 Tk 0 (us := [_, _, _]) (by first | rfl | exact (Nat.add_zero _).symm) rfl rfl ?_
    refine r_alt ?_ ?_
    ·
     refine l_buildSlice0 rfl rfl rfl rfl Try.underlying26 Try.sizeOf36 ?_
     intro b43
     refine ag_loadN_c rfl rfl (us := [_, _, _]) rfl Try.isAgg36 Try.sizeOf36 Tk 0 (by first | rfl | exact (Nat.add_zero _).symm) rfl rfl ?_
     refine ag_nil ?_
     refine r_alt ?_ ?_
     ·
      refine s_take (A := cells b43 0 []) Tk ?_
      refine s_heap (fun _ h => own_mk (sz := 3) (enc := enc3) (xs := []) (sp := []) (cap := 0) (Nat.le_refl _) rfl h) ?_
      refine l_append (sz := 3) (enc := enc3) (xs := []) rfl rfl rfl rfl rfl Try.underlying26 Try.typeInfo36 rfl rfl rfl (by decide) Tk Tk (by first | rfl | omega | (simp; done) | (simp; omega)) (ys := es) (he) (by rfl) (by first | rfl | omega) (enc3_len) (enc3_one) (by omega) (by show _ * 24 ≤ _; omega) ?_
      intro ao45 cp45
      try simp only [List.nil_append]
      refine ag_loadN_c rfl rfl (us := [_, _, _]) rfl Try.isAgg36 Try.sizeOf36 Tk 0 (by first | rfl | exact (Nat.add_zero _).symm) rfl rfl ?_
      refine ag_nil ?_
      refine l_buildSlice rfl rfl rfl rfl (run_build1 (us := [_, _, _]) Try.underlying26 Try.sizeOf36 rfl Try.zeroValue36 rfl rfl rfl) ?_
      intro b47
      refine ag_nil ?_
      refine l_append (sz := 3) (enc := enc3) (xs := (es)) rfl rfl rfl rfl rfl Try.underlying26 Try.typeInfo36 rfl rfl rfl (by decide) Tk Tk (by first | rfl | omega | (simp; done) | (simp; omega)) (ys := [(kk, t, v)]) (rds_some rdn_cells) (by rfl) (by first | rfl | omega) (enc3_len) (enc3_one) (by omega) (by show _ * 24 ≤ _; omega) ?_
      intro ao48 cp48
      refine ag_nil ?_
      refine q_assign rfl rfl rfl rfl ?_
      refine r_done ?_
      refine s_keep [1, 3, 5, 11, 12] (e' := [(1, _), (3, _), (5, _), (11, _), (12, _)]) rfl ?_
      refine k_then_n ?_
      refine s_eq 12 rfl (v' := .slice ao48 (m + 1) cp48) (by first | rfl | simp) ?_
      refine join_next ((ao48, cp48)) (by trivial) (by exact ⟨rfl, rfl, rfl, rfl, rfl, trivial⟩) (by (try simp only [List.cons_append, List.nil_append]); (repeat ((with_reducible apply Z2); focus (first | (with_reducible (repeat (first | exact Z0 | apply Z1)); done) | (repeat (first | exact Z0 | apply Z1))))); (repeat (first | exact Z3 | exact Takes.self | refine takes_drop2 ?_)))
     refine l_buildSlice rfl rfl rfl rfl (run_build1 (us := [_, _, _]) Try.underlying26 Try.sizeOf36 rfl Try.zeroValue36 rfl rfl rfl) ?_
     intro b47
     refine ag_nil ?_
     refine s_take (A := cells b43 0 []) Tk ?_
     refine s_heap (fun _ h => own_mk (sz := 3) (enc := enc3) (xs := []) (sp := []) (cap := 0) (Nat.le_refl _) rfl h) ?_
     refine l_append (sz := 3) (enc := enc3) (xs := []) rfl rfl rfl rfl rfl Try.underlying26 Try.typeInfo36 rfl rfl rfl (by decide) Tk Tk (by first | rfl | omega | (simp; done) | (simp; omega)) (ys := es) (he) (by rfl) (by first | rfl | omega) (enc3_len) (enc3_one) (by omega) (by show _ * 24 ≤ _; omega) ?_
     intro ao45 cp45
     try simp only [List.nil_append]
     refine ag_nil ?_
     refine l_append (sz := 3) (enc := enc3) (xs := (es)) rfl rfl rfl rfl rfl Try.underlying26 Try.typeInfo36 rfl rfl rfl (by decide) Tk Tk (by first | rfl | omega | (simp; done) | (simp; omega)) (ys := [(kk, t, v)]) (rds_some rdn_cells) (by rfl) (by first | rfl | omega) (enc3_len) (enc3_one) (by omega) (by show _ * 24 ≤ _; omega) ?_
     intro ao48 cp48
     refine ag_nil ?_
     refine q_assign rfl rfl rfl rfl ?_
     refine r_done ?_
     refine s_keep [1, 3, 5, 11, 12] (e' := [(1, _), (3, _), (5, _), (11, _), (12, _)]) rfl ?_
     refine k_then_n ?_
     refine s_eq 12 rfl (v' := .slice ao48 (m + 1) cp48) (by first | rfl | simp) ?_
     refine join_next ((ao48, cp48)) (by trivial) (by exact ⟨rfl, rfl, rfl, rfl, rfl, trivial⟩) (by (try simp only [List.cons_append, List.nil_append]); (repeat ((with_reducible apply Z2); focus (first | (with_reducible (repeat (first | exact Z0 | apply Z1)); done) | (repeat (first | exact Z0 | apply Z1))))); (repeat (first | exact Z3 | exact Takes.self | refine takes_drop2 ?_)))
    refine l_buildSlice rfl rfl rfl rfl (run_build1 (us := [_, _, _]) Try.underlying26 Try.sizeOf36 rfl Try.zeroValue36 rfl rfl rfl) ?_
    intro b47
    refine ag_nil ?_
    refine l_buildSlice0 rfl rfl rfl rfl Try.underlying26 Try.sizeOf36 ?_
    intro b43
    refine ag_nil ?_
    refine s_take (A := cells b43 0 []) Tk ?_
    refine s_heap (fun _ h => own_mk (sz := 3) (enc := enc3) (xs := []) (sp := []) (cap := 0) (Nat.le_refl _) rfl h) ?_
    refine l_append (sz := 3) (enc := enc3) (xs := []) rfl rfl rfl rfl rfl Try.underlying26 Try.typeInfo36 rfl rfl rfl (by decide) Tk Tk (by first | rfl | omega | (simp; done) | (simp; omega)) (ys := es) (he) (by rfl) (by first | rfl | omega) (enc3_len) (enc3_one) (by omega) (by show _ * 24 ≤ _; omega) ?_
    intro ao45 cp45
    try simp only [List.nil_append]
    refine ag_nil ?_
    refine l_append (sz := 3) (enc := enc3) (xs := (es)) rfl rfl rfl rfl rfl Try.underlying26 Try.typeInfo36 rfl rfl rfl (by decide) Tk Tk (by first | rfl | omega | (simp; done) | (simp; omega)) (ys := [(kk, t, v)]) (rds_some rdn_cells) (by rfl) (by first | rfl | omega) (enc3_len) (enc3_one) (by omega) (by show _ * 24 ≤ _; omega) ?_
    intro ao48 cp48
    refine ag_nil ?_
    refine q_assign rfl rfl rfl rfl ?_
    refine r_done ?_
    refine s_keep [1, 3, 5, 11, 12] (e' := [(1, _), (3, _), (5, _), (11, _), (12, _)]) rfl ?_
    refine k_then_n ?_
    refine s_eq 12 rfl (v' := .slice ao48 (m + 1) cp48) (by first | rfl | simp) ?_
    refine join_next ((ao48, cp48)) (by trivial) (by exact ⟨rfl, rfl, rfl, rfl, rfl, trivial⟩) (by (try simp only [List.cons_append, List.nil_append]); (repeat ((with_reducible apply Z2); focus (first | (with_reducible (repeat (first | exact Z0 | apply Z1)); done) | (repeat (first | exact Z0 | apply Z1))))); (repeat (first | exact Z3 | exact Takes.self | refine takes_drop2 ?_)))
   ·
    rintro ⟨la, lc⟩ -
    try simp only [List.cons_append, List.nil_append]
    refine c_seq ?_
    refine c_plain (.q 0 (.q 1 ((.l 2 [] (.q 3 (.q 4 (.q 5 (.q 6 (.q 7 (.done)))))))))) (by kernel_rfl) ?_
    refine q_loadN_c rfl rfl rfl rfl Try.isAgg25 Try.sizeOf25 Tk 0 (us := [_, _, _, _, _]) (by first | rfl | exact (Nat.add_zero _).symm) rfl rfl ?_
    refine q_move rfl rfl rfl rfl ?_
    refine s_take (A := own 3 enc3 la lc (es ++ [(kk, t, v)])) Tk ?_
    refine own_fc fun f_4a f_4b f_4c => ?_
    refine s_heap (fun _ h => Bun.fold ((by (repeat ((with_reducible apply Z2); focus (first | (with_reducible (repeat (first | exact Z0 | apply Z1)); done) | (repeat (first | exact Z0 | apply Z1))))); exact Z3 : Takes _ [A, own 3 enc3 la lc (es ++ [(kk, t, v)])] _) _ h)) ?_
    have sp_5 := onew_spec th va vo lk pl ao n c (Bun [A, own 3 enc3 la lc (es ++ [(kk, t, v)])]) (rds_bun (List.mem_cons_self) (hr)) (by first | rfl | assumption | omega | (simp; done) | (simp; omega)) (by omega) (es ++ [(kk, t, v)]) la (m + 1) lc (rds_bun (List.mem_cons_of_mem _ (List.mem_cons_self)) (rds_own enc3_len (fun h => (f_4b h).1) f_4c)) (by rw [List.length_append]; simp; omega) (by omega) hok (by rw [List.length_append]; simp; omega) hall
    refine l_call rfl rfl rfl rfl rfl rfl Try.call14 (sp_5) Ts ?_
    rintro ob -
    try simp only [List.cons_append, List.nil_append]
    refine s_take (A := Bun [A, own 3 enc3 la lc (es ++ [(kk, t, v)])]) Tk ?_
    refine s_bun ?_
    try simp only [List.cons_append, List.nil_append]
    try simp only [List.cons_append, List.nil_append]
    refine ag_nil ?_
    refine q_move rfl rfl rfl rfl ?_
    refine q_extract rfl rfl rfl rfl rfl ?_
    refine q_extract rfl rfl rfl rfl rfl ?_
    refine q_assign rfl rfl rfl rfl ?_
    refine q_assign rfl rfl rfl rfl ?_
    refine r_done ?_
    refine s_keep [1, 3, 5, 11, 13, 14] (e' := [(1, _), (3, _), (5, _), (11, _), (13, _), (14, _)]) rfl ?_
    refine k_then_n ?_
    refine c_seq ?_
    refine c_seq ?_
    refine c_plain (.q 0 (.q 1 (.done))) (by kernel_rfl) ?_
    refine q_move rfl rfl rfl rfl ?_
    refine q_int rfl rfl rfl rfl rfl (b_neq _ _ _ _) ?_
    refine s_eq 56 rfl (v' := .bool false) (by first | rfl | simp) ?_
    refine r_done ?_
    refine k_then_n ?_
    refine c_cond_f rfl ?_
    refine c_skip ?_
    refine k_then_n ?_
    refine c_seq ?_
    refine c_plain (.q 0 ((.l 1 [] (.q 2 (.q 3 (.q 4 (.q 5 (.q 6 (.done))))))))) (by kernel_rfl) ?_
    refine q_loadN_c rfl rfl rfl rfl Try.isAgg25 Try.sizeOf25 Tk 0 (us := [_, _, _, _, _]) (by first | rfl | exact (Nat.add_zero _).symm) rfl rfl ?_
    have sp_6 := Hi.new_spec th va vo lk pl ao n c A (hr) (by first | rfl | assumption | omega | (simp; done) | (simp; omega)) (by omega) hok
    refine l_call rfl rfl rfl rfl rfl rfl Try.call9 (sp_6) Ts ?_
    rintro ⟨d, ⟨dpa, dpc⟩, dpo, dpoc⟩ -
    try simp only [List.cons_append, List.nil_append]
    refine ag_nil ?_
    refine q_move rfl rfl rfl rfl ?_
    refine q_extract rfl rfl rfl rfl rfl ?_
    refine q_extract rfl rfl rfl rfl rfl ?_
    refine q_assign rfl rfl rfl rfl ?_
    refine q_assign rfl rfl rfl rfl ?_
    refine r_done ?_
    refine s_keep [1, 3, 11, 13, 15, 16] (e' := [(1, _), (3, _), (11, _), (13, _), (15, _), (16, _)]) rfl ?_
    refine k_then_n ?_
    refine c_seq ?_
    refine c_plain (.q 0 (.q 1 ((.l 2 [] (.q 3 (.q 4 (.q 5 (.q 6 (.q 7 (.done)))))))))) (by kernel_rfl) ?_
    refine q_move rfl rfl rfl rfl ?_
    refine q_move rfl rfl rfl rfl ?_
    have sp_7 := Hi.events_spec dpa dpc dpo dpoc d (hNew th va vo lk pl) (new_sinv hok) (by show (0 : Int) ≤ _; decide) pl rfl es eo m ec A (he) (by first | rfl | assumption | omega | (simp; done) | (simp; omega)) (by omega)
    refine l_call rfl rfl rfl rfl rfl rfl Try.call15 (sp_7) Ts ?_
    rintro ki ⟨hki1, hki2, hki3⟩
    try simp only [List.cons_append, List.nil_append]
    refine ag_nil ?_
    have hae := all_front hall
    have hik : m = ki := by
      rcases Nat.lt_or_ge ki m with h | h
      · obtain ⟨e, he_⟩ := get_lt (l := es) (i := ki) (by omega)
        exact absurd (l_can hok (by omega) hae he_) (hki3 h e he_)
      · omega
    subst hik
    rw [if_pos rfl, show es.take m = es from List.take_of_length_le (by omega)]
    have hL := l_end hok (by omega) hae
    obtain ⟨Y, hY⟩ : ∃ Y, Y = hAll (hNew th va vo lk pl) es := ⟨_, rfl⟩
    rw [← hY] at hL ⊢
    have hYi : SInv Y := by rw [hY]; exact hAll_inv (new_sinv hok) es
    have hYp : Y.v.ck.pa = pl := by rw [hY]; exact (hAll_n es (hNew th va vo lk pl)).2.1
    have hYn : Y.v.ck.n = (m : Int) := by rw [hL.cn, hm]
    have hcv : vcanF Y.v kk t v := by
      obtain ⟨hb, hck, hn_, -⟩ := h_all hok (by rw [List.length_append]; simp; omega) hall m (by rw [List.length_append]; simp; omega)
      have h1 := hall m (kk, t, v) (by rw [List.length_append]; simp; omega) (by rw [List.getElem?_append_right (by omega), hm, Nat.sub_self]; rfl)
      have h2 := (b_can hb (by rw [hck]; omega)).2 (by rw [hck]; exact h1)
      rw [hL.v, hm, ← vN_app (fs := [(kk, t, v)]) (show m ≤ es.length by omega)]; exact h2
    have hkp : kk = 1 ∨ kk = 2 := by rw [hkk]; cases wr <;> simp
    obtain ⟨G, hG⟩ : ∃ G, G = agF Y kk t v := ⟨_, rfl⟩
    have hrise : G.Pairwise (· < ·) := by rw [hG]; exact ag_rise hYi hL kk t v
    have hrace : ∀ z ∈ G, 0 ≤ z ∧ z < m ∧ raceB (es ++ [(kk, t, v)]) (rf (rnds (newF th va vo lk pl) (es ++ [(kk, t, v)]))) z.toNat m = true := fun z hz => by
      have h := ag_race hok (f := (kk, t, v)) hkp (by omega) hall (z := z) (by rw [← hY, ← hG]; exact hz)
      rw [hm] at h; exact h
    have hGl : G.length ≤ 2 * Y.keys.length := by rw [hG]; exact agF_len Y kk t v
    have hkn := hYi.kn
    refine q_move rfl rfl rfl rfl ?_
    refine q_extract rfl rfl rfl rfl rfl ?_
    refine q_extract rfl rfl rfl rfl rfl ?_
    refine q_assign rfl rfl rfl rfl ?_
    refine q_assign rfl rfl rfl rfl ?_
    refine r_done ?_
    refine s_keep [1, 3, 11, 13, 15, 16, 17, 18] (e' := [(1, _), (3, _), (11, _), (13, _), (15, _), (16, _), (17, _), (18, _)]) rfl ?_
    refine k_then_n ?_
    refine c_seq ?_
    refine c_plain (.q 0 (.q 1 ((.l 2 [] (.q 3 (.q 4 (.q 5 (.q 6 (.q 7 (.done)))))))))) (by kernel_rfl) ?_
    refine q_move rfl rfl rfl rfl ?_
    refine q_loadN_c rfl rfl rfl rfl Try.isAgg36 Try.sizeOf36 Tk 0 (us := [_, _, _]) (by first | rfl | exact (Nat.add_zero _).symm) rfl rfl ?_
    have sp_8 := Hi.againstq_spec dpa dpc dpo dpoc d Y hYi (by omega) kk t v
    refine l_call rfl rfl rfl rfl rfl rfl Try.call13 (sp_8) Ts ?_
    rintro ⟨gaa, gac⟩ -
    try simp only [List.cons_append, List.nil_append]
    refine ag_nil ?_
    rw [if_pos hcv.1, if_pos hcv.1, ← hG]
    refine q_move rfl rfl rfl rfl ?_
    refine q_extract rfl rfl rfl rfl rfl ?_
    refine q_extract rfl rfl rfl rfl rfl ?_
    refine q_assign rfl rfl rfl rfl ?_
    refine q_assign rfl rfl rfl rfl ?_
    refine r_done ?_
    refine s_keep [1, 3, 11, 13, 15, 16, 17, 18, 19, 20] (e' := [(1, _), (3, _), (11, _), (13, _), (15, _), (16, _), (17, _), (18, _), (19, _), (20, _)]) rfl ?_
    refine k_then_n ?_
    refine c_seq ?_
    refine c_plain (.q 0 (.q 1 ((.l 2 [] (.q 3 (.q 4 (.q 5 (.q 6 (.q 7 (.done)))))))))) (by kernel_rfl) ?_
    refine q_move rfl rfl rfl rfl ?_
    refine q_loadN_c rfl rfl rfl rfl Try.isAgg36 Try.sizeOf36 Tk 0 (us := [_, _, _]) (by first | rfl | exact (Nat.add_zero _).symm) rfl rfl ?_
    have sp_9 := Hi.againstq_spec dpa dpc dpo dpoc d Y hYi (by omega) kk t v
    refine l_call rfl rfl rfl rfl rfl rfl Try.call13 (sp_9) Ts ?_
    rintro ⟨gba, gbc⟩ -
    try simp only [List.cons_append, List.nil_append]
    refine ag_nil ?_
    rw [if_pos hcv.1, if_pos hcv.1, ← hG]
    refine q_move rfl rfl rfl rfl ?_
    refine q_extract rfl rfl rfl rfl rfl ?_
    refine q_extract rfl rfl rfl rfl rfl ?_
    refine q_assign rfl rfl rfl rfl ?_
    refine q_assign rfl rfl rfl rfl ?_
    refine r_done ?_
    refine s_keep [1, 3, 11, 13, 15, 16, 17, 18, 19, 20, 21, 22] (e' := [(1, _), (3, _), (11, _), (13, _), (15, _), (16, _), (17, _), (18, _), (19, _), (20, _), (21, _), (22, _)]) rfl ?_
    refine k_then_n ?_
    refine c_seq ?_
    refine c_seq ?_
    refine c_plain (.q 0 ((.l 1 [] (.q 2 (.q 3 (.q 4 ((.l 5 [] (.q 6 (.q 7 (.q 8 (.q 9 ((.l 10 [] (.q 11 (.q 12 (.q 13 (.q 14 ((.l 15 [] (.q 16 (.q 17 (.q 18 (.q 19 (.q 20 (.q 21 (.q 22 (.q 23 (.q 24 (.q 25 (.q 26 ((.l 27 [] (.q 28 (.q 29 (.q 30 (.q 31 ((.l 32 [] (.q 33 (.q 34 (.q 35 (.done))))))))))))))))))))))))))))))))))))))))))) (by kernel_rfl) ?_
    refine q_move rfl rfl rfl rfl ?_
    have sp_10 := num_spec 0
    refine l_call rfl rfl rfl rfl rfl rfl Try.call10 (sp_10) Ts ?_
    rintro ⟨⟩ -
    try simp only [List.cons_append, List.nil_append]
    refine ag_nil ?_
    refine q_int rfl rfl rfl rfl rfl (b_neq _ _ _ _) ?_
    refine s_eq 82 rfl (v' := .bool false) (by first | rfl | simp) ?_
    refine q_move rfl rfl rfl rfl ?_
    refine q_move rfl rfl rfl rfl ?_
    have sp_11 := num_spec 0
    refine l_call rfl rfl rfl rfl rfl rfl Try.call10 (sp_11) Ts ?_
    rintro ⟨⟩ -
    try simp only [List.cons_append, List.nil_append]
    refine ag_nil ?_
    refine q_int rfl rfl rfl rfl rfl (b_neq _ _ _ _) ?_
    refine s_eq 86 rfl (v' := .bool false) (by first | rfl | simp) ?_
    refine q_pick_f rfl rfl rfl rfl rfl ?_
    refine q_move rfl rfl rfl rfl ?_
    refine q_move rfl rfl rfl rfl ?_
    have sp_12 := num_spec 0
    refine l_call rfl rfl rfl rfl rfl rfl Try.call10 (sp_12) Ts ?_
    rintro ⟨⟩ -
    try simp only [List.cons_append, List.nil_append]
    refine ag_nil ?_
    refine q_int rfl rfl rfl rfl rfl (b_neq _ _ _ _) ?_
    refine s_eq 91 rfl (v' := .bool false) (by first | rfl | simp) ?_
    refine q_pick_f rfl rfl rfl rfl rfl ?_
    refine q_move rfl rfl rfl rfl ?_
    refine q_move rfl rfl rfl rfl ?_
    have sp_13 := num_spec 0
    refine l_call rfl rfl rfl rfl rfl rfl Try.call10 (sp_13) Ts ?_
    rintro ⟨⟩ -
    try simp only [List.cons_append, List.nil_append]
    refine ag_nil ?_
    refine q_int rfl rfl rfl rfl rfl (b_neq _ _ _ _) ?_
    refine s_eq 96 rfl (v' := .bool false) (by first | rfl | simp) ?_
    refine q_pick_f rfl rfl rfl rfl rfl ?_
    refine q_move rfl rfl rfl rfl ?_
    refine q_move rfl rfl rfl rfl ?_
    refine q_move rfl rfl rfl rfl ?_
    refine q_len rfl rfl rfl rfl Try.underlying26 ?_
    refine q_int rfl rfl rfl rfl rfl (b_neq _ _ _ _) ?_
    refine q_pick_f rfl rfl rfl rfl rfl ?_
    refine q_move rfl rfl rfl rfl ?_
    refine s_bool_p 104 rfl (fun hg => by exfalso; omega) (fun hg => ?_)
    refine q_move rfl rfl rfl rfl ?_
    refine q_move rfl rfl rfl rfl ?_
    refine s_take (A := own 1 encZ gaa gac G) Tk ?_
    refine own_fc fun f_14a f_14b f_14c => ?_
    refine s_take (A := own 1 encZ gba gbc G) Tk ?_
    refine own_fc fun f_15a f_15b f_15c => ?_
    refine s_heap (fun _ h => Bun.fold ((by (repeat ((with_reducible apply Z2); focus (first | (with_reducible (repeat (first | exact Z0 | apply Z1)); done) | (repeat (first | exact Z0 | apply Z1))))); exact Z3 : Takes _ [own 1 encZ gaa gac G, own 1 encZ gba gbc G] _) _ h)) ?_
    have sp_16 := ints_same G G gaa gba G.length G.length gac gbc (Bun [own 1 encZ gaa gac G, own 1 encZ gba gbc G]) (by rfl) (rds_bun (List.mem_cons_self) (rds_own encZ_len (fun h => (f_14b h).1) f_14c)) (by rfl) (rds_bun (List.mem_cons_of_mem _ (List.mem_cons_self)) (rds_own encZ_len (fun h => (f_15b h).1) f_15c)) (by omega)
    refine l_call rfl rfl rfl rfl rfl rfl Try.call16 (sp_16) Ts ?_
    rintro ⟨⟩ -
    try simp only [List.cons_append, List.nil_append]
    refine s_take (A := Bun [own 1 encZ gaa gac G, own 1 encZ gba gbc G]) Tk ?_
    refine s_bun ?_
    try simp only [List.cons_append, List.nil_append]
    try simp only [List.cons_append, List.nil_append]
    refine ag_nil ?_
    refine s_eq 107 rfl (v' := .bool true) (by first | rfl | simp) ?_
    refine q_not rfl rfl rfl rfl ?_
    refine s_eq 108 rfl (v' := .bool false) rfl ?_
    refine q_pick_f rfl rfl rfl rfl rfl ?_
    refine q_move rfl rfl rfl rfl ?_
    refine q_move rfl rfl rfl rfl ?_
    have sp_17 := Hi.len_spec dpa dpc dpo dpoc d Y hYi
    refine l_call rfl rfl rfl rfl rfl rfl Try.call17 (sp_17) Ts ?_
    rintro ⟨⟩ -
    try simp only [List.cons_append, List.nil_append]
    refine ag_nil ?_
    refine q_move rfl rfl rfl rfl ?_
    refine q_int rfl rfl rfl rfl rfl (b_neq _ _ _ _) ?_
    refine q_pick_f rfl rfl rfl rfl rfl ?_
    refine r_done ?_
    refine s_keep [1, 3, 11, 13, 15, 17, 19, 115] (e' := [(1, _), (3, _), (11, _), (13, _), (15, _), (17, _), (19, _), (115, _)]) rfl ?_
    refine k_then_n ?_
    refine c_cond_p rfl (fun hg => by exfalso; omega) (fun hg => ?_)
    refine c_skip ?_
    refine k_then_n ?_
    refine c_seq ?_
    refine c_seq ?_
    refine c_plain (.q 0 (.done)) (by kernel_rfl) ?_
    refine q_assign rfl rfl rfl rfl ?_
    refine r_done ?_
    refine k_then_n ?_
    refine c_block ?_
    refine c_loop2 (α := Nat) (fun (p : Nat) => p ≤ G.length) (fun (p : Nat) => [(23, .int .i64 ((p : Nat) : Int))]) (fun (p : Nat) => [ordR ob (es ++ [(kk, t, v)]) (rnds (newF th va vo lk pl) (es ++ [(kk, t, v)]))]) (fun (p : Nat) => G.length - p) [1, 3, 11, 13, 15, 17, 19] (er := [(1, _), (3, _), (11, _), (13, _), (15, _), (17, _), (19, _)]) rfl (0) ?_ (by exact ⟨rfl, trivial⟩) (by (try dsimp only); (try simp only [Nat.add_zero, Nat.zero_add]); (repeat ((with_reducible apply Z2); focus (first | (with_reducible (repeat (first | exact Z0 | apply Z1)); done) | (repeat (first | exact Z0 | apply Z1))))); exact Z3) ?_
    · exact Nat.zero_le _
    rintro p hle_p
    try simp only [List.cons_append, List.nil_append]
    refine c_seq ?_
    refine c_seq ?_
    refine c_plain (.q 0 (.q 1 (.q 2 (.q 3 (.done))))) (by kernel_rfl) ?_
    refine q_move rfl rfl rfl rfl ?_
    refine q_move rfl rfl rfl rfl ?_
    refine q_len rfl rfl rfl rfl Try.underlying23 ?_
    refine q_int rfl rfl rfl rfl rfl (b_lss _ _ _ _) ?_
    refine r_done ?_
    refine k_then_n ?_
    refine c_cond_p rfl (fun hlt => ?_) (fun hlt => ?_)
    ·
     obtain ⟨z, hz_⟩ := get_lt (l := G) (i := p) (by omega)
     obtain ⟨hz0, hz1, hz2⟩ := hrace z (List.mem_of_getElem? hz_)
     obtain ⟨zn, rfl⟩ := Int.eq_ofNat_of_zero_le hz0
     rw [Int.toNat_natCast] at hz2
     obtain ⟨xz, hxz⟩ := get_lt (l := (es ++ [(kk, t, v)])) (i := zn) (by rw [List.length_append]; simp; omega)
     refine c_skip ?_
     refine k_then_n ?_
     refine c_seq ?_
     refine c_block ?_
     refine c_seq ?_
     refine c_draw rfl (.q 0 (.q 1 (.q 2 (.q 3 (.q 4 (.q 5 (.q 6 (.q 7 (.q 8 (.q 9 (.q 10 (.q 11 (.q 12 (.q 13 (.q 14 (.q 15 (.q 16 (.q 17 (.q 18 (.q 19 (.q 20 (.q 21 (.q 22 (.q 23 (.q 24 (.q 25 (.q 26 (.q 27 (.q 28 (.q 29 (.q 30 (.q 31 (.q 32 (.q 33 (.q 34 (.q 35 ((.l 36 [] (.q 37 (.q 38 (.done))))))))))))))))))))))))))))))))))))))))) (by kernel_rfl) ?_
     refine q_move rfl rfl rfl rfl ?_
     refine q_move rfl rfl rfl rfl ?_
     refine q_idxO (sz := 0) (k := p) (enc := encZ) (xs := G) rfl rfl rfl rfl rfl Try.underlying23 Try.sizeOf3 hz_ (by first | rfl | omega) (by omega) Tk ?_
     intro ib124 io124 ha124 hl124 hc124
     refine q_load_O (v := (.int .i64 ((zn : Nat) : Int))) (j := 0) (k' := p) (enc := encZ) (off := io124) rfl rfl rfl rfl Try.isAgg3 ha124 encZ_len hz_ Tk (by first | rfl | exact (Nat.add_zero _).symm | omega) (by rfl) ?_
     refine q_int rfl rfl rfl rfl rfl (b_lss _ _ _ _) ?_
     refine q_move rfl rfl rfl rfl ?_
     refine s_bool_p 127 rfl (fun hg => by exfalso; omega) (fun hg => ?_)
     refine q_move rfl rfl rfl rfl ?_
     refine q_move rfl rfl rfl rfl ?_
     refine q_idxO (sz := 0) (k := p) (enc := encZ) (xs := G) rfl rfl rfl rfl rfl Try.underlying23 Try.sizeOf3 hz_ (by first | rfl | omega) (by omega) Tk ?_
     intro ib130 io130 ha130 hl130 hc130
     refine q_load_O (v := (.int .i64 ((zn : Nat) : Int))) (j := 0) (k' := p) (enc := encZ) (off := io130) rfl rfl rfl rfl Try.isAgg3 ha130 encZ_len hz_ Tk (by first | rfl | exact (Nat.add_zero _).symm | omega) (by rfl) ?_
     refine q_move rfl rfl rfl rfl ?_
     refine q_int rfl rfl rfl rfl rfl (b_geq _ _ _ _) ?_
     refine q_pick_f rfl rfl rfl rfl rfl ?_
     refine q_move rfl rfl rfl rfl ?_
     refine s_bool_p 135 rfl (fun hg => by exfalso; omega) (fun hg => ?_)
     refine q_move rfl rfl rfl rfl ?_
     refine q_int rfl rfl rfl rfl rfl (b_gtr _ _ _ _) ?_
     refine q_move rfl rfl rfl rfl ?_
     refine s_bool_p 138 rfl (fun hp => ?_) (fun hp => ?_)
     ·
      obtain ⟨z0, hz00⟩ := get_lt (l := G) (i := p - 1) (by omega)
      have hlt0 := pw_at hrise (by omega) hz00 hz_
      refine q_move rfl rfl rfl rfl ?_
      refine q_move rfl rfl rfl rfl ?_
      refine q_idxO (sz := 0) (k := p) (enc := encZ) (xs := G) rfl rfl rfl rfl rfl Try.underlying23 Try.sizeOf3 hz_ (by first | rfl | omega) (by omega) Tk ?_
      intro ib141 io141 ha141 hl141 hc141
      refine q_load_O (v := (.int .i64 ((zn : Nat) : Int))) (j := 0) (k' := p) (enc := encZ) (off := io141) rfl rfl rfl rfl Try.isAgg3 ha141 encZ_len hz_ Tk (by first | rfl | exact (Nat.add_zero _).symm | omega) (by rfl) ?_
      refine q_move rfl rfl rfl rfl ?_
      refine q_move rfl rfl rfl rfl ?_
      refine q_int rfl rfl rfl rfl rfl (b_sub' _ (by exact fits_i64 (by omega) (by omega))) ?_
      refine q_idxO (sz := 0) (k := (p - 1)) (enc := encZ) (xs := G) rfl rfl rfl rfl rfl Try.underlying23 Try.sizeOf3 hz00 (by first | rfl | omega) (by omega) Tk ?_
      intro ib146 io146 ha146 hl146 hc146
      refine q_load_O (v := (.int .i64 z0)) (j := 0) (k' := (p - 1)) (enc := encZ) (off := io146) rfl rfl rfl rfl Try.isAgg3 ha146 encZ_len hz00 Tk (by first | rfl | exact (Nat.add_zero _).symm | omega) (by rfl) ?_
      refine q_int rfl rfl rfl rfl rfl (b_leq _ _ _ _) ?_
      refine q_pick_t rfl rfl rfl rfl rfl ?_
      refine q_pick_f rfl rfl rfl rfl rfl ?_
      refine q_move rfl rfl rfl rfl ?_
      refine s_bool_p 151 rfl (fun hg => by exfalso; omega) (fun hg => ?_)
      refine q_move rfl rfl rfl rfl ?_
      refine q_move rfl rfl rfl rfl ?_
      refine q_move rfl rfl rfl rfl ?_
      refine q_idxO (sz := 0) (k := p) (enc := encZ) (xs := G) rfl rfl rfl rfl rfl Try.underlying23 Try.sizeOf3 hz_ (by first | rfl | omega) (by omega) Tk ?_
      intro ib155 io155 ha155 hl155 hc155
      refine q_load_O (v := (.int .i64 ((zn : Nat) : Int))) (j := 0) (k' := p) (enc := encZ) (off := io155) rfl rfl rfl rfl Try.isAgg3 ha155 encZ_len hz_ Tk (by first | rfl | exact (Nat.add_zero _).symm | omega) (by rfl) ?_
      refine q_move rfl rfl rfl rfl ?_
      have sp_18 := orace_spec ob (es ++ [(kk, t, v)]) (rnds (newF th va vo lk pl) (es ++ [(kk, t, v)])) (by rw [List.length_append]; simp; omega) zn m (by omega) (by rw [List.length_append]; simp; omega) xz (kk, t, v) hxz (by rw [List.getElem?_append_right (by omega), hm, Nat.sub_self]; rfl)
      refine l_call rfl rfl rfl rfl rfl rfl Try.call18 (sp_18) Ts ?_
      rintro ⟨⟩ -
      try simp only [List.cons_append, List.nil_append]
      refine ag_nil ?_
      refine q_not rfl rfl rfl rfl ?_
      refine q_pick_f rfl rfl rfl rfl rfl ?_
      refine r_done ?_
      refine s_keep [1, 3, 11, 13, 15, 17, 19, 23, 128, 129, 130, 131, 132, 133, 136, 137, 138, 139, 140, 141, 142, 143, 144, 145, 146, 147, 148, 149, 152, 153, 154, 155, 156, 157, 158, 159, 160] (e' := [(1, _), (3, _), (11, _), (13, _), (15, _), (17, _), (19, _), (23, _), (128, _), (129, _), (130, _), (131, _), (132, _), (133, _), (136, _), (137, _), (138, _), (139, _), (140, _), (141, _), (142, _), (143, _), (144, _), (145, _), (146, _), (147, _), (148, _), (149, _), (152, _), (153, _), (154, _), (155, _), (156, _), (157, _), (158, _), (159, _), (160, _)]) rfl ?_
      refine k_then_n ?_
      refine c_cond rfl (fun hg => by exfalso; rw [hz2] at hg; simp at hg) (fun hg => ?_)
      try simp only [Bool.and_eq_true, Bool.or_eq_true, Bool.not_eq_true', Bool.not_eq_false', Bool.and_eq_false_iff, Bool.or_eq_false_iff, decide_eq_true_eq, decide_eq_false_iff_not] at hg
      refine c_skip ?_
      refine k_blk_n ?_
      refine k_then_n ?_
      refine c_plain (.q 0 (.q 1 (.q 2 (.done)))) (by kernel_rfl) ?_
      refine q_move rfl rfl rfl rfl ?_
      refine q_int rfl rfl rfl rfl rfl (b_add' _ (by exact fits_i64 (by omega) (by omega))) ?_
      refine q_assign rfl rfl rfl rfl ?_
      refine r_done ?_
      refine k_then_n ?_
      refine loop_next (x := p) (p + 1) ?_ ?_ ?_ ?_
      · exact by show p + 1 ≤ G.length; omega
      · show G.length - (p + 1) < G.length - p; omega
      · exact ⟨rfl, rfl, rfl, rfl, rfl, rfl, rfl, rfl, trivial⟩
      · (try simp only [List.cons_append, List.nil_append]); exact Tf
     ·
      refine q_skip rfl rfl rfl rfl ?_
      refine q_skip rfl rfl rfl rfl ?_
      refine q_skip rfl rfl rfl rfl ?_
      refine q_skip rfl rfl rfl rfl ?_
      refine q_skip rfl rfl rfl rfl ?_
      refine q_skip rfl rfl rfl rfl ?_
      refine q_skip rfl rfl rfl rfl ?_
      refine q_skip rfl rfl rfl rfl ?_
      refine q_skip rfl rfl rfl rfl ?_
      refine q_skip rfl rfl rfl rfl ?_
      refine q_pick_f rfl rfl rfl rfl rfl ?_
      refine q_pick_f rfl rfl rfl rfl rfl ?_
      refine q_move rfl rfl rfl rfl ?_
      refine q_move rfl rfl rfl rfl ?_
      refine q_move rfl rfl rfl rfl ?_
      refine q_move rfl rfl rfl rfl ?_
      refine q_idxO (sz := 0) (k := p) (enc := encZ) (xs := G) rfl rfl rfl rfl rfl Try.underlying23 Try.sizeOf3 hz_ (by first | rfl | omega) (by omega) Tk ?_
      intro ib155 io155 ha155 hl155 hc155
      refine q_load_O (v := (.int .i64 ((zn : Nat) : Int))) (j := 0) (k' := p) (enc := encZ) (off := io155) rfl rfl rfl rfl Try.isAgg3 ha155 encZ_len hz_ Tk (by first | rfl | exact (Nat.add_zero _).symm | omega) (by rfl) ?_
      refine q_move rfl rfl rfl rfl ?_
      have sp_19 := orace_spec ob (es ++ [(kk, t, v)]) (rnds (newF th va vo lk pl) (es ++ [(kk, t, v)])) (by rw [List.length_append]; simp; omega) zn m (by omega) (by rw [List.length_append]; simp; omega) xz (kk, t, v) hxz (by rw [List.getElem?_append_right (by omega), hm, Nat.sub_self]; rfl)
      refine l_call rfl rfl rfl rfl rfl rfl Try.call18 (sp_19) Ts ?_
      rintro ⟨⟩ -
      try simp only [List.cons_append, List.nil_append]
      refine ag_nil ?_
      refine q_not rfl rfl rfl rfl ?_
      refine q_pick_f rfl rfl rfl rfl rfl ?_
      refine r_done ?_
      refine s_keep [1, 3, 11, 13, 15, 17, 19, 23, 128, 129, 130, 131, 132, 133, 136, 137, 138, 139, 140, 141, 142, 143, 144, 145, 146, 147, 148, 149, 152, 153, 154, 155, 156, 157, 158, 159, 160] (e' := [(1, _), (3, _), (11, _), (13, _), (15, _), (17, _), (19, _), (23, _), (128, _), (129, _), (130, _), (131, _), (132, _), (133, _), (136, _), (137, _), (138, _), (139, _), (140, _), (141, _), (142, _), (143, _), (144, _), (145, _), (146, _), (147, _), (148, _), (149, _), (152, _), (153, _), (154, _), (155, _), (156, _), (157, _), (158, _), (159, _), (160, _)]) rfl ?_
      refine k_then_n ?_
      refine c_cond rfl (fun hg => by exfalso; rw [hz2] at hg; simp at hg) (fun hg => ?_)
      try simp only [Bool.and_eq_true, Bool.or_eq_true, Bool.not_eq_true', Bool.not_eq_false', Bool.and_eq_false_iff, Bool.or_eq_false_iff, decide_eq_true_eq, decide_eq_false_iff_not] at hg
      refine c_skip ?_
      refine k_blk_n ?_
      refine k_then_n ?_
      refine c_plain (.q 0 (.q 1 (.q 2 (.done)))) (by kernel_rfl) ?_
      refine q_move rfl rfl rfl rfl ?_
      refine q_int rfl rfl rfl rfl rfl (b_add' _ (by exact fits_i64 (by omega) (by omega))) ?_
      refine q_assign rfl rfl rfl rfl ?_
      refine r_done ?_
      refine k_then_n ?_
      refine loop_next (x := p) (p + 1) ?_ ?_ ?_ ?_
      · exact by show p + 1 ≤ G.length; omega
      · show G.length - (p + 1) < G.length - p; omega
      · exact ⟨rfl, rfl, rfl, rfl, rfl, rfl, rfl, rfl, trivial⟩
      · (try simp only [List.cons_append, List.nil_append]); exact Tf
    ·
     refine c_exit ?_
     refine k_then_exit ?_
     refine k_then_exit ?_
     refine k_blk_here ?_
     refine k_then_n ?_
     refine c_seq ?_
     refine c_seq ?_
     refine c_plain (.q 0 (.done)) (by kernel_rfl) ?_
     refine q_assign rfl rfl rfl rfl ?_
     refine r_done ?_
     refine s_keep [1, 3, 11, 13, 15, 17, 19, 24] (e' := [(1, _), (3, _), (11, _), (13, _), (15, _), (17, _), (19, _), (24, _)]) rfl ?_
     refine k_then_n ?_
     refine c_block ?_
     refine c_loop2 (α := Nat) (fun (p : Nat) => p ≤ m) (fun (p : Nat) => [(24, .int .i64 ((p : Nat) : Int))]) (fun (p : Nat) => [ordR ob (es ++ [(kk, t, v)]) (rnds (newF th va vo lk pl) (es ++ [(kk, t, v)]))]) (fun (p : Nat) => m - p) [1, 3, 11, 13, 15, 17, 19] (er := [(1, _), (3, _), (11, _), (13, _), (15, _), (17, _), (19, _)]) rfl (0) ?_ (by exact ⟨rfl, trivial⟩) (by (try dsimp only); (try simp only [Nat.add_zero, Nat.zero_add]); (repeat ((with_reducible apply Z2); focus (first | (with_reducible (repeat (first | exact Z0 | apply Z1)); done) | (repeat (first | exact Z0 | apply Z1))))); exact Z3) ?_
     · exact Nat.zero_le _
     rintro p hle_p
     try simp only [List.cons_append, List.nil_append]
     refine c_seq ?_
     refine c_seq ?_
     refine c_plain (.q 0 (.q 1 (.q 2 (.done)))) (by kernel_rfl) ?_
     refine q_move rfl rfl rfl rfl ?_
     refine q_move rfl rfl rfl rfl ?_
     refine q_int rfl rfl rfl rfl rfl (b_lss _ _ _ _) ?_
     refine r_done ?_
     refine k_then_n ?_
     refine c_cond_p rfl (fun hlt => ?_) (fun hlt => ?_)
     ·
      obtain ⟨e2, he2⟩ := get_lt (l := es) (i := p) (by omega)
      have he3 : (es ++ [(kk, t, v)])[p]? = some e2 := by rw [List.getElem?_append_left (by omega)]; exact he2
      refine c_skip ?_
      refine k_then_n ?_
      refine c_seq ?_
      refine c_block ?_
      refine c_seq ?_
      refine c_plain (.q 0 (.q 1 (.q 2 ((.l 3 [] (.q 4 (.q 5 (.q 6 (.q 7 (.q 8 (.q 9 (.q 10 ((.l 11 [] ((.l 12 [] (.q 13 (.q 14 (.done))))))))))))))))))) (by kernel_rfl) ?_
      refine q_move rfl rfl rfl rfl ?_
      refine q_move rfl rfl rfl rfl ?_
      refine q_move rfl rfl rfl rfl ?_
      have sp_20 := orace_spec ob (es ++ [(kk, t, v)]) (rnds (newF th va vo lk pl) (es ++ [(kk, t, v)])) (by rw [List.length_append]; simp; omega) p m (by omega) (by rw [List.length_append]; simp; omega) e2 (kk, t, v) he3 (by rw [List.getElem?_append_right (by omega), hm, Nat.sub_self]; rfl)
      refine l_call rfl rfl rfl rfl rfl rfl Try.call18 (sp_20) Ts ?_
      rintro ⟨⟩ -
      try simp only [List.cons_append, List.nil_append]
      refine ag_nil ?_
      refine q_move rfl rfl rfl rfl ?_
      refine s_bool 170 rfl (fun hra => ?_) (fun hra => ?_)
      ·
       try simp only [Bool.and_eq_true, Bool.or_eq_true, Bool.not_eq_true', Bool.not_eq_false', Bool.and_eq_false_iff, Bool.or_eq_false_iff, decide_eq_true_eq, decide_eq_false_iff_not] at hra
       have hmem := race_ag hok (f := (kk, t, v)) hkp (by omega) hall he2 (by rw [hm]; exact hra)
       rw [← hY, ← hG, hm] at hmem
       refine q_move rfl rfl rfl rfl ?_
       refine q_move rfl rfl rfl rfl ?_
       refine q_move rfl rfl rfl rfl ?_
       refine q_move rfl rfl rfl rfl ?_
       refine q_idxR (sz := 2) (k := p) rfl rfl rfl rfl rfl Try.underlying26 Try.sizeOf36 (he) he2 enc3_len (by first | rfl | omega) (by omega) ?_
       intro ib175 io175 _ hd175
       refine q_loadN (vs := [_, _, _]) rfl rfl rfl rfl Try.isAgg36 Try.sizeOf36 Tk (hd175) rfl ?_
       have sp_21 := last_of es eo m ec A (he) (by first | rfl | assumption | omega | (simp; done) | (simp; omega)) (by omega) e2
       refine l_call rfl rfl rfl rfl rfl rfl Try.call20 (sp_21) Ts ?_
       rintro ⟨⟩ -
       try simp only [List.cons_append, List.nil_append]
       refine ag_nil ?_
       refine s_take (A := own 1 encZ gaa gac G) Tk ?_
       refine own_fc fun f_22a f_22b f_22c => ?_
       have sp_23 := has_spec G gaa G.length gac (own 1 encZ gaa gac G) (rds_own encZ_len (fun h => (f_22b h).1) f_22c) (by first | rfl | assumption | omega | (simp; done) | (simp; omega)) (by omega) (lastF es e2 m)
       refine l_call rfl rfl rfl rfl rfl rfl Try.call19 (sp_23) Ts ?_
       rintro ⟨⟩ -
       try simp only [List.cons_append, List.nil_append]
       refine ag_nil ?_
       refine q_not rfl rfl rfl rfl ?_
       refine q_pick_t rfl rfl rfl rfl rfl ?_
       refine r_done ?_
       refine s_keep [1, 3, 11, 13, 15, 17, 19, 24, 171, 172, 173, 174, 175, 176, 177, 178, 179, 180] (e' := [(1, _), (3, _), (11, _), (13, _), (15, _), (17, _), (19, _), (24, _), (171, _), (172, _), (173, _), (174, _), (175, _), (176, _), (177, _), (178, _), (179, _), (180, _)]) rfl ?_
       refine k_then_n ?_
       refine c_cond_np rfl (fun hg => by exfalso; first | exact hg hmem | (simp [hmem] at hg)) (fun hg => ?_)
       refine c_skip ?_
       refine k_blk_n ?_
       refine k_then_n ?_
       refine c_plain (.q 0 (.q 1 (.q 2 (.done)))) (by kernel_rfl) ?_
       refine q_move rfl rfl rfl rfl ?_
       refine q_int rfl rfl rfl rfl rfl (b_add' _ (by exact fits_i64 (by omega) (by omega))) ?_
       refine q_assign rfl rfl rfl rfl ?_
       refine r_done ?_
       refine k_then_n ?_
       refine loop_next (x := p) (p + 1) ?_ ?_ ?_ ?_
       · exact by show p + 1 ≤ m; omega
       · show m - (p + 1) < m - p; omega
       · exact ⟨rfl, rfl, rfl, rfl, rfl, rfl, rfl, rfl, trivial⟩
       · (try simp only [List.cons_append, List.nil_append]); exact Tf
      ·
       try simp only [Bool.and_eq_true, Bool.or_eq_true, Bool.not_eq_true', Bool.not_eq_false', Bool.and_eq_false_iff, Bool.or_eq_false_iff, decide_eq_true_eq, decide_eq_false_iff_not] at hra
       refine q_skip rfl rfl rfl rfl ?_
       refine q_skip rfl rfl rfl rfl ?_
       refine q_skip rfl rfl rfl rfl ?_
       refine q_skip rfl rfl rfl rfl ?_
       refine q_skip rfl rfl rfl rfl ?_
       refine q_skip rfl rfl rfl rfl ?_
       refine l_skip rfl rfl rfl rfl ?_
       refine l_skip rfl rfl rfl rfl ?_
       refine q_skip rfl rfl rfl rfl ?_
       refine q_pick_f rfl rfl rfl rfl rfl ?_
       refine r_done ?_
       refine s_keep [1, 3, 11, 13, 15, 17, 19, 24, 171, 172, 173, 174, 175, 176, 177, 178, 179, 180] (e' := [(1, _), (3, _), (11, _), (13, _), (15, _), (17, _), (19, _), (24, _), (171, _), (172, _), (173, _), (174, _), (175, _), (176, _), (177, _), (178, _), (179, _), (180, _)]) rfl ?_
       refine k_then_n ?_
       refine c_cond_f rfl ?_
       refine c_skip ?_
       refine k_blk_n ?_
       refine k_then_n ?_
       refine c_plain (.q 0 (.q 1 (.q 2 (.done)))) (by kernel_rfl) ?_
       refine q_move rfl rfl rfl rfl ?_
       refine q_int rfl rfl rfl rfl rfl (b_add' _ (by exact fits_i64 (by omega) (by omega))) ?_
       refine q_assign rfl rfl rfl rfl ?_
       refine r_done ?_
       refine k_then_n ?_
       refine loop_next (x := p) (p + 1) ?_ ?_ ?_ ?_
       · exact by show p + 1 ≤ m; omega
       · show m - (p + 1) < m - p; omega
       · exact ⟨rfl, rfl, rfl, rfl, rfl, rfl, rfl, rfl, trivial⟩
       · (try simp only [List.cons_append, List.nil_append]); exact Tf
     ·
      refine c_exit ?_
      refine k_then_exit ?_
      refine k_then_exit ?_
      refine k_blk_here ?_
      refine k_then_n ?_
      refine c_seq ?_
      refine c_plain (.q 0 (.q 1 ((.l 2 [] (.q 3 (.q 4 (.q 5 ((.l 6 [] ((.l 7 [] (.q 8 (.done))))))))))))) (by kernel_rfl) ?_
      refine q_move rfl rfl rfl rfl ?_
      refine q_move rfl rfl rfl rfl ?_
      have sp_24 := Hi.pair_spec dpa dpc dpo dpoc d Y hYi v
      refine l_call rfl rfl rfl rfl rfl rfl Try.call21 (sp_24) Ts ?_
      rintro ⟨⟩ -
      try simp only [List.cons_append, List.nil_append]
      refine ag_nil ?_
      refine q_move rfl rfl rfl rfl ?_
      refine q_extract rfl rfl rfl rfl rfl ?_
      refine q_extract rfl rfl rfl rfl rfl ?_
      refine l_alloc rfl rfl rfl Try.zeroValue56 (zs := [.int .i64 0, .int .i64 0, .int .i64 0]) rfl ?_
      intro b25
      refine ag_nil ?_
      refine l_store (j := 0) rfl rfl rfl rfl Try.sizeOf56 (us := [_, _, _]) rfl rfl rfl Tk (by first | rfl | exact (Nat.add_zero _).symm) (by first | decide | (simp; done) | omega) ?_
      simp only [setL, List.set]
      refine ag_nil ?_
      refine q_assign rfl rfl rfl rfl ?_
      refine r_done ?_
      refine s_keep [3, 11, 15, 17, 19, 25, 26] (e' := [(3, _), (11, _), (15, _), (17, _), (19, _), (25, _), (26, _)]) rfl ?_
      refine k_then_n ?_
      refine c_seq ?_
      refine c_seq ?_
      refine c_plain (.q 0 (.q 1 ((.l 2 [] ((.l 3 [] (.q 4 (.done)))))))) (by kernel_rfl) ?_
      refine q_move rfl rfl rfl rfl ?_
      refine q_loadN_c rfl rfl rfl rfl Try.isAgg36 Try.sizeOf36 Tk 0 (us := [_, _, _]) (by first | rfl | exact (Nat.add_zero _).symm) rfl rfl ?_
      have sp_25 := Hi.event_spec dpa dpc dpo dpoc d Y hYi (by omega) pl hYp kk t v
      refine l_call rfl rfl rfl rfl rfl rfl Try.call11 (sp_25) Ts ?_
      rintro ⟨⟩ -
      try simp only [List.cons_append, List.nil_append]
      refine ag_nil ?_
      refine s_eq 189 rfl (v' := .int .i64 0) (by rw [heE, if_pos hcv]) ?_
      have sp_26 := num_spec 0
      refine l_call rfl rfl rfl rfl rfl rfl Try.call10 (sp_26) Ts ?_
      rintro ⟨⟩ -
      try simp only [List.cons_append, List.nil_append]
      refine ag_nil ?_
      refine q_int rfl rfl rfl rfl rfl (b_neq _ _ _ _) ?_
      refine s_eq 191 rfl (v' := .bool false) (by first | rfl | simp) ?_
      refine r_done ?_
      refine s_keep [3, 15, 17, 19, 25, 26, 191] (e' := [(3, _), (15, _), (17, _), (19, _), (25, _), (26, _), (191, _)]) rfl ?_
      refine k_then_n ?_
      refine c_cond_f rfl ?_
      refine c_skip ?_
      refine k_then_n ?_
      refine c_seq ?_
      refine c_plain (.q 0 (.q 1 ((.l 2 [] (.q 3 (.q 4 (.q 5 ((.l 6 [] ((.l 7 [] (.q 8 (.done))))))))))))) (by kernel_rfl) ?_
      refine q_move rfl rfl rfl rfl ?_
      refine q_move rfl rfl rfl rfl ?_
      have sp_27 := Hi.pair_spec dpa dpc dpo dpoc d (heF Y kk t v) (he_inv hYi kk t v) v
      refine l_call rfl rfl rfl rfl rfl rfl Try.call21 (sp_27) Ts ?_
      rintro ⟨⟩ -
      try simp only [List.cons_append, List.nil_append]
      refine ag_nil ?_
      refine q_move rfl rfl rfl rfl ?_
      refine q_extract rfl rfl rfl rfl rfl ?_
      refine q_extract rfl rfl rfl rfl rfl ?_
      refine l_alloc rfl rfl rfl Try.zeroValue56 (zs := [.int .i64 0, .int .i64 0, .int .i64 0]) rfl ?_
      intro b27
      refine ag_nil ?_
      refine l_store (j := 0) rfl rfl rfl rfl Try.sizeOf56 (us := [_, _, _]) rfl rfl rfl Tk (by first | rfl | exact (Nat.add_zero _).symm) (by first | decide | (simp; done) | omega) ?_
      simp only [setL, List.set]
      refine ag_nil ?_
      refine q_assign rfl rfl rfl rfl ?_
      refine r_done ?_
      refine s_keep [3, 17, 19, 25, 26, 27, 28] (e' := [(3, _), (17, _), (19, _), (25, _), (26, _), (27, _), (28, _)]) rfl ?_
      refine k_then_n ?_
      refine c_seq ?_
      refine c_seq ?_
      have hW := wH_next (x := Y) hYi hcv hkp
      rw [← hG, hYn] at hW
      obtain ⟨n1, n2, n3⟩ := ntV_facts (n := (m : Int)) (k := kk) (t := t) (o := v) (l := G) (w := wH Y v)
      rw [← hW] at n1 n2 n3
      refine c_plain (.q 0 (.done)) (by kernel_rfl) ?_
      refine q_move rfl rfl rfl rfl ?_
      refine r_done ?_
      refine k_then_n ?_
      refine c_cond rfl (fun hra2 => ?_) (fun hra2 => ?_)
      ·
       try simp only [Bool.and_eq_true, Bool.or_eq_true, Bool.not_eq_true', Bool.not_eq_false', Bool.and_eq_false_iff, Bool.or_eq_false_iff, decide_eq_true_eq, decide_eq_false_iff_not] at hra2
       refine c_seq ?_
       refine c_plain (.q 0 (.q 1 (.q 2 (.q 3 (.q 4 (.q 5 (.q 6 (.done)))))))) (by kernel_rfl) ?_
       refine q_move rfl rfl rfl rfl ?_
       refine s_eq 199 rfl (v' := .bool true) (by rw [(n1 hra2).2]) ?_
       refine q_move rfl rfl rfl rfl ?_
       refine q_loadN_c rfl rfl rfl rfl Try.isAgg56 Try.sizeOf56 Tk 0 (us := [_, _, _]) (by first | rfl | exact (Nat.add_zero _).symm) rfl rfl ?_
       refine q_loadN_c rfl rfl rfl rfl Try.isAgg56 Try.sizeOf56 Tk 0 (us := [_, _, _]) (by first | rfl | exact (Nat.add_zero _).symm) rfl rfl ?_
       refine q_eqS rfl rfl rfl rfl rfl (by kernel_rfl) (eqc_struct Try.underlying56 (by kernel_rfl) (eqf_cons rfl Try.isAgg3 rfl rfl (eqc_int Try.underlying3) (eqf_cons rfl Try.isAgg3 rfl rfl (eqc_int Try.underlying3) (eqf_last rfl Try.isAgg3 rfl rfl (eqc_int Try.underlying3))))) ?_
       refine s_eq 203 rfl (v' := .bool true) (by first | rw [decide_eq_true (n1 hra2).1] | simp [(n1 hra2).1]) ?_
       refine q_pick_t rfl rfl rfl rfl rfl ?_
       refine q_assign rfl rfl rfl rfl ?_
       refine r_done ?_
       refine s_keep [10] (e' := [(10, _)]) rfl ?_
       refine k_then_n ?_
       refine c_ret ?_
       refine k_then_ret ?_
       refine ret1 rfl rfl (()) (by first | rfl | (first | rfl | (congr 1; done) | (congr 1 <;> first | rfl | omega | (simp; done) | (simp; omega)))) (by trivial) ?_
       exact Tf
      ·
       try simp only [Bool.and_eq_true, Bool.or_eq_true, Bool.not_eq_true', Bool.not_eq_false', Bool.and_eq_false_iff, Bool.or_eq_false_iff, decide_eq_true_eq, decide_eq_false_iff_not] at hra2
       refine c_skip ?_
       refine k_then_n ?_
       refine c_seq ?_
       refine c_draw rfl (.q 0 (.q 1 (.q 2 (.q 3 (.q 4 (.q 5 (.q 6 (.q 7 (.q 8 (.q 9 (.q 10 (.q 11 (.q 12 (.q 13 (.q 14 (.q 15 (.q 16 (.q 17 (.q 18 (.q 19 (.q 20 (.q 21 (.q 22 (.done)))))))))))))))))))))))) (by kernel_rfl) ?_
       have hra3 : (wH Y v).2.2.1 = false := by simpa using hra2
       rcases (show G.length = 0 ∨ 0 < G.length by omega) with hgl | hgl
       ·
        refine q_move rfl rfl rfl rfl ?_
        refine s_eq 205 rfl (v' := .bool false) (by rw [n2 hra3 hgl]) ?_
        refine q_move rfl rfl rfl rfl ?_
        refine q_len rfl rfl rfl rfl Try.underlying23 ?_
        refine q_int rfl rfl rfl rfl rfl (b_gtr _ _ _ _) ?_
        refine s_eq 208 rfl (v' := .bool false) (by simp [hgl]) ?_
        refine q_eqb rfl rfl rfl rfl rfl Try.underlying4 ?_
        refine s_eq 209 rfl (v' := .bool true) rfl ?_
        refine q_move rfl rfl rfl rfl ?_
        refine q_move rfl rfl rfl rfl ?_
        refine s_eq 211 rfl (v' := .bool false) (by rw [n2 hra3 hgl]) ?_
        refine q_not rfl rfl rfl rfl ?_
        refine s_eq 212 rfl (v' := .bool true) rfl ?_
        refine q_move rfl rfl rfl rfl ?_
        refine q_skip rfl rfl rfl rfl ?_
        refine q_skip rfl rfl rfl rfl ?_
        refine q_skip rfl rfl rfl rfl ?_
        refine q_skip rfl rfl rfl rfl ?_
        refine q_skip rfl rfl rfl rfl ?_
        refine q_skip rfl rfl rfl rfl ?_
        refine q_skip rfl rfl rfl rfl ?_
        refine q_skip rfl rfl rfl rfl ?_
        refine q_skip rfl rfl rfl rfl ?_
        refine q_skip rfl rfl rfl rfl ?_
        refine q_skip rfl rfl rfl rfl ?_
        refine q_pick_t rfl rfl rfl rfl rfl ?_
        refine q_pick_t rfl rfl rfl rfl rfl ?_
        refine q_assign rfl rfl rfl rfl ?_
        refine r_done ?_
        refine s_keep [10] (e' := [(10, _)]) rfl ?_
        refine k_then_n ?_
        refine c_ret ?_
        refine ret1 rfl rfl (()) (by first | rfl | (first | rfl | (congr 1; done) | (congr 1 <;> first | rfl | omega | (simp; done) | (simp; omega)))) (by trivial) ?_
        exact Tf
       ·
        obtain ⟨z, hz9⟩ := get_lt (l := G) (i := G.length - 1) (by omega)
        refine q_move rfl rfl rfl rfl ?_
        refine s_eq 205 rfl (v' := .bool true) (by rw [(n3 hra3 z hz9).1]) ?_
        refine q_move rfl rfl rfl rfl ?_
        refine q_len rfl rfl rfl rfl Try.underlying23 ?_
        refine q_int rfl rfl rfl rfl rfl (b_gtr _ _ _ _) ?_
        refine s_eq 208 rfl (v' := .bool true) (by simp; omega) ?_
        refine q_eqb rfl rfl rfl rfl rfl Try.underlying4 ?_
        refine s_eq 209 rfl (v' := .bool true) rfl ?_
        refine q_move rfl rfl rfl rfl ?_
        refine q_move rfl rfl rfl rfl ?_
        refine s_eq 211 rfl (v' := .bool true) (by rw [(n3 hra3 z hz9).1]) ?_
        refine q_not rfl rfl rfl rfl ?_
        refine s_eq 212 rfl (v' := .bool false) rfl ?_
        refine q_move rfl rfl rfl rfl ?_
        refine q_loadN_c rfl rfl rfl rfl Try.isAgg56 Try.sizeOf56 Tk 0 (us := [_, _, _]) (by first | rfl | exact (Nat.add_zero _).symm) rfl rfl ?_
        refine q_move rfl rfl rfl rfl ?_
        refine q_move rfl rfl rfl rfl ?_
        refine q_move rfl rfl rfl rfl ?_
        refine q_len rfl rfl rfl rfl Try.underlying23 ?_
        refine q_int rfl rfl rfl rfl rfl (b_sub' _ (by exact fits_i64 (by omega) (by omega))) ?_
        refine q_idxO (sz := 0) (k := (G.length - 1)) (enc := encZ) (xs := G) rfl rfl rfl rfl rfl Try.underlying23 Try.sizeOf3 hz9 (by first | rfl | omega) (by omega) Tk ?_
        intro ib220 io220 ha220 hl220 hc220
        refine q_load_O (v := (.int .i64 z)) (j := 0) (k' := (G.length - 1)) (enc := encZ) (off := io220) rfl rfl rfl rfl Try.isAgg3 ha220 encZ_len hz9 Tk (by first | rfl | exact (Nat.add_zero _).symm | omega) (by rfl) ?_
        refine q_move rfl rfl rfl rfl ?_
        refine q_build rfl rfl rfl rfl (vs := [_, _, _]) (run_buildS Try.underlying56 Try.zeroValue56 (ps := [(0, 1), (1, 1), (2, 1)]) ⟨rfl, Try.sizeOf3, rfl, Try.sizeOf3, rfl, Try.sizeOf3, trivial⟩ rfl) ?_
        refine q_eqS rfl rfl rfl rfl rfl (by kernel_rfl) (eqc_struct Try.underlying56 (by kernel_rfl) (eqf_cons rfl Try.isAgg3 rfl rfl (eqc_int Try.underlying3) (eqf_cons rfl Try.isAgg3 rfl rfl (eqc_int Try.underlying3) (eqf_last rfl Try.isAgg3 rfl rfl (eqc_int Try.underlying3))))) ?_
        refine s_eq 224 rfl (v' := .bool true) (by first | rw [decide_eq_true (n3 hra3 z hz9).2] | simp [(n3 hra3 z hz9).2]) ?_
        refine q_pick_f rfl rfl rfl rfl rfl ?_
        refine q_pick_t rfl rfl rfl rfl rfl ?_
        refine q_assign rfl rfl rfl rfl ?_
        refine r_done ?_
        refine s_keep [10] (e' := [(10, _)]) rfl ?_
        refine k_then_n ?_
        refine c_ret ?_
        refine ret1 rfl rfl (()) (by first | rfl | (first | rfl | (congr 1; done) | (congr 1 <;> first | rfl | omega | (simp; done) | (simp; omega)))) (by trivial) ?_
        exact Tf
theorem againstlaw_bad1 (th va vo lk : Int) (pl : List Int) (ao : Option Addr) (n c : Nat) (A : HProp) (hr : RdS A ao (pl.flatMap encZ)) (hn : pl.length = n) (hb : n ≤ 4000000) (es : List T3) (eo : Option Addr) (m ec : Nat) (he : RdS A eo (es.flatMap enc3)) (hm : es.length = m) (hmb : m ≤ 4000000) (t v : Int) (wr : Bool) (kk : Int) (hkk : kk = if wr = true then 2 else 1) (hok : OkS th va vo lk pl) (hbad : ¬ allC (newF th va vo lk pl) (es ++ [(kk, t, v)]) (es ++ [(kk, t, v)]).length) : Spec Try.prog 5 [.agg #[.int .i64 th, .int .i64 va, .int .i64 vo, .int .i64 lk, .slice ao n c], .slice eo m ec, .int .i64 t, .int .i64 v, .bool wr] [A] (fun (_ : Unit) => .bool true) (fun _ => True) (fun _ => [A]) := by
 refine spec_mk (n := 227) Try.func5 rfl rfl rfl ?_
 intro Γ w0
 simp only [argE, List.cons_append, List.nil_append, Nat.zero_add, Nat.reduceAdd]
 refine c_seq ?_
 refine c_plain ((.l 0 [] (.q 1 (.done)))) (by kernel_rfl) ?_
 refine l_box rfl rfl rfl rfl (us := [_, _, _, _, _]) rfl ?_
 intro b5
 refine ag_nil ?_
 refine q_assign rfl rfl rfl rfl ?_
 refine r_done ?_
 refine k_then_n ?_
 refine c_seq ?_
 refine c_seq ?_
 refine c_plain ((.l 0 [] (.q 1 (.q 2 (.q 3 (.q 4 ((.l 5 [] (.q 6 (.q 7 (.done))))))))))) (by kernel_rfl) ?_
 have sp_1 := works_spec
 refine l_call rfl rfl rfl rfl rfl rfl Try.call7 (sp_1) Ts ?_
 rintro ⟨⟩ -
 try simp only [List.cons_append, List.nil_append]
 refine ag_nil ?_
 refine q_not rfl rfl rfl rfl ?_
 refine s_eq 30 rfl (v' := .bool false) rfl ?_
 refine q_move rfl rfl rfl rfl ?_
 refine q_loadN_c rfl rfl rfl rfl Try.isAgg25 Try.sizeOf25 Tk 0 (us := [_, _, _, _, _]) (by first | rfl | exact (Nat.add_zero _).symm) rfl rfl ?_
 refine q_move rfl rfl rfl rfl ?_
 have sp_2 := small_spec th va vo lk ao n c eo m ec
 refine l_call rfl rfl rfl rfl rfl rfl Try.call8 (sp_2) Ts ?_
 rintro ⟨⟩ -
 try simp only [List.cons_append, List.nil_append]
 refine ag_nil ?_
 refine q_not rfl rfl rfl rfl ?_
 refine q_pick_f rfl rfl rfl rfl rfl ?_
 refine r_done ?_
 refine s_keep [1, 2, 3, 4, 5, 36] (e' := [(1, _), (2, _), (3, _), (4, _), (5, _), (36, _)]) rfl ?_
 refine k_then_n ?_
 refine c_cond_np rfl (fun hsm => ?_) (fun hsm => ?_)
 ·
  refine c_seq ?_
  refine c_plain ((.l 0 [] (.q 1 (.done)))) (by kernel_rfl) ?_
  have sp_3 := works_spec
  refine l_call rfl rfl rfl rfl rfl rfl Try.call7 (sp_3) Ts ?_
  rintro ⟨⟩ -
  try simp only [List.cons_append, List.nil_append]
  refine ag_nil ?_
  refine q_assign rfl rfl rfl rfl ?_
  refine r_done ?_
  refine s_keep [10] (e' := [(10, _)]) rfl ?_
  refine k_then_n ?_
  refine c_ret ?_
  refine k_then_ret ?_
  refine ret1 rfl rfl (()) (by first | rfl | (first | rfl | (congr 1; done) | (congr 1 <;> first | rfl | omega | (simp; done) | (simp; omega)))) (by trivial) ?_
  exact Tf
 ·
  refine c_skip ?_
  refine k_then_n ?_
  refine c_seq ?_
  refine c_plain (.q 0 (.q 1 (.q 2 ((.l 3 [] ((.l 4 [] (.done)))))))) (by kernel_rfl) ?_
  refine q_move rfl rfl rfl rfl ?_
  refine q_move rfl rfl rfl rfl ?_
  refine q_build rfl rfl rfl rfl (vs := [_, _, _]) (run_buildS Try.underlying36 Try.zeroValue36 (ps := [(0, 1), (1, 1), (2, 1)]) ⟨rfl, Try.sizeOf34, rfl, Try.sizeOf3, rfl, Try.sizeOf3, trivial⟩ rfl) ?_
  refine l_alloc rfl rfl rfl Try.zeroValue36 (zs := [.int .i64 0, .int .i64 0, .int .i64 0]) rfl ?_
  intro b11
  refine ag_nil ?_
  refine l_store (j := 0) rfl rfl rfl rfl Try.sizeOf36 (us := [_, _, _]) rfl rfl rfl Tk (by first | rfl | exact (Nat.add_zero _).symm) (by first | decide | (simp; done) | omega) ?_
  simp only [setL, List.set]
  refine ag_nil ?_
  refine r_done ?_
  refine s_keep [1, 3, 4, 5, 11] (e' := [(1, _), (3, _), (4, _), (5, _), (11, _)]) rfl ?_
  refine k_then_n ?_
  refine c_seqJ (α := Unit) (fun (_u : Unit) => True) (fun (_u : Unit) => []) (fun (_u : Unit) => [cells b11 0 [.int .i64 kk, .int .i64 t, .int .i64 v]]) [1, 3, 5, 11] (er := [(1, _), (3, _), (5, _), (11, _)]) rfl [cells b11 0 [.int .i64 1, .int .i64 t, .int .i64 v]] Ts ?_ ?_
  ·
   refine c_seq ?_
   refine c_plain (.q 0 (.done)) (by kernel_rfl) ?_
   refine q_move rfl rfl rfl rfl ?_
   refine r_done ?_
   refine k_then_n ?_
   refine c_cond rfl (fun hw => ?_) (fun hw => ?_)
   ·
    try simp only [Bool.and_eq_true, Bool.or_eq_true, Bool.not_eq_true', Bool.not_eq_false', Bool.and_eq_false_iff, Bool.or_eq_false_iff, decide_eq_true_eq, decide_eq_false_iff_not] at hw
    refine c_plain (.q 0 ((.l 1 [] (.done)))) (by kernel_rfl) ?_
    refine q_field (k := 0) rfl rfl rfl rfl Try.underlying36 rfl Try.sizeOf34 rfl ?_
    refine l_store (j := 0) rfl rfl rfl rfl Try.sizeOf34 (us := [_]) rfl rfl rfl Tk (by first | rfl | exact (Nat.add_zero _).symm) (by first | decide | (simp; done) | omega) ?_
    simp only [setL, List.set]
    refine ag_nil ?_
    refine r_done ?_
    refine s_take (A := cells b11 0 [.int .i64 2, .int .i64 t, .int .i64 v]) Tk ?_
    refine s_heap (Γ' := cells b11 0 [.int .i64 kk, .int .i64 t, .int .i64 v] :: _) (fun _ h => (by rw [hkk, if_pos hw]; exact h)) ?_
    refine k_then_n ?_
    refine join_next (()) (by trivial) (by exact ⟨rfl, rfl, rfl, rfl, trivial⟩) (by (try simp only [List.cons_append, List.nil_append]); (repeat ((with_reducible apply Z2); focus (first | (with_reducible (repeat (first | exact Z0 | apply Z1)); done) | (repeat (first | exact Z0 | apply Z1))))); (repeat (first | exact Z3 | exact Takes.self | refine takes_drop2 ?_)))
   ·
    try simp only [Bool.and_eq_true, Bool.or_eq_true, Bool.not_eq_true', Bool.not_eq_false', Bool.and_eq_false_iff, Bool.or_eq_false_iff, decide_eq_true_eq, decide_eq_false_iff_not] at hw
    refine s_take (A := cells b11 0 [.int .i64 1, .int .i64 t, .int .i64 v]) Tk ?_
    refine s_heap (Γ' := cells b11 0 [.int .i64 kk, .int .i64 t, .int .i64 v] :: _) (fun _ h => (by rw [hkk, if_neg (by simpa using hw)]; exact h)) ?_
    refine c_skip ?_
    refine k_then_n ?_
    refine join_next (()) (by trivial) (by exact ⟨rfl, rfl, rfl, rfl, trivial⟩) (by (try simp only [List.cons_append, List.nil_append]); (repeat ((with_reducible apply Z2); focus (first | (with_reducible (repeat (first | exact Z0 | apply Z1)); done) | (repeat (first | exact Z0 | apply Z1))))); (repeat (first | exact Z3 | exact Takes.self | refine takes_drop2 ?_)))
  ·
   rintro _u -
   try simp only [List.cons_append, List.nil_append]
   refine c_seqJ (α := Option Addr × Nat) (fun (x_ : Option Addr × Nat) => match x_ with | (la, lc) => True) (fun (x_ : Option Addr × Nat) => match x_ with | (la, lc) => [(12, .slice la (m + 1) lc)]) (fun (x_ : Option Addr × Nat) => match x_ with | (la, lc) => [own 3 enc3 la lc (es ++ [(kk, t, v)])]) [1, 3, 5, 11] (er := [(1, _), (3, _), (5, _), (11, _)]) rfl [] Ts ?_ ?_
   ·
    refine c_draw rfl (.q 1 (.q 3 ((.alt (.l 0 [3] ((.alt (.l 2 [3] ((.l 4 [] ((.l 5 [] (.q 6 (.done))))))) (.l 4 [] ((.l 2 [] ((.l 5 [] (.q 6 (.done)))))))))) (.l 4 [] ((.l 0 [] ((.l 2 [] ((.l 5 [] (.q 6 (.done))))))))))))) (by kernel_rfl) ?_
    refine q_move rfl rfl rfl rfl ?_
    refine q_loadN_c rfl rfl rfl rfl Try.isAgg36 Try.sizeOf36 Tk 0 (us := [_, _, _]) (by first | rfl | exact (Nat.add_zero _).symm) rfl rfl ?_
    refine r_alt ?_ ?_
    ·
     refine l_buildSlice0 rfl rfl rfl rfl Try.underlying26 Try.sizeOf36 ?_
     intro b43
     refine ag_loadN_c rfl rfl (us := [_, _, _]) rfl Try.isAgg36 Try.sizeOf36 Tk 0 (by first | rfl | exact (Nat.add_zero _).symm) rfl rfl ?_
     refine ag_nil ?_
     refine r_alt ?_ ?_
     ·
      refine s_take (A := cells b43 0 []) Tk ?_
      refine s_heap (fun _ h => own_mk (sz := 3) (enc := enc3) (xs := []) (sp := []) (cap := 0) (Nat.le_refl _) rfl h) ?_
      refine l_append (sz := 3) (enc := enc3) (xs := []) rfl rfl rfl rfl rfl Try.underlying26 Try.typeInfo36 rfl rfl rfl (by decide) Tk Tk (by first | rfl | omega | (simp; done) | (simp; omega)) (ys := es) (he) (by rfl) (by first | rfl | omega) (enc3_len) (enc3_one) (by omega) (by show _ * 24 ≤ _; omega) ?_
      intro ao45 cp45
      try simp only [List.nil_append]
      refine ag_loadN_c rfl rfl (us := [_, _, _]) rfl Try.isAgg36 Try.sizeOf36 Tk 0 (by first | rfl | exact (Nat.add_zero _).symm) rfl rfl ?_
      refine ag_nil ?_
      refine l_buildSlice rfl rfl rfl rfl (run_build1 (us := [_, _, _]) Try.underlying26 Try.sizeOf36 rfl Try.zeroValue36 rfl rfl rfl) ?_
      intro b47
      refine ag_nil ?_
      refine l_append (sz := 3) (enc := enc3) (xs := (es)) rfl rfl rfl rfl rfl Try.underlying26 Try.typeInfo36 rfl rfl rfl (by decide) Tk Tk (by first | rfl | omega | (simp; done) | (simp; omega)) (ys := [(kk, t, v)]) (rds_some rdn_cells) (by rfl) (by first | rfl | omega) (enc3_len) (enc3_one) (by omega) (by show _ * 24 ≤ _; omega) ?_
      intro ao48 cp48
      refine ag_nil ?_
      refine q_assign rfl rfl rfl rfl ?_
      refine r_done ?_
      refine s_keep [1, 3, 5, 11, 12] (e' := [(1, _), (3, _), (5, _), (11, _), (12, _)]) rfl ?_
      refine k_then_n ?_
      refine s_eq 12 rfl (v' := .slice ao48 (m + 1) cp48) (by first | rfl | simp) ?_
      refine join_next ((ao48, cp48)) (by trivial) (by exact ⟨rfl, rfl, rfl, rfl, rfl, trivial⟩) (by (try simp only [List.cons_append, List.nil_append]); (repeat ((with_reducible apply Z2); focus (first | (with_reducible (repeat (first | exact Z0 | apply Z1)); done) | (repeat (first | exact Z0 | apply Z1))))); (repeat (first | exact Z3 | exact Takes.self | refine takes_drop2 ?_)))
     refine l_buildSlice rfl rfl rfl rfl (run_build1 (us := [_, _, _]) Try.underlying26 Try.sizeOf36 rfl Try.zeroValue36 rfl rfl rfl) ?_
     intro b47
     refine ag_nil ?_
     refine s_take (A := cells b43 0 []) Tk ?_
     refine s_heap (fun _ h => own_mk (sz := 3) (enc := enc3) (xs := []) (sp := []) (cap := 0) (Nat.le_refl _) rfl h) ?_
     refine l_append (sz := 3) (enc := enc3) (xs := []) rfl rfl rfl rfl rfl Try.underlying26 Try.typeInfo36 rfl rfl rfl (by decide) Tk Tk (by first | rfl | omega | (simp; done) | (simp; omega)) (ys := es) (he) (by rfl) (by first | rfl | omega) (enc3_len) (enc3_one) (by omega) (by show _ * 24 ≤ _; omega) ?_
     intro ao45 cp45
     try simp only [List.nil_append]
     refine ag_nil ?_
     refine l_append (sz := 3) (enc := enc3) (xs := (es)) rfl rfl rfl rfl rfl Try.underlying26 Try.typeInfo36 rfl rfl rfl (by decide) Tk Tk (by first | rfl | omega | (simp; done) | (simp; omega)) (ys := [(kk, t, v)]) (rds_some rdn_cells) (by rfl) (by first | rfl | omega) (enc3_len) (enc3_one) (by omega) (by show _ * 24 ≤ _; omega) ?_
     intro ao48 cp48
     refine ag_nil ?_
     refine q_assign rfl rfl rfl rfl ?_
     refine r_done ?_
     refine s_keep [1, 3, 5, 11, 12] (e' := [(1, _), (3, _), (5, _), (11, _), (12, _)]) rfl ?_
     refine k_then_n ?_
     refine s_eq 12 rfl (v' := .slice ao48 (m + 1) cp48) (by first | rfl | simp) ?_
     refine join_next ((ao48, cp48)) (by trivial) (by exact ⟨rfl, rfl, rfl, rfl, rfl, trivial⟩) (by (try simp only [List.cons_append, List.nil_append]); (repeat ((with_reducible apply Z2); focus (first | (with_reducible (repeat (first | exact Z0 | apply Z1)); done) | (repeat (first | exact Z0 | apply Z1))))); (repeat (first | exact Z3 | exact Takes.self | refine takes_drop2 ?_)))
    refine l_buildSlice rfl rfl rfl rfl (run_build1 (us := [_, _, _]) Try.underlying26 Try.sizeOf36 rfl Try.zeroValue36 rfl rfl rfl) ?_
    intro b47
    refine ag_nil ?_
    refine l_buildSlice0 rfl rfl rfl rfl Try.underlying26 Try.sizeOf36 ?_
    intro b43
    refine ag_nil ?_
    refine s_take (A := cells b43 0 []) Tk ?_
    refine s_heap (fun _ h => own_mk (sz := 3) (enc := enc3) (xs := []) (sp := []) (cap := 0) (Nat.le_refl _) rfl h) ?_
    refine l_append (sz := 3) (enc := enc3) (xs := []) rfl rfl rfl rfl rfl Try.underlying26 Try.typeInfo36 rfl rfl rfl (by decide) Tk Tk (by first | rfl | omega | (simp; done) | (simp; omega)) (ys := es) (he) (by rfl) (by first | rfl | omega) (enc3_len) (enc3_one) (by omega) (by show _ * 24 ≤ _; omega) ?_
    intro ao45 cp45
    try simp only [List.nil_append]
    refine ag_nil ?_
    refine l_append (sz := 3) (enc := enc3) (xs := (es)) rfl rfl rfl rfl rfl Try.underlying26 Try.typeInfo36 rfl rfl rfl (by decide) Tk Tk (by first | rfl | omega | (simp; done) | (simp; omega)) (ys := [(kk, t, v)]) (rds_some rdn_cells) (by rfl) (by first | rfl | omega) (enc3_len) (enc3_one) (by omega) (by show _ * 24 ≤ _; omega) ?_
    intro ao48 cp48
    refine ag_nil ?_
    refine q_assign rfl rfl rfl rfl ?_
    refine r_done ?_
    refine s_keep [1, 3, 5, 11, 12] (e' := [(1, _), (3, _), (5, _), (11, _), (12, _)]) rfl ?_
    refine k_then_n ?_
    refine s_eq 12 rfl (v' := .slice ao48 (m + 1) cp48) (by first | rfl | simp) ?_
    refine join_next ((ao48, cp48)) (by trivial) (by exact ⟨rfl, rfl, rfl, rfl, rfl, trivial⟩) (by (try simp only [List.cons_append, List.nil_append]); (repeat ((with_reducible apply Z2); focus (first | (with_reducible (repeat (first | exact Z0 | apply Z1)); done) | (repeat (first | exact Z0 | apply Z1))))); (repeat (first | exact Z3 | exact Takes.self | refine takes_drop2 ?_)))
   ·
    rintro ⟨la, lc⟩ -
    try simp only [List.cons_append, List.nil_append]
    refine c_seq ?_
    refine c_plain (.q 0 (.q 1 ((.l 2 [] (.q 3 (.q 4 (.q 5 (.q 6 (.q 7 (.done)))))))))) (by kernel_rfl) ?_
    refine q_loadN_c rfl rfl rfl rfl Try.isAgg25 Try.sizeOf25 Tk 0 (us := [_, _, _, _, _]) (by first | rfl | exact (Nat.add_zero _).symm) rfl rfl ?_
    refine q_move rfl rfl rfl rfl ?_
    refine s_take (A := own 3 enc3 la lc (es ++ [(kk, t, v)])) Tk ?_
    refine own_fc fun f_4a f_4b f_4c => ?_
    refine s_heap (fun _ h => Bun.fold ((by (repeat ((with_reducible apply Z2); focus (first | (with_reducible (repeat (first | exact Z0 | apply Z1)); done) | (repeat (first | exact Z0 | apply Z1))))); exact Z3 : Takes _ [A, own 3 enc3 la lc (es ++ [(kk, t, v)])] _) _ h)) ?_
    have sp_5 := onewbad1_spec th va vo lk pl ao n c (Bun [A, own 3 enc3 la lc (es ++ [(kk, t, v)])]) (rds_bun (List.mem_cons_self) (hr)) (by first | rfl | assumption | omega | (simp; done) | (simp; omega)) (by omega) (es ++ [(kk, t, v)]) la (m + 1) lc (rds_bun (List.mem_cons_of_mem _ (List.mem_cons_self)) (rds_own enc3_len (fun h => (f_4b h).1) f_4c)) (by rw [List.length_append]; simp; omega) (by omega) hok (fun h => hbad h.2)
    refine l_call rfl rfl rfl rfl rfl rfl Try.call14 (sp_5) Ts ?_
    rintro oe hoe
    try simp only [List.cons_append, List.nil_append]
    refine s_take (A := Bun [A, own 3 enc3 la lc (es ++ [(kk, t, v)])]) Tk ?_
    refine s_bun ?_
    try simp only [List.cons_append, List.nil_append]
    try simp only [List.cons_append, List.nil_append]
    refine ag_nil ?_
    refine q_move rfl rfl rfl rfl ?_
    refine q_extract rfl rfl rfl rfl rfl ?_
    refine q_extract rfl rfl rfl rfl rfl ?_
    refine q_assign rfl rfl rfl rfl ?_
    refine q_assign rfl rfl rfl rfl ?_
    refine r_done ?_
    refine s_keep [1, 3, 5, 11, 13, 14] (e' := [(1, _), (3, _), (5, _), (11, _), (13, _), (14, _)]) rfl ?_
    refine k_then_n ?_
    refine c_seq ?_
    refine c_seq ?_
    refine c_plain (.q 0 (.q 1 (.done))) (by kernel_rfl) ?_
    refine q_move rfl rfl rfl rfl ?_
    refine q_int rfl rfl rfl rfl rfl (b_neq _ _ _ _) ?_
    refine r_done ?_
    refine k_then_n ?_
    refine c_cond_p rfl (fun hg => ?_) (fun hg => by exfalso; exact hoe (Classical.byContradiction hg))
    refine c_seq ?_
    refine c_plain (.q 0 (.done)) (by kernel_rfl) ?_
    refine q_assign rfl rfl rfl rfl ?_
    refine r_done ?_
    refine s_keep [10] (e' := [(10, _)]) rfl ?_
    refine k_then_n ?_
    refine c_ret ?_
    refine k_then_ret ?_
    refine ret1 rfl rfl (()) (by first | rfl | (first | rfl | (congr 1; done) | (congr 1 <;> first | rfl | omega | (simp; done) | (simp; omega)))) (by trivial) ?_
    exact Tf
theorem againstlaw_bad2 (th va vo lk : Int) (pl : List Int) (ao : Option Addr) (n c : Nat) (A : HProp) (hr : RdS A ao (pl.flatMap encZ)) (hn : pl.length = n) (hb : n ≤ 4000000) (es : List T3) (eo : Option Addr) (m ec : Nat) (he : RdS A eo (es.flatMap enc3)) (hm : es.length = m) (hmb : m ≤ 4000000) (t v : Int) (wr : Bool) (kk : Int) (hkk : kk = if wr = true then 2 else 1) (hok : ¬ OkS th va vo lk pl) : Spec Try.prog 5 [.agg #[.int .i64 th, .int .i64 va, .int .i64 vo, .int .i64 lk, .slice ao n c], .slice eo m ec, .int .i64 t, .int .i64 v, .bool wr] [A] (fun (_ : Unit) => .bool true) (fun _ => True) (fun _ => [A]) := by
 refine spec_mk (n := 227) Try.func5 rfl rfl rfl ?_
 intro Γ w0
 simp only [argE, List.cons_append, List.nil_append, Nat.zero_add, Nat.reduceAdd]
 refine c_seq ?_
 refine c_plain ((.l 0 [] (.q 1 (.done)))) (by kernel_rfl) ?_
 refine l_box rfl rfl rfl rfl (us := [_, _, _, _, _]) rfl ?_
 intro b5
 refine ag_nil ?_
 refine q_assign rfl rfl rfl rfl ?_
 refine r_done ?_
 refine k_then_n ?_
 refine c_seq ?_
 refine c_seq ?_
 refine c_plain ((.l 0 [] (.q 1 (.q 2 (.q 3 (.q 4 ((.l 5 [] (.q 6 (.q 7 (.done))))))))))) (by kernel_rfl) ?_
 have sp_1 := works_spec
 refine l_call rfl rfl rfl rfl rfl rfl Try.call7 (sp_1) Ts ?_
 rintro ⟨⟩ -
 try simp only [List.cons_append, List.nil_append]
 refine ag_nil ?_
 refine q_not rfl rfl rfl rfl ?_
 refine s_eq 30 rfl (v' := .bool false) rfl ?_
 refine q_move rfl rfl rfl rfl ?_
 refine q_loadN_c rfl rfl rfl rfl Try.isAgg25 Try.sizeOf25 Tk 0 (us := [_, _, _, _, _]) (by first | rfl | exact (Nat.add_zero _).symm) rfl rfl ?_
 refine q_move rfl rfl rfl rfl ?_
 have sp_2 := small_spec th va vo lk ao n c eo m ec
 refine l_call rfl rfl rfl rfl rfl rfl Try.call8 (sp_2) Ts ?_
 rintro ⟨⟩ -
 try simp only [List.cons_append, List.nil_append]
 refine ag_nil ?_
 refine q_not rfl rfl rfl rfl ?_
 refine q_pick_f rfl rfl rfl rfl rfl ?_
 refine r_done ?_
 refine s_keep [1, 2, 3, 4, 5, 36] (e' := [(1, _), (2, _), (3, _), (4, _), (5, _), (36, _)]) rfl ?_
 refine k_then_n ?_
 refine c_cond_np rfl (fun hsm => ?_) (fun hsm => ?_)
 ·
  refine c_seq ?_
  refine c_plain ((.l 0 [] (.q 1 (.done)))) (by kernel_rfl) ?_
  have sp_3 := works_spec
  refine l_call rfl rfl rfl rfl rfl rfl Try.call7 (sp_3) Ts ?_
  rintro ⟨⟩ -
  try simp only [List.cons_append, List.nil_append]
  refine ag_nil ?_
  refine q_assign rfl rfl rfl rfl ?_
  refine r_done ?_
  refine s_keep [10] (e' := [(10, _)]) rfl ?_
  refine k_then_n ?_
  refine c_ret ?_
  refine k_then_ret ?_
  refine ret1 rfl rfl (()) (by first | rfl | (first | rfl | (congr 1; done) | (congr 1 <;> first | rfl | omega | (simp; done) | (simp; omega)))) (by trivial) ?_
  exact Tf
 ·
  refine c_skip ?_
  refine k_then_n ?_
  refine c_seq ?_
  refine c_plain (.q 0 (.q 1 (.q 2 ((.l 3 [] ((.l 4 [] (.done)))))))) (by kernel_rfl) ?_
  refine q_move rfl rfl rfl rfl ?_
  refine q_move rfl rfl rfl rfl ?_
  refine q_build rfl rfl rfl rfl (vs := [_, _, _]) (run_buildS Try.underlying36 Try.zeroValue36 (ps := [(0, 1), (1, 1), (2, 1)]) ⟨rfl, Try.sizeOf34, rfl, Try.sizeOf3, rfl, Try.sizeOf3, trivial⟩ rfl) ?_
  refine l_alloc rfl rfl rfl Try.zeroValue36 (zs := [.int .i64 0, .int .i64 0, .int .i64 0]) rfl ?_
  intro b11
  refine ag_nil ?_
  refine l_store (j := 0) rfl rfl rfl rfl Try.sizeOf36 (us := [_, _, _]) rfl rfl rfl Tk (by first | rfl | exact (Nat.add_zero _).symm) (by first | decide | (simp; done) | omega) ?_
  simp only [setL, List.set]
  refine ag_nil ?_
  refine r_done ?_
  refine s_keep [1, 3, 4, 5, 11] (e' := [(1, _), (3, _), (4, _), (5, _), (11, _)]) rfl ?_
  refine k_then_n ?_
  refine c_seqJ (α := Unit) (fun (_u : Unit) => True) (fun (_u : Unit) => []) (fun (_u : Unit) => [cells b11 0 [.int .i64 kk, .int .i64 t, .int .i64 v]]) [1, 3, 5, 11] (er := [(1, _), (3, _), (5, _), (11, _)]) rfl [cells b11 0 [.int .i64 1, .int .i64 t, .int .i64 v]] Ts ?_ ?_
  ·
   refine c_seq ?_
   refine c_plain (.q 0 (.done)) (by kernel_rfl) ?_
   refine q_move rfl rfl rfl rfl ?_
   refine r_done ?_
   refine k_then_n ?_
   refine c_cond rfl (fun hw => ?_) (fun hw => ?_)
   ·
    try simp only [Bool.and_eq_true, Bool.or_eq_true, Bool.not_eq_true', Bool.not_eq_false', Bool.and_eq_false_iff, Bool.or_eq_false_iff, decide_eq_true_eq, decide_eq_false_iff_not] at hw
    refine c_plain (.q 0 ((.l 1 [] (.done)))) (by kernel_rfl) ?_
    refine q_field (k := 0) rfl rfl rfl rfl Try.underlying36 rfl Try.sizeOf34 rfl ?_
    refine l_store (j := 0) rfl rfl rfl rfl Try.sizeOf34 (us := [_]) rfl rfl rfl Tk (by first | rfl | exact (Nat.add_zero _).symm) (by first | decide | (simp; done) | omega) ?_
    simp only [setL, List.set]
    refine ag_nil ?_
    refine r_done ?_
    refine s_take (A := cells b11 0 [.int .i64 2, .int .i64 t, .int .i64 v]) Tk ?_
    refine s_heap (Γ' := cells b11 0 [.int .i64 kk, .int .i64 t, .int .i64 v] :: _) (fun _ h => (by rw [hkk, if_pos hw]; exact h)) ?_
    refine k_then_n ?_
    refine join_next (()) (by trivial) (by exact ⟨rfl, rfl, rfl, rfl, trivial⟩) (by (try simp only [List.cons_append, List.nil_append]); (repeat ((with_reducible apply Z2); focus (first | (with_reducible (repeat (first | exact Z0 | apply Z1)); done) | (repeat (first | exact Z0 | apply Z1))))); (repeat (first | exact Z3 | exact Takes.self | refine takes_drop2 ?_)))
   ·
    try simp only [Bool.and_eq_true, Bool.or_eq_true, Bool.not_eq_true', Bool.not_eq_false', Bool.and_eq_false_iff, Bool.or_eq_false_iff, decide_eq_true_eq, decide_eq_false_iff_not] at hw
    refine s_take (A := cells b11 0 [.int .i64 1, .int .i64 t, .int .i64 v]) Tk ?_
    refine s_heap (Γ' := cells b11 0 [.int .i64 kk, .int .i64 t, .int .i64 v] :: _) (fun _ h => (by rw [hkk, if_neg (by simpa using hw)]; exact h)) ?_
    refine c_skip ?_
    refine k_then_n ?_
    refine join_next (()) (by trivial) (by exact ⟨rfl, rfl, rfl, rfl, trivial⟩) (by (try simp only [List.cons_append, List.nil_append]); (repeat ((with_reducible apply Z2); focus (first | (with_reducible (repeat (first | exact Z0 | apply Z1)); done) | (repeat (first | exact Z0 | apply Z1))))); (repeat (first | exact Z3 | exact Takes.self | refine takes_drop2 ?_)))
  ·
   rintro _u -
   try simp only [List.cons_append, List.nil_append]
   refine c_seqJ (α := Option Addr × Nat) (fun (x_ : Option Addr × Nat) => match x_ with | (la, lc) => True) (fun (x_ : Option Addr × Nat) => match x_ with | (la, lc) => [(12, .slice la (m + 1) lc)]) (fun (x_ : Option Addr × Nat) => match x_ with | (la, lc) => [own 3 enc3 la lc (es ++ [(kk, t, v)])]) [1, 3, 5, 11] (er := [(1, _), (3, _), (5, _), (11, _)]) rfl [] Ts ?_ ?_
   ·
    refine c_draw rfl (.q 1 (.q 3 ((.alt (.l 0 [3] ((.alt (.l 2 [3] ((.l 4 [] ((.l 5 [] (.q 6 (.done))))))) (.l 4 [] ((.l 2 [] ((.l 5 [] (.q 6 (.done)))))))))) (.l 4 [] ((.l 0 [] ((.l 2 [] ((.l 5 [] (.q 6 (.done))))))))))))) (by kernel_rfl) ?_
    refine q_move rfl rfl rfl rfl ?_
    refine q_loadN_c rfl rfl rfl rfl Try.isAgg36 Try.sizeOf36 Tk 0 (us := [_, _, _]) (by first | rfl | exact (Nat.add_zero _).symm) rfl rfl ?_
    refine r_alt ?_ ?_
    ·
     refine l_buildSlice0 rfl rfl rfl rfl Try.underlying26 Try.sizeOf36 ?_
     intro b43
     refine ag_loadN_c rfl rfl (us := [_, _, _]) rfl Try.isAgg36 Try.sizeOf36 Tk 0 (by first | rfl | exact (Nat.add_zero _).symm) rfl rfl ?_
     refine ag_nil ?_
     refine r_alt ?_ ?_
     ·
      refine s_take (A := cells b43 0 []) Tk ?_
      refine s_heap (fun _ h => own_mk (sz := 3) (enc := enc3) (xs := []) (sp := []) (cap := 0) (Nat.le_refl _) rfl h) ?_
      refine l_append (sz := 3) (enc := enc3) (xs := []) rfl rfl rfl rfl rfl Try.underlying26 Try.typeInfo36 rfl rfl rfl (by decide) Tk Tk (by first | rfl | omega | (simp; done) | (simp; omega)) (ys := es) (he) (by rfl) (by first | rfl | omega) (enc3_len) (enc3_one) (by omega) (by show _ * 24 ≤ _; omega) ?_
      intro ao45 cp45
      try simp only [List.nil_append]
      refine ag_loadN_c rfl rfl (us := [_, _, _]) rfl Try.isAgg36 Try.sizeOf36 Tk 0 (by first | rfl | exact (Nat.add_zero _).symm) rfl rfl ?_
      refine ag_nil ?_
      refine l_buildSlice rfl rfl rfl rfl (run_build1 (us := [_, _, _]) Try.underlying26 Try.sizeOf36 rfl Try.zeroValue36 rfl rfl rfl) ?_
      intro b47
      refine ag_nil ?_
      refine l_append (sz := 3) (enc := enc3) (xs := (es)) rfl rfl rfl rfl rfl Try.underlying26 Try.typeInfo36 rfl rfl rfl (by decide) Tk Tk (by first | rfl | omega | (simp; done) | (simp; omega)) (ys := [(kk, t, v)]) (rds_some rdn_cells) (by rfl) (by first | rfl | omega) (enc3_len) (enc3_one) (by omega) (by show _ * 24 ≤ _; omega) ?_
      intro ao48 cp48
      refine ag_nil ?_
      refine q_assign rfl rfl rfl rfl ?_
      refine r_done ?_
      refine s_keep [1, 3, 5, 11, 12] (e' := [(1, _), (3, _), (5, _), (11, _), (12, _)]) rfl ?_
      refine k_then_n ?_
      refine s_eq 12 rfl (v' := .slice ao48 (m + 1) cp48) (by first | rfl | simp) ?_
      refine join_next ((ao48, cp48)) (by trivial) (by exact ⟨rfl, rfl, rfl, rfl, rfl, trivial⟩) (by (try simp only [List.cons_append, List.nil_append]); (repeat ((with_reducible apply Z2); focus (first | (with_reducible (repeat (first | exact Z0 | apply Z1)); done) | (repeat (first | exact Z0 | apply Z1))))); (repeat (first | exact Z3 | exact Takes.self | refine takes_drop2 ?_)))
     refine l_buildSlice rfl rfl rfl rfl (run_build1 (us := [_, _, _]) Try.underlying26 Try.sizeOf36 rfl Try.zeroValue36 rfl rfl rfl) ?_
     intro b47
     refine ag_nil ?_
     refine s_take (A := cells b43 0 []) Tk ?_
     refine s_heap (fun _ h => own_mk (sz := 3) (enc := enc3) (xs := []) (sp := []) (cap := 0) (Nat.le_refl _) rfl h) ?_
     refine l_append (sz := 3) (enc := enc3) (xs := []) rfl rfl rfl rfl rfl Try.underlying26 Try.typeInfo36 rfl rfl rfl (by decide) Tk Tk (by first | rfl | omega | (simp; done) | (simp; omega)) (ys := es) (he) (by rfl) (by first | rfl | omega) (enc3_len) (enc3_one) (by omega) (by show _ * 24 ≤ _; omega) ?_
     intro ao45 cp45
     try simp only [List.nil_append]
     refine ag_nil ?_
     refine l_append (sz := 3) (enc := enc3) (xs := (es)) rfl rfl rfl rfl rfl Try.underlying26 Try.typeInfo36 rfl rfl rfl (by decide) Tk Tk (by first | rfl | omega | (simp; done) | (simp; omega)) (ys := [(kk, t, v)]) (rds_some rdn_cells) (by rfl) (by first | rfl | omega) (enc3_len) (enc3_one) (by omega) (by show _ * 24 ≤ _; omega) ?_
     intro ao48 cp48
     refine ag_nil ?_
     refine q_assign rfl rfl rfl rfl ?_
     refine r_done ?_
     refine s_keep [1, 3, 5, 11, 12] (e' := [(1, _), (3, _), (5, _), (11, _), (12, _)]) rfl ?_
     refine k_then_n ?_
     refine s_eq 12 rfl (v' := .slice ao48 (m + 1) cp48) (by first | rfl | simp) ?_
     refine join_next ((ao48, cp48)) (by trivial) (by exact ⟨rfl, rfl, rfl, rfl, rfl, trivial⟩) (by (try simp only [List.cons_append, List.nil_append]); (repeat ((with_reducible apply Z2); focus (first | (with_reducible (repeat (first | exact Z0 | apply Z1)); done) | (repeat (first | exact Z0 | apply Z1))))); (repeat (first | exact Z3 | exact Takes.self | refine takes_drop2 ?_)))
    refine l_buildSlice rfl rfl rfl rfl (run_build1 (us := [_, _, _]) Try.underlying26 Try.sizeOf36 rfl Try.zeroValue36 rfl rfl rfl) ?_
    intro b47
    refine ag_nil ?_
    refine l_buildSlice0 rfl rfl rfl rfl Try.underlying26 Try.sizeOf36 ?_
    intro b43
    refine ag_nil ?_
    refine s_take (A := cells b43 0 []) Tk ?_
    refine s_heap (fun _ h => own_mk (sz := 3) (enc := enc3) (xs := []) (sp := []) (cap := 0) (Nat.le_refl _) rfl h) ?_
    refine l_append (sz := 3) (enc := enc3) (xs := []) rfl rfl rfl rfl rfl Try.underlying26 Try.typeInfo36 rfl rfl rfl (by decide) Tk Tk (by first | rfl | omega | (simp; done) | (simp; omega)) (ys := es) (he) (by rfl) (by first | rfl | omega) (enc3_len) (enc3_one) (by omega) (by show _ * 24 ≤ _; omega) ?_
    intro ao45 cp45
    try simp only [List.nil_append]
    refine ag_nil ?_
    refine l_append (sz := 3) (enc := enc3) (xs := (es)) rfl rfl rfl rfl rfl Try.underlying26 Try.typeInfo36 rfl rfl rfl (by decide) Tk Tk (by first | rfl | omega | (simp; done) | (simp; omega)) (ys := [(kk, t, v)]) (rds_some rdn_cells) (by rfl) (by first | rfl | omega) (enc3_len) (enc3_one) (by omega) (by show _ * 24 ≤ _; omega) ?_
    intro ao48 cp48
    refine ag_nil ?_
    refine q_assign rfl rfl rfl rfl ?_
    refine r_done ?_
    refine s_keep [1, 3, 5, 11, 12] (e' := [(1, _), (3, _), (5, _), (11, _), (12, _)]) rfl ?_
    refine k_then_n ?_
    refine s_eq 12 rfl (v' := .slice ao48 (m + 1) cp48) (by first | rfl | simp) ?_
    refine join_next ((ao48, cp48)) (by trivial) (by exact ⟨rfl, rfl, rfl, rfl, rfl, trivial⟩) (by (try simp only [List.cons_append, List.nil_append]); (repeat ((with_reducible apply Z2); focus (first | (with_reducible (repeat (first | exact Z0 | apply Z1)); done) | (repeat (first | exact Z0 | apply Z1))))); (repeat (first | exact Z3 | exact Takes.self | refine takes_drop2 ?_)))
   ·
    rintro ⟨la, lc⟩ -
    try simp only [List.cons_append, List.nil_append]
    refine c_seq ?_
    refine c_plain (.q 0 (.q 1 ((.l 2 [] (.q 3 (.q 4 (.q 5 (.q 6 (.q 7 (.done)))))))))) (by kernel_rfl) ?_
    refine q_loadN_c rfl rfl rfl rfl Try.isAgg25 Try.sizeOf25 Tk 0 (us := [_, _, _, _, _]) (by first | rfl | exact (Nat.add_zero _).symm) rfl rfl ?_
    refine q_move rfl rfl rfl rfl ?_
    refine s_take (A := own 3 enc3 la lc (es ++ [(kk, t, v)])) Tk ?_
    refine own_fc fun f_4a f_4b f_4c => ?_
    refine s_heap (fun _ h => Bun.fold ((by (repeat ((with_reducible apply Z2); focus (first | (with_reducible (repeat (first | exact Z0 | apply Z1)); done) | (repeat (first | exact Z0 | apply Z1))))); exact Z3 : Takes _ [A, own 3 enc3 la lc (es ++ [(kk, t, v)])] _) _ h)) ?_
    have sp_5 := onewbad2_spec th va vo lk pl ao n c (Bun [A, own 3 enc3 la lc (es ++ [(kk, t, v)])]) (rds_bun (List.mem_cons_self) (hr)) (by first | rfl | assumption | omega | (simp; done) | (simp; omega)) (by omega) (es ++ [(kk, t, v)]) la (m + 1) lc (rds_bun (List.mem_cons_of_mem _ (List.mem_cons_self)) (rds_own enc3_len (fun h => (f_4b h).1) f_4c)) (by rw [List.length_append]; simp; omega) (by omega) hok
    refine l_call rfl rfl rfl rfl rfl rfl Try.call14 (sp_5) Ts ?_
    rintro oe hoe
    try simp only [List.cons_append, List.nil_append]
    refine s_take (A := Bun [A, own 3 enc3 la lc (es ++ [(kk, t, v)])]) Tk ?_
    refine s_bun ?_
    try simp only [List.cons_append, List.nil_append]
    try simp only [List.cons_append, List.nil_append]
    refine ag_nil ?_
    refine q_move rfl rfl rfl rfl ?_
    refine q_extract rfl rfl rfl rfl rfl ?_
    refine q_extract rfl rfl rfl rfl rfl ?_
    refine q_assign rfl rfl rfl rfl ?_
    refine q_assign rfl rfl rfl rfl ?_
    refine r_done ?_
    refine s_keep [1, 3, 5, 11, 13, 14] (e' := [(1, _), (3, _), (5, _), (11, _), (13, _), (14, _)]) rfl ?_
    refine k_then_n ?_
    refine c_seq ?_
    refine c_seq ?_
    refine c_plain (.q 0 (.q 1 (.done))) (by kernel_rfl) ?_
    refine q_move rfl rfl rfl rfl ?_
    refine q_int rfl rfl rfl rfl rfl (b_neq _ _ _ _) ?_
    refine r_done ?_
    refine k_then_n ?_
    refine c_cond_p rfl (fun hg => ?_) (fun hg => by exfalso; exact hoe (Classical.byContradiction hg))
    refine c_seq ?_
    refine c_plain (.q 0 (.done)) (by kernel_rfl) ?_
    refine q_assign rfl rfl rfl rfl ?_
    refine r_done ?_
    refine s_keep [10] (e' := [(10, _)]) rfl ?_
    refine k_then_n ?_
    refine c_ret ?_
    refine k_then_ret ?_
    refine ret1 rfl rfl (()) (by first | rfl | (first | rfl | (congr 1; done) | (congr 1 <;> first | rfl | omega | (simp; done) | (simp; omega)))) (by trivial) ?_
    exact Tf
theorem againstlaw_spec (th va vo lk : Int) (pl : List Int) (ao : Option Addr) (n c : Nat) (A : HProp) (hr : RdS A ao (pl.flatMap encZ)) (hn : pl.length = n) (hb : n ≤ 4000000) (es : List T3) (eo : Option Addr) (m ec : Nat) (he : RdS A eo (es.flatMap enc3)) (hm : es.length = m) (hmb : m ≤ 4000000) (t v : Int) (wr : Bool) : Spec Try.prog 5 [.agg #[.int .i64 th, .int .i64 va, .int .i64 vo, .int .i64 lk, .slice ao n c], .slice eo m ec, .int .i64 t, .int .i64 v, .bool wr] [A] (fun (_ : Unit) => .bool true) (fun _ => True) (fun _ => [A]) := by
  by_cases hok : OkS th va vo lk pl
  · by_cases hall : allC (newF th va vo lk pl) (es ++ [((if wr = true then (2 : Int) else 1), t, v)]) (es ++ [((if wr = true then (2 : Int) else 1), t, v)]).length
    · exact againstlaw_ok th va vo lk pl ao n c A hr hn hb es eo m ec he hm hmb t v wr _ rfl hok hall
    · exact againstlaw_bad1 th va vo lk pl ao n c A hr hn hb es eo m ec he hm hmb t v wr _ rfl hok hall
  · exact againstlaw_bad2 th va vo lk pl ao n c A hr hn hb es eo m ec he hm hmb t v wr _ rfl hok
end Go.Ab.Hi
set_option linter.unusedVariables false
set_option linter.unusedSimpArgs false
namespace Go.Proofs.Ytiefkbajaffgcaa.frame
open Go Go.Ab Go.ChangeShapes Go.WideShapes Go.ChangeAt Go.RowKit
/-! The bound. -/
theorem one_le {H : Type} (d : DataW H) : 1 ≤ Rows.uptoBulk d := by
  cases d with
  | lit l => cases l <;> simp [Rows.uptoBulk]
  | nil => simp [Rows.uptoBulk]
  | ptr d => simp [Rows.uptoBulk]
  | slice elems spare => simp [Rows.uptoBulk]
  | agg parts => simp [Rows.uptoBulk]
  | iface t d => simp [Rows.uptoBulk]
  | map entries => simp [Rows.uptoBulk]
  | held h => simp [Rows.uptoBulk]
theorem part_le {H : Type} {d : DataW H} {l : List (DataW H)} (h : d ∈ l) : Rows.uptoBulk d ≤ Rows.uptoBulkAll l := by
  induction l with
  | nil => cases h
  | cons x r ih =>
    simp only [Rows.uptoBulkAll]
    cases List.mem_cons.1 h with
    | inl e => subst e; omega
    | inr e => have := ih e; omega
theorem length_le {H : Type} (l : List (DataW H)) : l.length ≤ Rows.uptoBulkAll l := by
  induction l with
  | nil => simp [Rows.uptoBulkAll]
  | cons x r ih => have := one_le x; simp only [Rows.uptoBulkAll, List.length_cons]; omega
theorem bound {H : Type} {l : List (DataW H)} (hk : Rows.uptoSmall H l = true) : Rows.uptoBulkAll l ≤ 1048576 := of_decide_eq_true hk
theorem bound_mem {H : Type} {l : List (DataW H)} {d : DataW H} (hk : Rows.uptoSmall H l = true) (h : d ∈ l) : Rows.uptoBulk d ≤ 1048576 := Nat.le_trans (part_le h) (bound hk)
theorem bulk_slice {H : Type} {es rs : List (DataW H)} {d : DataW H} (h : d ∈ es) : Rows.uptoBulk d ≤ Rows.uptoBulk (.slice es rs) := by
  have := part_le h
  simp only [Rows.uptoBulk]; omega
theorem bulk_len {H : Type} (es rs : List (DataW H)) : es.length ≤ Rows.uptoBulk (.slice es rs) := by
  have := length_le es
  simp only [Rows.uptoBulk]; omega
/-! The arguments read behind the call as before. -/
theorem trodAll_below {H : Type} {enc : TypeId × Value → H} {P : Program} (hl : laidOutB P = true) {W W' : World} (hb : Below W.heap.size W W') : ∀ {ts : List TypeId} {vs : List Value} {ds : List (DataW H)} {ps : List MemPlace}, (∀ t ∈ ts, P.readableRec t = true ∧ t < P.types.size) →
    DataW.TrodAll enc P W 0 (fun _ => true) true ts vs ds ps → (∀ x ∈ ps, x.block < W.heap.size) → DataW.TrodAll enc P W' 0 (fun b => decide (b < W.heap.size)) true ts vs ds ps
  | [], [], [], _, _, h, _ => h
  | t :: ts, v :: vs, d :: ds, ps, hr, ⟨p, q, h, hs, e⟩, hlt => by
    subst e
    exact ⟨p, q, Below.trod hl (hr t (by simp)).1 (hr t (by simp)).2 h hb (fun x hx => hlt x (List.mem_append_left _ hx)), trodAll_below hl hb (fun t ht => hr t (List.mem_cons_of_mem _ ht)) hs (fun x hx => hlt x (List.mem_append_right _ hx)), rfl⟩
theorem law_post {H : Type} {enc : TypeId × Value → H} {P : Program} {f : Func} {s : ChangeSpec} {W W' : World} {args : Array Value} {ds gs : List (DataW H)} {before : List MemPlace} {tb : TypeId}
    (hl : laidOutB P = true) (hr : ∀ t ∈ f.params.toList, P.readableRec t = true ∧ t < P.types.size) (hvars : s.vars = []) (hres : f.resultTypes = #[tb]) (hb : P.underlying tb = some .bool)
    (hf : s.fn H (ds ++ gs) = { results := [.lit (.bool true)], args := ds, vars := [] }) (hW : DataW.Whole enc P f.params.toList s.vars false W args.toList ds gs before) (bel : Below W.heap.size W W') : s.post enc P f false true false false W args (.bool true) W' := by
  have hW' := hW
  obtain ⟨p, q, hA, hV, rfl, hfz, hnd⟩ := hW
  rw [hvars] at hV
  obtain ⟨rfl, rfl⟩ := trodVars_none hV
  have hA' : DataW.TrodAll enc P W 0 (fun _ => true) true f.params.toList args.toList ds p := hA
  refine ⟨ds, [], p ++ [], [], p, [], hW', ?_, ?_, ?_, bel.frame _, fun h => by cases h⟩
  · rw [hf, hres]
    exact trodAll_mk1 (shut_bool hb true)
  · rw [hf]
    exact trodAll_below hl bel hr hA' (fun x hx => hW'.lt x (List.mem_append_left _ hx))
  · rw [hf, hvars]
    exact rfl
theorem spec_calls {P : Program} {f : FuncId} {args : List Value} {W : World} (h : Ab.Spec P f args [base W] (fun (_ : Unit) => .bool true) (fun _ => True) (fun _ => [base W])) : Calls P f args.toArray W fun e W' => e = .returned (.bool true) ∧ Below W.heap.size W W' :=
  (h [] W (base_self W)).mono fun e w' ⟨_, e1, _, s, a⟩ => ⟨e1, below_of_base s a⟩
/-! Arguments are opened. -/
theorem spot_of_cell {W : World} {a : Addr} {v : Value} (h : W.cell? a = some v) : a.spot = none := by
  unfold World.cell? at h
  split at h
  · split at h
    · cases h
    · rename_i hs; simpa using hs
  · cases h
theorem choose_list {α : Type} : ∀ (n : Nat) (Q : Nat → α → Prop), (∀ i, i < n → ∃ x, Q i x) → ∃ xs : List α, xs.length = n ∧ ∀ i x, xs[i]? = some x → Q i x
  | 0, Q, _ => ⟨[], rfl, fun i x h => by simp at h⟩
  | n + 1, Q, h => by
    obtain ⟨xs, h1, h2⟩ := choose_list n Q (fun i hi => h i (by omega))
    obtain ⟨x, hx⟩ := h n (by omega)
    refine ⟨xs ++ [x], by simp [h1], fun i y hy => ?_⟩
    rcases Nat.lt_trichotomy i n with hi | hi | hi
    · rw [List.getElem?_append_left (by omega)] at hy; exact h2 i y hy
    · subst hi; rw [List.getElem?_append_right (by omega), h1, Nat.sub_self] at hy; simp at hy; subst hy; exact hx
    · rw [List.getElem?_eq_none (by simp; omega)] at hy; cases hy
theorem rdn_flat_mk {α : Type} {A : HProp} {b sz : Nat} {enc : α → List Value} (hsz : ∀ x, (enc x).length = sz) : ∀ (xs : List α) (o : Nat), (∀ i x, xs[i]? = some x → RdN A b (o + i * sz) (enc x)) → RdN A b o (xs.flatMap enc)
  | [], o, _ => fun i v h => by simp at h
  | x :: xs, o, h => fun i v hv => by
    rw [List.flatMap_cons] at hv
    by_cases hi : i < (enc x).length
    · rw [List.getElem?_append_left hi] at hv
      have := h 0 x rfl i v hv
      rwa [Nat.zero_mul, Nat.add_zero] at this
    · rw [List.getElem?_append_right (by omega), hsz] at hv
      rw [hsz] at hi
      have ih := rdn_flat_mk hsz xs (o + sz) (fun i y hy => by
        have := h (i + 1) y (by simpa using hy)
        rw [Nat.succ_mul] at this
        rwa [show o + sz + i * sz = o + (i * sz + sz) from by omega])
      have := ih (i - sz) v hv
      rwa [show o + sz + (i - sz) = o + i from by omega] at this
/-- A slice among what is read: its elements are opened by 'hel'. -/
theorem open_sl {α H : Type} {enc : TypeId × Value → H} {P : Program} {W : World} {t e : TypeId} {ao : Option Addr} {len cap sz fuel : Nat} {y : DataW H × List MemPlace} {enc' : α → List Value} {Q : α → DataW H → Prop} (ht : P.underlying t = some (.slice e)) (hc : P.cellsOf e = sz + 1) (hsz : ∀ x, (enc' x).length = sz + 1)
    (hel : ∀ n cs y, DataW.trod enc P W 0 (fun _ => true) true n e cs = some y → cs.length = sz + 1 → ∃ x : α, enc' x = cs ∧ Q x y.1)
    (h : DataW.trod enc P W 0 (fun _ => true) true fuel t [.slice ao len cap] = some y) :
    ∃ xs : List α, xs.length = len ∧ RdS (base W) ao (xs.flatMap enc') ∧ len ≤ cap ∧ cap ≤ maxLen ∧ xs.length ≤ Rows.uptoBulk y.1 ∧ (∀ x ∈ xs, ∃ d, Q x d ∧ Rows.uptoBulk d ≤ Rows.uptoBulk y.1) ∧ (ao = none → cap = 0) := by
  rcases DataW.trod_slice ht h with ⟨h1, h2⟩ | ⟨a, len', cap', elems, rest, n, -, h1, h2, -, hl, hm, hlen, hel', -⟩
  · simp only [List.cons.injEq, Value.slice.injEq, and_true] at h1
    obtain ⟨rfl, rfl, rfl⟩ := h1
    exact ⟨[], rfl, .inl rfl, Nat.le_refl _, Nat.zero_le _, Nat.zero_le _, fun _ h => (by cases h), fun _ => rfl⟩
  · simp only [List.cons.injEq, Value.slice.injEq, and_true] at h1
    obtain ⟨rfl, rfl, rfl⟩ := h1
    subst h2
    have key : ∀ i, i < len → ∃ x : α, ∃ cs y, W.cells? 0 (a.add (i * (sz + 1))) (sz + 1) = some cs ∧ elems[i]? = some y ∧ enc' x = cs ∧ Q x y.1 := by
      intro i hi
      have h3 := hel' i hi
      rw [List.getElem?_eq_getElem (by omega), hc, Option.bind_eq_some_iff] at h3
      obtain ⟨cs, h4, h5⟩ := h3
      have h6 := World.cells?_some h4
      obtain ⟨x, hx, hq⟩ := hel n cs _ h5 (by have := mapM_some_length (by unfold World.cells? at h4; rwa [if_pos (Nat.zero_le _)] at h4); simpa using this)
      exact ⟨x, cs, _, h4, List.getElem?_eq_getElem (by omega), hx, hq⟩
    obtain ⟨xs, hx1, hx2⟩ := choose_list len _ key
    have hcell : ∀ i x, xs[i]? = some x → ∀ j v, (enc' x)[j]? = some v → W.cell? ((a.add (i * (sz + 1))).add j) = some v := by
      intro i x hx j v hv
      obtain ⟨cs, y, h4, -, h5, -⟩ := hx2 i x hx
      subst h5
      unfold World.cells? at h4
      rw [if_pos (Nat.zero_le _)] at h4
      have hj : j < sz + 1 := by rw [← hsz x]; exact (List.getElem?_eq_some_iff.1 hv).1
      have := mapM_some_get h4 j j (by simp [hj])
      rw [this, hv]
    refine ⟨xs, hx1, ?_, hl, hm, ?_, ?_, fun h => by cases h⟩
    · cases hxs : xs with
      | nil => exact .inl rfl
      | cons x0 xs' =>
        obtain ⟨v0, hv0⟩ := get_lt (l := enc' x0) (i := 0) (by rw [hsz]; omega)
        have h6 := hcell 0 x0 (by rw [hxs]; rfl) 0 v0 hv0
        rw [Nat.zero_mul] at h6
        have hsp : a.spot = none := spot_of_cell (by simpa [Addr.add] using h6)
        obtain ⟨b, o, sp⟩ := a
        simp only at hsp
        subst hsp
        refine .inr ⟨b, o, rfl, ?_⟩
        rw [← hxs]
        refine rdn_flat_mk hsz xs o fun i x hx j v hv => rd_base ?_
        have := hcell i x hx j v hv
        rwa [add_none, add_none] at this
    · have := bulk_len (elems.map (·.1)) (rest.map (·.1))
      rw [List.length_map, hlen] at this
      rw [hx1]; exact this
    · intro x hx
      obtain ⟨i, hi⟩ := List.getElem?_of_mem hx
      obtain ⟨cs, y, -, h5, -, h7⟩ := hx2 i x hi
      exact ⟨y.1, h7, bulk_slice (List.mem_map_of_mem (List.mem_of_getElem? h5))⟩
/-- Whole arguments. -/
theorem arg_sl {α H : Type} {enc : TypeId × Value → H} {P : Program} {W : World} {t e : TypeId} {v : Value} {d : DataW H} {ps : List MemPlace} {bs sz : Nat} {enc' : α → List Value} {Q : α → DataW H → Prop} (ht : P.underlying t = some (.slice e)) (hc : P.cellsOf e = sz + 1) (hsz : ∀ x, (enc' x).length = sz + 1)
    (hel : ∀ n cs y, DataW.trod enc P W 0 (fun _ => true) true n e cs = some y → cs.length = sz + 1 → ∃ x : α, enc' x = cs ∧ Q x y.1)
    (hval : Value.okWide P W .any bs t v) (h : DataW.Trod enc P W 0 (fun _ => true) true t v d ps) :
    ∃ (xs : List α) (ao : Option Addr) (cap : Nat), v = .slice ao xs.length cap ∧ RdS (base W) ao (xs.flatMap enc') ∧ xs.length ≤ cap ∧ cap ≤ maxLen ∧ xs.length ≤ Rows.uptoBulk d ∧ (∀ x ∈ xs, ∃ y, Q x y ∧ Rows.uptoBulk y ≤ Rows.uptoBulk d) ∧ (ao = none → cap = 0) := by
  obtain ⟨ao, len, cap, rfl⟩ := okWide_slice ht hval
  obtain ⟨n, hn⟩ := h
  obtain ⟨xs, h1, h2, h3, h4, h5, h6, h7⟩ := open_sl ht hc hsz hel (y := (d, ps)) (by simpa [Value.cells] using hn)
  subst h1
  exact ⟨xs, ao, cap, rfl, h2, h3, h4, h5, h6, h7⟩
/-- A slice of an element of a slice. -/
theorem el_sl {α H : Type} {enc : TypeId × Value → H} {P : Program} {W : World} {t e : TypeId} {sz : Nat} {enc' : α → List Value} {Q : α → DataW H → Prop} (ht : P.underlying t = some (.slice e)) (hc : P.cellsOf e = sz + 1) (hsz : ∀ x, (enc' x).length = sz + 1)
    (hel : ∀ n cs y, DataW.trod enc P W 0 (fun _ => true) true n e cs = some y → cs.length = sz + 1 → ∃ x : α, enc' x = cs ∧ Q x y.1)
    (n : Nat) (cs : List Value) (y : DataW H × List MemPlace) (h : DataW.trod enc P W 0 (fun _ => true) true n t cs = some y) (hl : cs.length = 0 + 1) :
    ∃ x : LstA α, encH x = cs ∧ (RdS (base W) x.1 (x.2.2.flatMap enc') ∧ x.2.2.length ≤ Rows.uptoBulk y.1 ∧ (∀ z ∈ x.2.2, ∃ d, Q z d ∧ Rows.uptoBulk d ≤ Rows.uptoBulk y.1) ∧ x.2.2.length ≤ x.2.1) := by
  have h0 : ∃ ao len cap, cs = [.slice ao len cap] := by
    rcases DataW.trod_slice ht h with ⟨h1, -⟩ | ⟨a, len', cap', elems, rest, n, -, h1, -⟩
    · exact ⟨_, _, _, h1⟩
    · exact ⟨_, _, _, h1⟩
  obtain ⟨ao, len, cap, rfl⟩ := h0
  obtain ⟨xs, h1, h2, h3, h4, h5, h6, h7⟩ := open_sl ht hc hsz hel h
  subst h1
  exact ⟨(ao, cap, xs), rfl, h2, h5, h6, h3⟩
/-- An integer. -/
theorem el_int {H : Type} {enc : TypeId × Value → H} {P : Program} {W : World} {e : TypeId} {k : IntKind} (he : P.underlying e = some (.int k)) (n : Nat) (cs : List Value) (y : DataW H × List MemPlace) (h : DataW.trod enc P W 0 (fun _ => true) true n e cs = some y) (hl : cs.length = 0 + 1) : ∃ x : Int, [Value.int k x] = cs ∧ (Lit.int k x).wf = true := by
  obtain ⟨m, rfl, rfl, hw⟩ := DataW.trod_int he h
  exact ⟨m, rfl, hw⟩
end Go.Proofs.Ytiefkbajaffgcaa.frame
set_option linter.unusedVariables false
set_option linter.unusedSimpArgs false
namespace Go.Proofs.Ytiefkbajaffgcaa.frame
open Go Go.Ab Go.ChangeShapes Go.WideShapes Go.ChangeAt Go.RowKit
variable {α β H : Type} {enc : TypeId × Value → H} {P : Program} {W : World} {e : TypeId} {fs : Array Field} {m : Nat} {cs : List Value} {B : Nat}
/-- How an element of type e is opened. -/
abbrev El (enc : TypeId × Value → H) (P : Program) (W : World) (e : TypeId) (sz : Nat) (encA : α → List Value) (Q : α → DataW H → Prop) : Prop :=
  ∀ n cs y, DataW.trod enc P W 0 (fun _ => true) true n e cs = some y → cs.length = sz → ∃ x : α, encA x = cs ∧ Q x y.1
/-- What is known of the fields from i on. -/
def FR (enc : TypeId × Value → H) (P : Program) (W : World) (fs : Array Field) (m i : Nat) (cs : List Value) (B : Nat) : Prop :=
  ∀ j f, i ≤ j → fs[j]? = some f → ∃ y : DataW H × List MemPlace, DataW.trod enc P W 0 (fun _ => true) true m f.type ((cs.drop f.offset).take (P.cellsOf f.type)) = some y ∧ Rows.uptoBulk y.1 ≤ B
theorem fr_start {n : Nat} {y : DataW H × List MemPlace} (he : P.underlying e = some (.struct fs)) (h : DataW.trod enc P W 0 (fun _ => true) true n e cs = some y) : ∃ m, FR enc P W fs m 0 cs (Rows.uptoBulk y.1) := by
  obtain ⟨xs, m, -, hy, -, hxs, hf⟩ := DataW.trod_struct he h
  refine ⟨m, fun j f _ hj => ?_⟩
  have hlt : j < xs.length := by rw [hxs]; exact (Array.getElem?_eq_some_iff.1 hj).1
  have := hf j f hj
  rw [List.getElem?_eq_getElem hlt] at this
  refine ⟨_, this, ?_⟩
  rw [hy]
  have hp := part_le (l := xs.map (·.1)) (d := xs[j].1) (List.mem_map_of_mem (List.getElem_mem hlt))
  simp only [Rows.uptoBulk]
  omega
/-- Fields from i on, opened. -/
abbrev Fo (enc : TypeId × Value → H) (P : Program) (W : World) (fs : Array Field) (i off sz : Nat) (encA : α → List Value) (Q : α → Nat → Prop) : Prop :=
  ∀ m cs B, FR enc P W fs m i cs B → cs.length = off + sz → ∃ x : α, encA x = cs.drop off ∧ Q x B
theorem fo_last {i off sz : Nat} {f : Field} {encA : α → List Value} {Q : α → DataW H → Prop} (hf : fs[i]? = some f) (ho : f.offset = off) (hc : P.cellsOf f.type = sz) (el : El enc P W f.type sz encA Q) :
    Fo enc P W fs i off sz encA (fun x B => ∃ d, Q x d ∧ Rows.uptoBulk d ≤ B) := by
  intro m cs B h hl
  obtain ⟨y, hy, hb⟩ := h i f (Nat.le_refl _) hf
  rw [ho, hc, List.take_of_length_le (by rw [List.length_drop]; omega)] at hy
  obtain ⟨x, hx, hq⟩ := el m _ y hy (by rw [List.length_drop]; omega)
  exact ⟨x, hx, y.1, hq, hb⟩
theorem fo_cons {i off sz n : Nat} {f : Field} {encA : α → List Value} {Q : α → DataW H → Prop} {encB : β → List Value} {R : β → Nat → Prop} (hf : fs[i]? = some f) (ho : f.offset = off) (hc : P.cellsOf f.type = sz) (el : El enc P W f.type sz encA Q)
    (rest : Fo enc P W fs (i + 1) (off + sz) n encB R) : Fo enc P W fs i off (sz + n) (fun x : α × β => encA x.1 ++ encB x.2) (fun x B => (∃ d, Q x.1 d ∧ Rows.uptoBulk d ≤ B) ∧ R x.2 B) := by
  intro m cs B h hl
  obtain ⟨y, hy, hb⟩ := h i f (Nat.le_refl _) hf
  rw [ho, hc] at hy
  obtain ⟨x, hx, hq⟩ := el m _ y hy (by rw [List.length_take, List.length_drop]; omega)
  obtain ⟨z, hz, hr⟩ := rest m cs B (fun j g hj hg => h j g (by omega) hg) (by omega)
  refine ⟨(x, z), ?_, ⟨y.1, hq, hb⟩, hr⟩
  show encA x ++ encB z = _
  rw [hx, hz, ← List.drop_drop, List.take_append_drop]
theorem el_struct {sz : Nat} {encA : α → List Value} {Q : α → Nat → Prop} (he : P.underlying e = some (.struct fs)) (fo : Fo enc P W fs 0 0 sz encA Q) : El enc P W e sz encA (fun x d => Q x (Rows.uptoBulk d)) := by
  intro n cs y h hl
  obtain ⟨m, hm⟩ := fr_start he h
  obtain ⟨x, hx, hq⟩ := fo m cs _ hm (by omega)
  exact ⟨x, hx, hq⟩
/-- A struct handed in. -/
theorem arg_struct {t : TypeId} {v : Value} {d : DataW H} {ps : List MemPlace} {bs sz : Nat} {encA : α → List Value} {Q : α → DataW H → Prop} (ht : P.underlying t = some (.struct fs)) (hc : P.cellsOf t = sz) (el : El enc P W t sz encA Q)
    (hval : Value.okWide P W .any bs t v) (h : DataW.Trod enc P W 0 (fun _ => true) true t v d ps) : ∃ x : α, v = .agg (encA x).toArray ∧ Q x d := by
  obtain ⟨cs, rfl, hs⟩ := okWide_struct ht hval
  obtain ⟨n, hn⟩ := h
  obtain ⟨x, hx, hq⟩ := el n cs.toList (d, ps) (by simpa [Value.cells] using hn) (by simpa [hc] using hs)
  exact ⟨x, by rw [hx], hq⟩
end Go.Proofs.Ytiefkbajaffgcaa.frame
