/- Package feasible: the document's New; Least. -/
import Derived.Test.YtkoclbjiaofkhaaFe6
set_option linter.unusedVariables false
set_option linter.unusedSimpArgs false
set_option maxRecDepth 100000
namespace Go.Ab.Fe
open Go Go.Proofs Go.Ab
abbrev nxT (x : CS) (e : T3) : CS := nxF x e.1 e.2.1 e.2.2
abbrev canT (x : CS) (e : T3) : Prop := canF x e.1 e.2.1 e.2.2
/-- Behind the first i events, those that cannot be next left out. -/
def sN (x : CS) (es : List T3) (i : Nat) : CS := (es.take i).foldl nxT x
theorem sN_zero (x : CS) (es : List T3) : sN x es 0 = x := rfl
theorem sN_next {x : CS} {es : List T3} {i : Nat} {e : T3} (h : es[i]? = some e) : sN x es (i + 1) = nxF (sN x es i) e.1 e.2.1 e.2.2 := by
  unfold sN; rw [take_next h, List.foldl_append]; rfl
theorem sN_cons (x : CS) (e : T3) (es : List T3) (i : Nat) : sN x (e :: es) (i + 1) = sN (nxT x e) es i := rfl
theorem nxF_pa (x : CS) (k t o : Int) : (nxF x k t o).pa = x.pa ∧ (nxF x k t o).th = x.th ∧ (nxF x k t o).va = x.va ∧ (nxF x k t o).vo = x.vo ∧ (nxF x k t o).lk = x.lk := by
  unfold nxF nextF; split
  · repeat' split
    all_goals exact ⟨rfl, rfl, rfl, rfl, rfl⟩
  · exact ⟨rfl, rfl, rfl, rfl, rfl⟩
theorem nxF_n (x : CS) (k t o : Int) : (nxF x k t o).n = x.n ∨ (nxF x k t o).n = x.n + 1 := by
  unfold nxF nextF; split
  · repeat' split
    all_goals exact .inr rfl
  · exact .inl rfl
theorem sN_inv {x : CS} (hx : CInv x) (es : List T3) : ∀ i, CInv (sN x es i) := by
  intro i
  induction i with
  | zero => exact hx
  | succ i ih =>
    rcases Nat.lt_or_ge i es.length with h | h
    · obtain ⟨e, he⟩ := get_lt h
      rw [sN_next he]; exact next_inv ih _ _ _
    · have : sN x es (i + 1) = sN x es i := by unfold sN; rw [List.take_of_length_le (by omega), List.take_of_length_le h]
      rw [this]; exact ih
theorem sN_sh (x : CS) (es : List T3) : ∀ i, (sN x es i).pa = x.pa ∧ (sN x es i).th = x.th ∧ (sN x es i).va = x.va ∧ (sN x es i).vo = x.vo ∧ (sN x es i).lk = x.lk := by
  intro i
  induction i with
  | zero => exact ⟨rfl, rfl, rfl, rfl, rfl⟩
  | succ i ih =>
    rcases Nat.lt_or_ge i es.length with h | h
    · obtain ⟨e, he⟩ := get_lt h
      rw [sN_next he]
      obtain ⟨a, b, c, d, f⟩ := nxF_pa (sN x es i) e.1 e.2.1 e.2.2
      rw [a, b, c, d, f]; exact ih
    · have : sN x es (i + 1) = sN x es i := by unfold sN; rw [List.take_of_length_le (by omega), List.take_of_length_le h]
      rw [this]; exact ih
theorem sN_n (x : CS) (es : List T3) : ∀ i, x.n ≤ (sN x es i).n ∧ (sN x es i).n ≤ x.n + i := by
  intro i
  induction i with
  | zero => rw [sN_zero]; omega
  | succ i ih =>
    rcases Nat.lt_or_ge i es.length with h | h
    · obtain ⟨e, he⟩ := get_lt h
      rw [sN_next he]
      rcases nxF_n (sN x es i) e.1 e.2.1 e.2.2 with h | h <;> rw [h] <;> omega
    · have : sN x es (i + 1) = sN x es i := by unfold sN; rw [List.take_of_length_le (by omega), List.take_of_length_le h]
      rw [this]; omega
/-- All of the first i events can be. -/
def allC (x : CS) (es : List T3) (i : Nat) : Prop := ∀ (j : Nat) (e : T3), j < i → es[j]? = some e → canT (sN x es j) e
theorem allC_zero (x : CS) (es : List T3) : allC x es 0 := fun j e h => by omega
theorem allC_next {x : CS} {es : List T3} {i : Nat} {e : T3} (h : allC x es i) (he : es[i]? = some e) (hc : canT (sN x es i) e) : allC x es (i + 1) := fun j q hj hq => by
  by_cases hji : j = i
  · subst hji; rw [he] at hq; cases hq; exact hc
  · exact h j q (by omega) hq
def leastN : CS → List T3 → Nat
  | _, [] => 0
  | x, e :: es => if canT x e then leastN (nxT x e) es + 1 else 0
theorem leastN_eq : ∀ {es : List T3} {x : CS} {i : Nat}, i ≤ es.length → allC x es i → (∀ e, es[i]? = some e → ¬ canT (sN x es i) e) → leastN x es = i
  | [], x, i, hi, _, _ => by have : i = 0 := by simpa using hi
                             subst this; rfl
  | e :: es, x, 0, hi, hc, hn => if_neg (hn e rfl)
  | e :: es, x, i + 1, hi, hc, hn => by
    unfold leastN
    rw [if_pos (show canT x e from hc 0 e (Nat.succ_pos _) rfl)]
    congr 1
    exact leastN_eq (by simpa using hi) (fun j q hj hq => hc (j + 1) q (by omega) (by simpa using hq)) (fun q hq => hn q (by simpa using hq))
theorem leastN_all {es : List T3} {x : CS} {i : Nat} (h : es.length = i) (hc : allC x es i) : leastN x es = i := leastN_eq (by omega) hc (fun e he => by rw [List.getElem?_eq_none (by omega)] at he; cases he)
theorem leastN_at {es : List T3} {x : CS} {i : Nat} {e : T3} (he : es[i]? = some e) (hc : allC x es i) (hn : ¬ canT (sN x es i) e) : leastN x es = i :=
  leastN_eq (by have := (List.getElem?_eq_some_iff.1 he).1; omega) hc (fun q hq => by rw [he] at hq; cases hq; exact hn)
def lsR (th va vo lk : Int) (pl : List Int) (es : List T3) : Int := if OkS th va vo lk pl then ((leastN (newF th va vo lk pl) es : Nat) : Int) else 0
theorem lsR_at {th va vo lk : Int} {pl : List Int} {es : List T3} {i : Nat} {e : T3} (hok : OkS th va vo lk pl) (he : es[i]? = some e) (hc : allC (newF th va vo lk pl) es i) (hn : ¬ canT (sN (newF th va vo lk pl) es i) e) : lsR th va vo lk pl es = (i : Int) := by
  rw [lsR, if_pos hok, leastN_at he hc hn]
theorem lsR_all {th va vo lk : Int} {pl : List Int} {es : List T3} {i : Nat} (hok : OkS th va vo lk pl) (h : es.length = i) (hc : allC (newF th va vo lk pl) es i) : lsR th va vo lk pl es = (i : Int) := by
  rw [lsR, if_pos hok, leastN_all h hc]
theorem nxE_ne {x : CS} {k t o : Int} (h : nxE x k t o ≠ 0) : ¬ canF x k t o := fun hc => h (if_pos hc)
theorem nxE_eq {x : CS} {k t o : Int} (h : ¬ nxE x k t o ≠ 0) : canF x k t o := Classical.byContradiction fun hc => h (by rw [nxE, if_neg hc]; decide)
theorem rnew_spec (th va vo lk : Int) (pl : List Int) (ao : Option Addr) (n c : Nat) (A : HProp) (hr : RdS A ao (pl.flatMap encZ)) (hn : pl.length = n) (hb : n ≤ 4000000) (hok : OkS th va vo lk pl) : Spec Try.prog 24 [.agg #[.int .i64 th, .int .i64 va, .int .i64 vo, .int .i64 lk, .slice ao n c]] [A] (fun (r : Nat × Option Addr × Nat) => .tuple #[.pointer (some ⟨r.1, 0, none⟩), .int .i64 0]) (fun r => True) (fun r => [A, own 1 encZ r.2.1 r.2.2 pl, rk r.2.1 r.2.2 r.1 (newF th va vo lk pl)]) := by
 refine spec_mk (n := 92) Try.func24 rfl rfl rfl ?_
 intro Γ w0
 simp only [argE, List.cons_append, List.nil_append, Nat.zero_add, Nat.reduceAdd]
 have h1_ := hok.th
 have h2_ := hok.lk
 have h3_ := hok.pl
 refine c_seq ?_
 refine c_plain ((.l 0 [] (.q 1 (.q 2 (.done))))) (by kernel_rfl) ?_
 refine l_box rfl rfl rfl rfl (us := [_, _, _, _, _]) rfl ?_
 intro b1
 refine ag_nil ?_
 refine q_assign rfl rfl rfl rfl ?_
 refine q_assign rfl rfl rfl rfl ?_
 refine r_done ?_
 refine k_then_n ?_
 refine c_seq ?_
 refine c_plain (.q 0 ((.l 1 [] (.q 2 (.done))))) (by kernel_rfl) ?_
 refine q_loadN_c rfl rfl rfl rfl Try.isAgg24 Try.sizeOf24 (by with_reducible (repeat (first | exact Z0 | apply Z1))) 0 (us := [_, _, _, _, _]) (by first | rfl | exact (Nat.add_zero _).symm) rfl rfl ?_
 have sp_1 := rshape_spec th va vo lk pl ao n c A (hr) (by first | rfl | assumption | omega | (simp; done) | (simp; omega)) (by omega)
 refine l_call rfl rfl rfl rfl rfl rfl Try.call33 (sp_1) (by (repeat ((with_reducible apply Z2); focus (first | (with_reducible (repeat (first | exact Z0 | apply Z1)); done) | (repeat (first | exact Z0 | apply Z1))))); exact Z3) ?_
 rintro ⟨⟩ -
 try simp only [List.cons_append, List.nil_append]
 refine ag_nil ?_
 refine s_eq 10 rfl (v' := .int .i64 0) (by rw [if_pos hok]) ?_
 refine q_assign rfl rfl rfl rfl ?_
 refine r_done ?_
 refine s_keep [1, 4] (e' := [(1, _), (4, _)]) rfl ?_
 refine k_then_n ?_
 refine c_seq ?_
 refine c_seq ?_
 refine c_plain (.q 0 (.q 1 (.done))) (by kernel_rfl) ?_
 refine q_move rfl rfl rfl rfl ?_
 refine q_int rfl rfl rfl rfl rfl (b_neq _ _ _ _) ?_
 refine s_eq 12 rfl (v' := .bool false) (by first | rfl | simp) ?_
 refine r_done ?_
 refine k_then_n ?_
 refine c_cond_f rfl ?_
 refine c_skip ?_
 refine k_then_n ?_
 refine c_seq ?_
 refine c_plain (.q 0 (.q 1 ((.l 2 [] (.q 3 (.done)))))) (by kernel_rfl) ?_
 refine q_loadN_c rfl rfl rfl rfl Try.isAgg24 Try.sizeOf24 (by with_reducible (repeat (first | exact Z0 | apply Z1))) 0 (us := [_, _, _, _, _]) (by first | rfl | exact (Nat.add_zero _).symm) rfl rfl ?_
 refine q_build rfl rfl rfl rfl (vs := [_, _, _, _, _, _, _, _, _]) (run_buildS Try.underlying113 Try.zeroValue113 (ps := [(0, 5), (5, 1), (6, 1), (7, 1), (8, 1)]) ⟨rfl, Try.sizeOf24, rfl, Try.sizeOf110, rfl, Try.sizeOf22, rfl, Try.sizeOf111, rfl, Try.sizeOf3, trivial⟩ rfl) ?_
 refine l_box rfl rfl rfl rfl (us := [_, _, _, _, _, _, _, _, _]) rfl ?_
 intro b16
 refine ag_nil ?_
 refine q_assign rfl rfl rfl rfl ?_
 refine r_done ?_
 refine s_keep [1, 5] (e' := [(1, _), (5, _)]) rfl ?_
 refine k_then_n ?_
 refine c_seq ?_
 refine c_plain (.q 0 (.q 1 (.q 2 (.q 3 ((.l 4 [] (.done))))))) (by kernel_rfl) ?_
 refine q_move rfl rfl rfl rfl ?_
 refine q_nil_p rfl rfl rfl rfl ?_
 refine q_field (k := 0) rfl rfl rfl rfl Try.underlying113 rfl Try.sizeOf24 rfl ?_
 refine q_field (k := 4) rfl rfl rfl rfl Try.underlying24 rfl Try.sizeOf22 rfl ?_
 refine l_store (j := 4) rfl rfl rfl rfl Try.sizeOf22 (us := [_]) rfl rfl rfl (by with_reducible (repeat (first | exact Z0 | apply Z1))) (by first | rfl | exact (Nat.add_zero _).symm) (by first | decide | (simp; done) | omega) ?_
 simp only [setL, List.set]
 refine ag_nil ?_
 refine r_done ?_
 refine s_keep [1, 5] (e' := [(1, _), (5, _)]) rfl ?_
 refine k_then_n ?_
 refine c_seq ?_
 refine c_seq ?_
 refine c_plain (.q 0 (.done)) (by kernel_rfl) ?_
 refine q_assign rfl rfl rfl rfl ?_
 refine r_done ?_
 refine k_then_n ?_
 refine c_block ?_
 refine s_heap (fun _ h => own_nil (sz := 1) (enc := encZ) h) ?_
 refine s_heap (fun _ h => own_nil (sz := 2) (enc := enc2) h) ?_
 refine c_loop2 (α := Nat × Option Addr × Nat × Option Addr × Nat) (fun (x_ : Nat × Option Addr × Nat × Option Addr × Nat) => match x_ with | (i, ai, ci, bi, di) => i ≤ n ∧ True) (fun (x_ : Nat × Option Addr × Nat × Option Addr × Nat) => match x_ with | (i, ai, ci, bi, di) => [(6, .int .i64 ((i : Nat) : Int))]) (fun (x_ : Nat × Option Addr × Nat × Option Addr × Nat) => match x_ with | (i, ai, ci, bi, di) => [cells b16 0 [.int .i64 th, .int .i64 va, .int .i64 vo, .int .i64 lk, .slice ai i ci, .slice none 0 0, .slice none 0 0, .slice bi i di, .int .i64 0], own 1 encZ ai ci (pl.take i), own 2 enc2 bi di (List.replicate i ((0 : Int), (0 : Int)))]) (fun (x_ : Nat × Option Addr × Nat × Option Addr × Nat) => match x_ with | (i, ai, ci, bi, di) => n - i) [1, 5] (er := [(1, _), (5, _)]) rfl (0, none, 0, none, 0) ?_ (by exact ⟨rfl, trivial⟩) (by (try dsimp only); (try simp only [Nat.add_zero, Nat.zero_add]); (repeat ((with_reducible apply Z2); focus (first | (with_reducible (repeat (first | exact Z0 | apply Z1)); done) | (repeat (first | exact Z0 | apply Z1))))); exact Z3) ?_
 · exact ⟨Nat.zero_le _, trivial⟩
 rintro ⟨i, ai, ci, bi, di⟩ ⟨hle_i, hz1⟩
 try simp only [List.cons_append, List.nil_append]
 refine c_seq ?_
 refine c_seq ?_
 refine c_plain (.q 0 (.q 1 (.q 2 (.q 3 (.q 4 (.done)))))) (by kernel_rfl) ?_
 refine q_move rfl rfl rfl rfl ?_
 refine q_field (k := 4) rfl rfl rfl rfl Try.underlying24 rfl Try.sizeOf22 rfl ?_
 refine q_load_c (j := 4) rfl rfl rfl rfl Try.isAgg22 (by with_reducible (repeat (first | exact Z0 | apply Z1))) (by first | rfl | exact (Nat.add_zero _).symm) (by rfl) ?_
 refine q_len rfl rfl rfl rfl Try.underlying22 ?_
 refine q_int rfl rfl rfl rfl rfl (b_lss _ _ _ _) ?_
 refine r_done ?_
 refine s_keep [1, 5, 6, 25] (e' := [(1, _), (5, _), (6, _), (25, _)]) rfl ?_
 refine k_then_n ?_
 refine c_cond_p rfl (fun hlt1 => ?_) (fun hlt1 => ?_)
 ·
  refine c_skip ?_
  refine k_then_n ?_
  refine c_seq ?_
  refine c_block ?_
  refine c_seq ?_
  refine c_draw rfl (.q 0 (.q 1 (.q 2 (.q 3 (.q 4 (.q 5 (.q 6 (.q 7 (.q 8 (.q 9 (.q 10 ((.l 11 [5] ((.l 12 [] (.q 13 (.q 14 (.q 15 ((.l 16 [] (.done))))))))))))))))))))) (by kernel_rfl) ?_
  refine q_move rfl rfl rfl rfl ?_
  refine q_move rfl rfl rfl rfl ?_
  refine q_nil_p rfl rfl rfl rfl ?_
  refine q_field (k := 0) rfl rfl rfl rfl Try.underlying113 rfl Try.sizeOf24 rfl ?_
  refine q_field (k := 4) rfl rfl rfl rfl Try.underlying24 rfl Try.sizeOf22 rfl ?_
  refine q_load_c (j := 4) rfl rfl rfl rfl Try.isAgg22 (by with_reducible (repeat (first | exact Z0 | apply Z1))) (by first | rfl | exact (Nat.add_zero _).symm) (by rfl) ?_
  refine q_field (k := 4) rfl rfl rfl rfl Try.underlying24 rfl Try.sizeOf22 rfl ?_
  refine q_load_c (j := 4) rfl rfl rfl rfl Try.isAgg22 (by with_reducible (repeat (first | exact Z0 | apply Z1))) (by first | rfl | exact (Nat.add_zero _).symm) (by rfl) ?_
  refine q_move rfl rfl rfl rfl ?_
  obtain ⟨p, hp⟩ := get_lt (l := pl) (i := i) (by first | omega | (simp; done) | (simp; omega))
  refine q_idxR (sz := 0) (k := i) rfl rfl rfl rfl rfl Try.underlying22 Try.sizeOf3 (hr) hp encZ_len (by first | rfl | omega) (by omega) ?_
  intro ib37 io37 _ hd37
  refine q_load rfl rfl rfl rfl Try.isAgg3 (by with_reducible (repeat (first | exact Z0 | apply Z1))) (hd37 0 (.int .i64 p) rfl) ?_
  refine l_buildSlice rfl rfl rfl rfl (run_build1 (us := [_]) Try.underlying22 Try.sizeOf3 rfl Try.zeroValue3 rfl rfl rfl) ?_
  intro b39
  refine ag_load_c (q := 4) rfl rfl rfl Try.isAgg22 (by with_reducible (repeat (first | exact Z0 | apply Z1))) (by first | rfl | exact (Nat.add_zero _).symm) (by rfl) ?_
  refine ag_nil ?_
  refine l_append (sz := 1) (enc := encZ) (xs := (pl.take i)) rfl rfl rfl rfl rfl Try.underlying22 Try.typeInfo3 rfl rfl rfl (by decide) (by with_reducible (repeat (first | exact Z0 | apply Z1))) (by with_reducible (repeat (first | exact Z0 | apply Z1))) (by first | rfl | omega | (simp; done) | (simp; omega)) (ys := [p]) (rds_some rdn_cells) (by rfl) (by first | rfl | omega) (encZ_len) (encZ_one) (by omega) (by show _ * 8 ≤ _; omega) ?_
  intro ao40 cp40
  refine ag_nil ?_
  refine q_nil_p rfl rfl rfl rfl ?_
  refine q_field (k := 0) rfl rfl rfl rfl Try.underlying113 rfl Try.sizeOf24 rfl ?_
  refine q_field (k := 4) rfl rfl rfl rfl Try.underlying24 rfl Try.sizeOf22 rfl ?_
  refine l_store (j := 4) rfl rfl rfl rfl Try.sizeOf22 (us := [_]) rfl rfl rfl (by with_reducible (repeat (first | exact Z0 | apply Z1))) (by first | rfl | exact (Nat.add_zero _).symm) (by first | decide | (simp; done) | omega) ?_
  simp only [setL, List.set]
  refine ag_nil ?_
  refine r_done ?_
  refine s_keep [1, 5, 6] (e' := [(1, _), (5, _), (6, _)]) rfl ?_
  refine k_then_n ?_
  refine c_plain (.q 0 (.q 1 (.q 2 (.q 3 (.q 4 (.q 5 ((.l 6 [] ((.l 7 [] (.q 8 (.q 9 ((.l 10 [] (.done))))))))))))))) (by kernel_rfl) ?_
  refine q_move rfl rfl rfl rfl ?_
  refine q_move rfl rfl rfl rfl ?_
  refine q_nil_p rfl rfl rfl rfl ?_
  refine q_field (k := 7) rfl rfl rfl rfl Try.underlying113 rfl Try.sizeOf111 rfl ?_
  refine q_load_c (j := 7) rfl rfl rfl rfl Try.isAgg111 (by with_reducible (repeat (first | exact Z0 | apply Z1))) (by first | rfl | exact (Nat.add_zero _).symm) (by rfl) ?_
  refine q_build rfl rfl rfl rfl (vs := [_, _]) (run_buildS Try.underlying74 Try.zeroValue74 (ps := [(0, 1), (1, 1)]) ⟨rfl, Try.sizeOf3, rfl, Try.sizeOf3, trivial⟩ rfl) ?_
  refine l_buildSlice rfl rfl rfl rfl (run_build1 (us := [_, _]) Try.underlying111 Try.sizeOf74 rfl Try.zeroValue74 rfl rfl rfl) ?_
  intro b50
  refine ag_nil ?_
  refine l_append (sz := 2) (enc := enc2) (xs := (List.replicate i ((0 : Int), (0 : Int)))) rfl rfl rfl rfl rfl Try.underlying111 Try.typeInfo74 rfl rfl rfl (by decide) (by with_reducible (repeat (first | exact Z0 | apply Z1))) (by with_reducible (repeat (first | exact Z0 | apply Z1))) (by first | rfl | omega | (simp; done) | (simp; omega)) (ys := [(0, 0)]) (rds_some rdn_cells) (by rfl) (by first | rfl | omega) (enc2_len) (enc2_one) (by omega) (by show _ * 16 ≤ _; omega) ?_
  intro ao51 cp51
  refine ag_nil ?_
  refine q_nil_p rfl rfl rfl rfl ?_
  refine q_field (k := 7) rfl rfl rfl rfl Try.underlying113 rfl Try.sizeOf111 rfl ?_
  refine l_store (j := 7) rfl rfl rfl rfl Try.sizeOf111 (us := [_]) rfl rfl rfl (by with_reducible (repeat (first | exact Z0 | apply Z1))) (by first | rfl | exact (Nat.add_zero _).symm) (by first | decide | (simp; done) | omega) ?_
  simp only [setL, List.set]
  refine ag_nil ?_
  refine r_done ?_
  refine s_keep [1, 5, 6] (e' := [(1, _), (5, _), (6, _)]) rfl ?_
  refine k_blk_n ?_
  refine k_then_n ?_
  refine c_plain (.q 0 (.q 1 (.q 2 (.done)))) (by kernel_rfl) ?_
  refine q_move rfl rfl rfl rfl ?_
  refine q_int rfl rfl rfl rfl rfl (b_add' _ (by exact fits_i64 (by omega) (by omega))) ?_
  refine q_assign rfl rfl rfl rfl ?_
  refine r_done ?_
  refine k_then_n ?_
  rw [← take_next hp, ← List.replicate_succ']
  refine loop_next (x := (i, ai, ci, bi, di)) ((i + 1, ao40, cp40, ao51, cp51)) ?_ ?_ ?_ ?_
  · try dsimp only
    exact ⟨by omega, trivial⟩
  · show n - (i + 1) < n - i; omega
  · exact ⟨rfl, rfl, rfl, trivial⟩
  · (try simp only [List.cons_append, List.nil_append]); (repeat ((with_reducible apply Z2); focus (first | (with_reducible (repeat (first | exact Z0 | apply Z1)); done) | (repeat (first | exact Z0 | apply Z1))))); (repeat (first | exact Z3 | exact Takes.self | refine takes_drop2 ?_))
 ·
  refine c_exit ?_
  refine k_then_exit ?_
  refine k_then_exit ?_
  refine k_blk_here ?_
  refine k_then_n ?_
  refine c_seq ?_
  refine c_seq ?_
  refine c_plain (.q 0 (.done)) (by kernel_rfl) ?_
  refine q_assign rfl rfl rfl rfl ?_
  refine r_done ?_
  refine k_then_n ?_
  refine c_block ?_
  refine s_heap (fun _ h => own_nil (sz := 3) (enc := enc3) h) ?_
  refine c_loop2 (α := Nat × Option Addr × Nat) (fun (x_ : Nat × Option Addr × Nat) => match x_ with | (j, aj, cj) => j ≤ th.toNat ∧ True) (fun (x_ : Nat × Option Addr × Nat) => match x_ with | (j, aj, cj) => [(7, .int .i64 ((j : Nat) : Int))]) (fun (x_ : Nat × Option Addr × Nat) => match x_ with | (j, aj, cj) => [cells b16 0 [.int .i64 th, .int .i64 va, .int .i64 vo, .int .i64 lk, .slice ai i ci, .slice aj j cj, .slice none 0 0, .slice bi i di, .int .i64 0], own 1 encZ ai ci (pl.take i), own 3 enc3 aj cj (List.replicate j ((0 : Int), (0 : Int), (0 : Int))), own 2 enc2 bi di (List.replicate i ((0 : Int), (0 : Int)))]) (fun (x_ : Nat × Option Addr × Nat) => match x_ with | (j, aj, cj) => th.toNat - j) [1, 5] (er := [(1, _), (5, _)]) rfl (0, none, 0) ?_ (by exact ⟨rfl, trivial⟩) (by (try dsimp only); (try simp only [Nat.add_zero, Nat.zero_add]); (repeat ((with_reducible apply Z2); focus (first | (with_reducible (repeat (first | exact Z0 | apply Z1)); done) | (repeat (first | exact Z0 | apply Z1))))); exact Z3) ?_
  · exact ⟨Nat.zero_le _, trivial⟩
  rintro ⟨j, aj, cj⟩ ⟨hle_j, hz2⟩
  try simp only [List.cons_append, List.nil_append]
  refine c_seq ?_
  refine c_seq ?_
  refine c_plain (.q 0 (.q 1 (.q 2 (.q 3 (.done))))) (by kernel_rfl) ?_
  refine q_move rfl rfl rfl rfl ?_
  refine q_field (k := 0) rfl rfl rfl rfl Try.underlying24 rfl Try.sizeOf3 rfl ?_
  refine q_load_c (j := 0) rfl rfl rfl rfl Try.isAgg3 (by with_reducible (repeat (first | exact Z0 | apply Z1))) (by first | rfl | exact (Nat.add_zero _).symm) (by rfl) ?_
  refine q_int rfl rfl rfl rfl rfl (b_lss _ _ _ _) ?_
  refine r_done ?_
  refine k_then_n ?_
  refine c_cond_p rfl (fun hlt2 => ?_) (fun hlt2 => ?_)
  ·
   refine c_skip ?_
   refine k_then_n ?_
   refine c_seq ?_
   refine c_block ?_
   refine c_plain (.q 0 (.q 1 (.q 2 (.q 3 (.q 4 (.q 5 ((.l 6 [] ((.l 7 [] (.q 8 (.q 9 ((.l 10 [] (.done))))))))))))))) (by kernel_rfl) ?_
   refine q_move rfl rfl rfl rfl ?_
   refine q_move rfl rfl rfl rfl ?_
   refine q_nil_p rfl rfl rfl rfl ?_
   refine q_field (k := 5) rfl rfl rfl rfl Try.underlying113 rfl Try.sizeOf110 rfl ?_
   refine q_load_c (j := 5) rfl rfl rfl rfl Try.isAgg110 (by with_reducible (repeat (first | exact Z0 | apply Z1))) (by first | rfl | exact (Nat.add_zero _).symm) (by rfl) ?_
   refine q_build rfl rfl rfl rfl (vs := [_, _, _]) (run_buildS Try.underlying79 Try.zeroValue79 (ps := [(0, 1), (1, 1), (2, 1)]) ⟨rfl, Try.sizeOf77, rfl, Try.sizeOf3, rfl, Try.sizeOf3, trivial⟩ rfl) ?_
   refine l_buildSlice rfl rfl rfl rfl (run_build1 (us := [_, _, _]) Try.underlying110 Try.sizeOf79 rfl Try.zeroValue79 rfl rfl rfl) ?_
   intro b66
   refine ag_nil ?_
   refine l_append (sz := 3) (enc := enc3) (xs := (List.replicate j ((0 : Int), (0 : Int), (0 : Int)))) rfl rfl rfl rfl rfl Try.underlying110 Try.typeInfo79 rfl rfl rfl (by decide) (by with_reducible (repeat (first | exact Z0 | apply Z1))) (by with_reducible (repeat (first | exact Z0 | apply Z1))) (by first | rfl | omega | (simp; done) | (simp; omega)) (ys := [(0, 0, 0)]) (rds_some rdn_cells) (by rfl) (by first | rfl | omega) (enc3_len) (enc3_one) (by omega) (by show _ * 24 ≤ _; omega) ?_
   intro ao67 cp67
   refine ag_nil ?_
   refine q_nil_p rfl rfl rfl rfl ?_
   refine q_field (k := 5) rfl rfl rfl rfl Try.underlying113 rfl Try.sizeOf110 rfl ?_
   refine l_store (j := 5) rfl rfl rfl rfl Try.sizeOf110 (us := [_]) rfl rfl rfl (by with_reducible (repeat (first | exact Z0 | apply Z1))) (by first | rfl | exact (Nat.add_zero _).symm) (by first | decide | (simp; done) | omega) ?_
   simp only [setL, List.set]
   refine ag_nil ?_
   refine r_done ?_
   refine s_keep [1, 5, 7] (e' := [(1, _), (5, _), (7, _)]) rfl ?_
   refine k_blk_n ?_
   refine k_then_n ?_
   refine c_plain (.q 0 (.q 1 (.q 2 (.done)))) (by kernel_rfl) ?_
   refine q_move rfl rfl rfl rfl ?_
   refine q_int rfl rfl rfl rfl rfl (b_add' _ (by exact fits_i64 (by omega) (by omega))) ?_
   refine q_assign rfl rfl rfl rfl ?_
   refine r_done ?_
   refine k_then_n ?_
   rw [← List.replicate_succ']
   refine loop_next (x := (j, aj, cj)) ((j + 1, ao67, cp67)) ?_ ?_ ?_ ?_
   · try dsimp only
     exact ⟨by omega, trivial⟩
   · show th.toNat - (j + 1) < th.toNat - j; omega
   · exact ⟨rfl, rfl, rfl, trivial⟩
   · (try simp only [List.cons_append, List.nil_append]); (repeat ((with_reducible apply Z2); focus (first | (with_reducible (repeat (first | exact Z0 | apply Z1)); done) | (repeat (first | exact Z0 | apply Z1))))); (repeat (first | exact Z3 | exact Takes.self | refine takes_drop2 ?_))
  ·
   refine c_exit ?_
   refine k_then_exit ?_
   refine k_then_exit ?_
   refine k_blk_here ?_
   refine k_then_n ?_
   refine c_seq ?_
   have hj0 : j = th.toNat := by omega
   obtain ⟨z0, hz0⟩ := get_lt (l := List.replicate j ((0 : Int), (0 : Int), (0 : Int))) (i := 0) (by simp; omega)
   obtain rfl : z0 = (0, 0, 0) := (List.mem_replicate.1 (List.mem_of_getElem? hz0)).2
   refine c_plain (.q 0 (.q 1 (.q 2 (.q 3 (.q 4 (.q 5 ((.l 6 [] (.done))))))))) (by kernel_rfl) ?_
   refine q_move rfl rfl rfl rfl ?_
   refine q_nil_p rfl rfl rfl rfl ?_
   refine q_field (k := 5) rfl rfl rfl rfl Try.underlying113 rfl Try.sizeOf110 rfl ?_
   refine q_load_c (j := 5) rfl rfl rfl rfl Try.isAgg110 (by with_reducible (repeat (first | exact Z0 | apply Z1))) (by first | rfl | exact (Nat.add_zero _).symm) (by rfl) ?_
   refine q_idxO (sz := 2) (k := 0) (enc := enc3) (xs := (List.replicate j ((0 : Int), (0 : Int), (0 : Int)))) rfl rfl rfl rfl rfl Try.underlying110 Try.sizeOf79 hz0 (by first | rfl | omega) (by omega) (by with_reducible (repeat (first | exact Z0 | apply Z1))) ?_
   intro ib74 io74 ha74 hl74 hc74
   refine q_field (k := 0) rfl rfl rfl rfl Try.underlying79 rfl Try.sizeOf77 rfl ?_
   refine l_store_O (j := 0) (k := 0) (q := (1, 0, 0)) (enc := enc3) (off := io74) rfl rfl rfl rfl Try.sizeOf77 (us := [_]) rfl rfl rfl ha74 enc3_len hz0 (by with_reducible (repeat (first | exact Z0 | apply Z1))) (by first | rfl | exact (Nat.add_zero _).symm | omega) (by first | decide | exact Nat.le_of_ble_eq_true rfl) (by rfl) ?_
   refine ag_nil ?_
   refine r_done ?_
   refine s_keep [1, 5] (e' := [(1, _), (5, _)]) rfl ?_
   refine k_then_n ?_
   refine c_seq ?_
   refine c_seq ?_
   refine c_plain (.q 0 (.done)) (by kernel_rfl) ?_
   refine q_assign rfl rfl rfl rfl ?_
   refine r_done ?_
   refine k_then_n ?_
   refine c_block ?_
   refine s_heap (fun _ h => own_nil (sz := 1) (enc := encZ) h) ?_
   refine c_loop2 (α := Nat × Option Addr × Nat) (fun (x_ : Nat × Option Addr × Nat) => match x_ with | (m, am, cm) => m ≤ lk.toNat ∧ True) (fun (x_ : Nat × Option Addr × Nat) => match x_ with | (m, am, cm) => [(8, .int .i64 ((m : Nat) : Int))]) (fun (x_ : Nat × Option Addr × Nat) => match x_ with | (m, am, cm) => [cells b16 0 [.int .i64 th, .int .i64 va, .int .i64 vo, .int .i64 lk, .slice ai i ci, .slice aj j cj, .slice am m cm, .slice bi i di, .int .i64 0], own 1 encZ ai ci (pl.take i), own 3 enc3 aj cj ((List.replicate j ((0 : Int), (0 : Int), (0 : Int))).set 0 (1, 0, 0)), own 1 encZ am cm (List.replicate m (-1 : Int)), own 2 enc2 bi di (List.replicate i ((0 : Int), (0 : Int)))]) (fun (x_ : Nat × Option Addr × Nat) => match x_ with | (m, am, cm) => lk.toNat - m) [1, 5] (er := [(1, _), (5, _)]) rfl (0, none, 0) ?_ (by exact ⟨rfl, trivial⟩) (by (try dsimp only); (try simp only [Nat.add_zero, Nat.zero_add]); (repeat ((with_reducible apply Z2); focus (first | (with_reducible (repeat (first | exact Z0 | apply Z1)); done) | (repeat (first | exact Z0 | apply Z1))))); exact Z3) ?_
   · exact ⟨Nat.zero_le _, trivial⟩
   rintro ⟨m, am, cm⟩ ⟨hle_m, hz3⟩
   try simp only [List.cons_append, List.nil_append]
   refine c_seq ?_
   refine c_seq ?_
   refine c_plain (.q 0 (.q 1 (.q 2 (.q 3 (.done))))) (by kernel_rfl) ?_
   refine q_move rfl rfl rfl rfl ?_
   refine q_field (k := 3) rfl rfl rfl rfl Try.underlying24 rfl Try.sizeOf3 rfl ?_
   refine q_load_c (j := 3) rfl rfl rfl rfl Try.isAgg3 (by with_reducible (repeat (first | exact Z0 | apply Z1))) (by first | rfl | exact (Nat.add_zero _).symm) (by rfl) ?_
   refine q_int rfl rfl rfl rfl rfl (b_lss _ _ _ _) ?_
   refine r_done ?_
   refine k_then_n ?_
   refine c_cond_p rfl (fun hlt3 => ?_) (fun hlt3 => ?_)
   ·
    refine c_skip ?_
    refine k_then_n ?_
    refine c_seq ?_
    refine c_block ?_
    refine c_plain (.q 0 (.q 1 (.q 2 (.q 3 (.q 4 ((.l 5 [] ((.l 6 [] (.q 7 (.q 8 ((.l 9 [] (.done)))))))))))))) (by kernel_rfl) ?_
    refine q_move rfl rfl rfl rfl ?_
    refine q_move rfl rfl rfl rfl ?_
    refine q_nil_p rfl rfl rfl rfl ?_
    refine q_field (k := 6) rfl rfl rfl rfl Try.underlying113 rfl Try.sizeOf22 rfl ?_
    refine q_load_c (j := 6) rfl rfl rfl rfl Try.isAgg22 (by with_reducible (repeat (first | exact Z0 | apply Z1))) (by first | rfl | exact (Nat.add_zero _).symm) (by rfl) ?_
    refine l_buildSlice rfl rfl rfl rfl (run_build1 (us := [_]) Try.underlying22 Try.sizeOf3 rfl Try.zeroValue3 rfl rfl rfl) ?_
    intro b87
    refine ag_nil ?_
    refine l_append (sz := 1) (enc := encZ) (xs := (List.replicate m (-1 : Int))) rfl rfl rfl rfl rfl Try.underlying22 Try.typeInfo3 rfl rfl rfl (by decide) (by with_reducible (repeat (first | exact Z0 | apply Z1))) (by with_reducible (repeat (first | exact Z0 | apply Z1))) (by first | rfl | omega | (simp; done) | (simp; omega)) (ys := [(-1)]) (rds_some rdn_cells) (by rfl) (by first | rfl | omega) (encZ_len) (encZ_one) (by omega) (by show _ * 8 ≤ _; omega) ?_
    intro ao88 cp88
    refine ag_nil ?_
    refine q_nil_p rfl rfl rfl rfl ?_
    refine q_field (k := 6) rfl rfl rfl rfl Try.underlying113 rfl Try.sizeOf22 rfl ?_
    refine l_store (j := 6) rfl rfl rfl rfl Try.sizeOf22 (us := [_]) rfl rfl rfl (by with_reducible (repeat (first | exact Z0 | apply Z1))) (by first | rfl | exact (Nat.add_zero _).symm) (by first | decide | (simp; done) | omega) ?_
    simp only [setL, List.set]
    refine ag_nil ?_
    refine r_done ?_
    refine s_keep [1, 5, 8] (e' := [(1, _), (5, _), (8, _)]) rfl ?_
    refine k_blk_n ?_
    refine k_then_n ?_
    refine c_plain (.q 0 (.q 1 (.q 2 (.done)))) (by kernel_rfl) ?_
    refine q_move rfl rfl rfl rfl ?_
    refine q_int rfl rfl rfl rfl rfl (b_add' _ (by exact fits_i64 (by omega) (by omega))) ?_
    refine q_assign rfl rfl rfl rfl ?_
    refine r_done ?_
    refine k_then_n ?_
    rw [← List.replicate_succ']
    refine loop_next (x := (m, am, cm)) ((m + 1, ao88, cp88)) ?_ ?_ ?_ ?_
    · try dsimp only
      exact ⟨by omega, trivial⟩
    · show lk.toNat - (m + 1) < lk.toNat - m; omega
    · exact ⟨rfl, rfl, rfl, trivial⟩
    · (try simp only [List.cons_append, List.nil_append]); (repeat ((with_reducible apply Z2); focus (first | (with_reducible (repeat (first | exact Z0 | apply Z1)); done) | (repeat (first | exact Z0 | apply Z1))))); (repeat (first | exact Z3 | exact Takes.self | refine takes_drop2 ?_))
   ·
    refine c_exit ?_
    refine k_then_exit ?_
    refine k_then_exit ?_
    refine k_blk_here ?_
    refine k_then_n ?_
    refine c_seq ?_
    refine c_plain (.q 0 (.q 1 (.q 2 (.done)))) (by kernel_rfl) ?_
    refine q_move rfl rfl rfl rfl ?_
    refine q_assign rfl rfl rfl rfl ?_
    refine q_assign rfl rfl rfl rfl ?_
    refine r_done ?_
    refine s_keep [2, 3] (e' := [(2, _), (3, _)]) rfl ?_
    refine k_then_n ?_
    refine c_ret ?_
    obtain rfl : i = n := by omega
    obtain rfl : j = th.toNat := hj0
    obtain rfl : m = lk.toNat := by omega
    subst hn
    rw [List.take_length]
    refine rk_fold (b := b16) (newF th va vo lk pl) (pa := ai) (pc := ci) (ta := aj) (tc := cj) (oa := am) (oc := cm) (ba := bi) (bc := di) (by (repeat ((with_reducible apply Z2); focus (first | (with_reducible (repeat (first | exact Z0 | apply Z1)); done) | (repeat (first | exact Z0 | apply Z1))))); exact Z3) (by rfl) (by simp [newF]) (by simp [newF]) (by simp [newF]) ?_
    refine ret2 rfl rfl rfl ((b16, ai, ci)) (by first | rfl | (first | rfl | (congr 1; done) | (congr 1 <;> first | rfl | omega | (simp; done) | (simp; omega)))) (by trivial) ?_
    (repeat ((with_reducible apply Z2); focus (first | (with_reducible (repeat (first | exact Z0 | apply Z1)); done) | (repeat (first | exact Z0 | apply Z1))))); (repeat (first | exact Z3 | exact Takes.self | refine takes_drop2 ?_))

theorem rnewbad_spec (th va vo lk : Int) (pl : List Int) (ao : Option Addr) (n c : Nat) (A : HProp) (hr : RdS A ao (pl.flatMap encZ)) (hn : pl.length = n) (hb : n ≤ 4000000) (hok : ¬ OkS th va vo lk pl) : Spec Try.prog 24 [.agg #[.int .i64 th, .int .i64 va, .int .i64 vo, .int .i64 lk, .slice ao n c]] [A] (fun (_ : Unit) => .tuple #[.pointer none, .int .i64 5]) (fun _ => True) (fun _ => [A]) := by
 refine spec_mk (n := 92) Try.func24 rfl rfl rfl ?_
 intro Γ w0
 simp only [argE, List.cons_append, List.nil_append, Nat.zero_add, Nat.reduceAdd]
 refine c_seq ?_
 refine c_plain ((.l 0 [] (.q 1 (.q 2 (.done))))) (by kernel_rfl) ?_
 refine l_box rfl rfl rfl rfl (us := [_, _, _, _, _]) rfl ?_
 intro b1
 refine ag_nil ?_
 refine q_assign rfl rfl rfl rfl ?_
 refine q_assign rfl rfl rfl rfl ?_
 refine r_done ?_
 refine k_then_n ?_
 refine c_seq ?_
 refine c_plain (.q 0 ((.l 1 [] (.q 2 (.done))))) (by kernel_rfl) ?_
 refine q_loadN_c rfl rfl rfl rfl Try.isAgg24 Try.sizeOf24 (by with_reducible (repeat (first | exact Z0 | apply Z1))) 0 (us := [_, _, _, _, _]) (by first | rfl | exact (Nat.add_zero _).symm) rfl rfl ?_
 have sp_1 := rshape_spec th va vo lk pl ao n c A (hr) (by first | rfl | assumption | omega | (simp; done) | (simp; omega)) (by omega)
 refine l_call rfl rfl rfl rfl rfl rfl Try.call33 (sp_1) (by (repeat ((with_reducible apply Z2); focus (first | (with_reducible (repeat (first | exact Z0 | apply Z1)); done) | (repeat (first | exact Z0 | apply Z1))))); exact Z3) ?_
 rintro ⟨⟩ -
 try simp only [List.cons_append, List.nil_append]
 refine ag_nil ?_
 refine s_eq 10 rfl (v' := .int .i64 5) (by rw [if_neg hok]) ?_
 refine q_assign rfl rfl rfl rfl ?_
 refine r_done ?_
 refine s_keep [1, 4] (e' := [(1, _), (4, _)]) rfl ?_
 refine k_then_n ?_
 refine c_seq ?_
 refine c_seq ?_
 refine c_plain (.q 0 (.q 1 (.done))) (by kernel_rfl) ?_
 refine q_move rfl rfl rfl rfl ?_
 refine q_int rfl rfl rfl rfl rfl (b_neq _ _ _ _) ?_
 refine s_eq 12 rfl (v' := .bool true) (by first | rfl | simp) ?_
 refine r_done ?_
 refine k_then_n ?_
 refine c_cond_t rfl ?_
 refine c_seq ?_
 refine c_plain (.q 0 (.q 1 (.q 2 (.done)))) (by kernel_rfl) ?_
 refine q_move rfl rfl rfl rfl ?_
 refine q_assign rfl rfl rfl rfl ?_
 refine q_assign rfl rfl rfl rfl ?_
 refine r_done ?_
 refine s_keep [2, 3] (e' := [(2, _), (3, _)]) rfl ?_
 refine k_then_n ?_
 refine c_ret ?_
 refine k_then_ret ?_
 refine ret2 rfl rfl rfl (()) (by first | rfl | (first | rfl | (congr 1; done) | (congr 1 <;> first | rfl | omega | (simp; done) | (simp; omega)))) (by trivial) ?_
 (repeat ((with_reducible apply Z2); focus (first | (with_reducible (repeat (first | exact Z0 | apply Z1)); done) | (repeat (first | exact Z0 | apply Z1))))); (repeat (first | exact Z3 | exact Takes.self | refine takes_drop2 ?_))




end Go.Ab.Fe
