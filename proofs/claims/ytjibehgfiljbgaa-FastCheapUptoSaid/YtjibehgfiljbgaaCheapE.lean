/- What the law Cheap rests on, part 5 of 5. -/
import Derived.Test.YtjibehgfiljbgaaCheapD
import Derived.Test.YtjibehgfiljbgaaRows
import Derived.WalkKit
import Derived.ProofKit
import Derived.OpenShut
import Derived.JoinedCond
import Derived.Carry
set_option linter.unusedVariables false
set_option linter.unusedSimpArgs false
set_option maxRecDepth 100000
namespace Go.Ab.Fe
open Go Go.Proofs Go.Ab
abbrev nxT (x : CS) (e : T3) : CS := nxF x e.1 e.2.1 e.2.2
abbrev canT (x : CS) (e : T3) : Prop := canF x e.1 e.2.1 e.2.2
/-- Behind the first i events, those that cannot be next left out. -/
def sN (x : CS) (es : List T3) (i : Nat) : CS := (es.take i).foldl nxT x
theorem sN_zero (x : CS) (es : List T3) : sN x es 0 = x := rfl
theorem sN_next {x : CS} {es : List T3} {i : Nat} {e : T3} (h : es[i]? = some e) : sN x es (i + 1) = nxF (sN x es i) e.1 e.2.1 e.2.2 := by
  unfold sN; rw [take_next h, List.foldl_append]; rfl
theorem sN_cons (x : CS) (e : T3) (es : List T3) (i : Nat) : sN x (e :: es) (i + 1) = sN (nxT x e) es i := rfl
theorem nxF_pa (x : CS) (k t o : Int) : (nxF x k t o).pa = x.pa ∧ (nxF x k t o).th = x.th ∧ (nxF x k t o).va = x.va ∧ (nxF x k t o).vo = x.vo ∧ (nxF x k t o).lk = x.lk := by
  unfold nxF nextF; split
  · repeat' split
    all_goals exact ⟨rfl, rfl, rfl, rfl, rfl⟩
  · exact ⟨rfl, rfl, rfl, rfl, rfl⟩
theorem nxF_n (x : CS) (k t o : Int) : (nxF x k t o).n = x.n ∨ (nxF x k t o).n = x.n + 1 := by
  unfold nxF nextF; split
  · repeat' split
    all_goals exact .inr rfl
  · exact .inl rfl
theorem sN_inv {x : CS} (hx : CInv x) (es : List T3) : ∀ i, CInv (sN x es i) := by
  intro i
  induction i with
  | zero => exact hx
  | succ i ih =>
    rcases Nat.lt_or_ge i es.length with h | h
    · obtain ⟨e, he⟩ := get_lt h
      rw [sN_next he]; exact next_inv ih _ _ _
    · have : sN x es (i + 1) = sN x es i := by unfold sN; rw [List.take_of_length_le (by omega), List.take_of_length_le h]
      rw [this]; exact ih
theorem sN_sh (x : CS) (es : List T3) : ∀ i, (sN x es i).pa = x.pa ∧ (sN x es i).th = x.th ∧ (sN x es i).va = x.va ∧ (sN x es i).vo = x.vo ∧ (sN x es i).lk = x.lk := by
  intro i
  induction i with
  | zero => exact ⟨rfl, rfl, rfl, rfl, rfl⟩
  | succ i ih =>
    rcases Nat.lt_or_ge i es.length with h | h
    · obtain ⟨e, he⟩ := get_lt h
      rw [sN_next he]
      obtain ⟨a, b, c, d, f⟩ := nxF_pa (sN x es i) e.1 e.2.1 e.2.2
      rw [a, b, c, d, f]; exact ih
    · have : sN x es (i + 1) = sN x es i := by unfold sN; rw [List.take_of_length_le (by omega), List.take_of_length_le h]
      rw [this]; exact ih
theorem sN_n (x : CS) (es : List T3) : ∀ i, x.n ≤ (sN x es i).n ∧ (sN x es i).n ≤ x.n + i := by
  intro i
  induction i with
  | zero => rw [sN_zero]; omega
  | succ i ih =>
    rcases Nat.lt_or_ge i es.length with h | h
    · obtain ⟨e, he⟩ := get_lt h
      rw [sN_next he]
      rcases nxF_n (sN x es i) e.1 e.2.1 e.2.2 with h | h <;> rw [h] <;> omega
    · have : sN x es (i + 1) = sN x es i := by unfold sN; rw [List.take_of_length_le (by omega), List.take_of_length_le h]
      rw [this]; omega
/-- All of the first i events can be. -/
def allC (x : CS) (es : List T3) (i : Nat) : Prop := ∀ (j : Nat) (e : T3), j < i → es[j]? = some e → canT (sN x es j) e
def leastN : CS → List T3 → Nat
  | _, [] => 0
  | x, e :: es => if canT x e then leastN (nxT x e) es + 1 else 0
def lsR (th va vo lk : Int) (pl : List Int) (es : List T3) : Int := if OkS th va vo lk pl then ((leastN (newF th va vo lk pl) es : Nat) : Int) else 0
theorem rnew_spec (th va vo lk : Int) (pl : List Int) (ao : Option Addr) (n c : Nat) (A : HProp) (hr : RdS A ao (pl.flatMap encZ)) (hn : pl.length = n) (hb : n ≤ 4000000) (hok : OkS th va vo lk pl) : Spec Try.prog 31 [.agg #[.int .i64 th, .int .i64 va, .int .i64 vo, .int .i64 lk, .slice ao n c]] [A] (fun (r : Nat × Option Addr × Nat) => .tuple #[.pointer (some ⟨r.1, 0, none⟩), .int .i64 0]) (fun r => True) (fun r => [A, own 1 encZ r.2.1 r.2.2 pl, rk r.2.1 r.2.2 r.1 (newF th va vo lk pl)]) := by
 refine spec_mk (n := 92) Try.func31 rfl rfl rfl ?_
 intro Γ w0
 simp only [argE, List.cons_append, List.nil_append, Nat.zero_add, Nat.reduceAdd]
 have h1_ := hok.th
 have h2_ := hok.lk
 have h3_ := hok.pl
 refine c_seq ?_
 refine c_plain ((.l 0 [] (.q 1 (.q 2 (.done))))) (by kernel_rfl) ?_
 refine l_box rfl rfl rfl rfl (us := [_, _, _, _, _]) rfl ?_
 intro b1
 refine ag_nil ?_
 refine q_assign rfl rfl rfl rfl ?_
 refine q_assign rfl rfl rfl rfl ?_
 refine r_done ?_
 refine k_then_n ?_
 refine c_seq ?_
 refine c_plain (.q 0 ((.l 1 [] (.q 2 (.done))))) (by kernel_rfl) ?_
 refine q_loadN_c rfl rfl rfl rfl Try.isAgg25 Try.sizeOf25 Tk 0 (us := [_, _, _, _, _]) (by first | rfl | exact (Nat.add_zero _).symm) rfl rfl ?_
 have sp_1 := rshape_spec th va vo lk pl ao n c A (hr) (by first | rfl | assumption | omega | (simp; done) | (simp; omega)) (by omega)
 refine l_call rfl rfl rfl rfl rfl rfl Try.call75 (sp_1) Ts ?_
 rintro ⟨⟩ -
 try simp only [List.cons_append, List.nil_append]
 refine ag_nil ?_
 refine s_eq 10 rfl (v' := .int .i64 0) (by rw [if_pos hok]) ?_
 refine q_assign rfl rfl rfl rfl ?_
 refine r_done ?_
 refine s_keep [1, 4] (e' := [(1, _), (4, _)]) rfl ?_
 refine k_then_n ?_
 refine c_seq ?_
 refine c_seq ?_
 refine c_plain (.q 0 (.q 1 (.done))) (by kernel_rfl) ?_
 refine q_move rfl rfl rfl rfl ?_
 refine q_int rfl rfl rfl rfl rfl (b_neq _ _ _ _) ?_
 refine s_eq 12 rfl (v' := .bool false) (by first | rfl | simp) ?_
 refine r_done ?_
 refine k_then_n ?_
 refine c_cond_f rfl ?_
 refine c_skip ?_
 refine k_then_n ?_
 refine c_seq ?_
 refine c_plain (.q 0 (.q 1 ((.l 2 [] (.q 3 (.done)))))) (by kernel_rfl) ?_
 refine q_loadN_c rfl rfl rfl rfl Try.isAgg25 Try.sizeOf25 Tk 0 (us := [_, _, _, _, _]) (by first | rfl | exact (Nat.add_zero _).symm) rfl rfl ?_
 refine q_build rfl rfl rfl rfl (vs := [_, _, _, _, _, _, _, _, _]) (run_buildS Try.underlying151 Try.zeroValue151 (ps := [(0, 5), (5, 1), (6, 1), (7, 1), (8, 1)]) ⟨rfl, Try.sizeOf25, rfl, Try.sizeOf149, rfl, Try.sizeOf23, rfl, Try.sizeOf144, rfl, Try.sizeOf3, trivial⟩ rfl) ?_
 refine l_box rfl rfl rfl rfl (us := [_, _, _, _, _, _, _, _, _]) rfl ?_
 intro b16
 refine ag_nil ?_
 refine q_assign rfl rfl rfl rfl ?_
 refine r_done ?_
 refine s_keep [1, 5] (e' := [(1, _), (5, _)]) rfl ?_
 refine k_then_n ?_
 refine c_seq ?_
 refine c_plain (.q 0 (.q 1 (.q 2 (.q 3 ((.l 4 [] (.done))))))) (by kernel_rfl) ?_
 refine q_move rfl rfl rfl rfl ?_
 refine q_nil_p rfl rfl rfl rfl ?_
 refine q_field (k := 0) rfl rfl rfl rfl Try.underlying151 rfl Try.sizeOf25 rfl ?_
 refine q_field (k := 4) rfl rfl rfl rfl Try.underlying25 rfl Try.sizeOf23 rfl ?_
 refine l_store (j := 4) rfl rfl rfl rfl Try.sizeOf23 (us := [_]) rfl rfl rfl Tk (by first | rfl | exact (Nat.add_zero _).symm) (by first | decide | (simp; done) | omega) ?_
 simp only [setL, List.set]
 refine ag_nil ?_
 refine r_done ?_
 refine s_keep [1, 5] (e' := [(1, _), (5, _)]) rfl ?_
 refine k_then_n ?_
 refine c_seq ?_
 refine c_seq ?_
 refine c_plain (.q 0 (.done)) (by kernel_rfl) ?_
 refine q_assign rfl rfl rfl rfl ?_
 refine r_done ?_
 refine k_then_n ?_
 refine c_block ?_
 refine s_heap (fun _ h => own_nil (sz := 1) (enc := encZ) h) ?_
 refine s_heap (fun _ h => own_nil (sz := 2) (enc := enc2) h) ?_
 refine c_loop2 (α := Nat × Option Addr × Nat × Option Addr × Nat) (fun (x_ : Nat × Option Addr × Nat × Option Addr × Nat) => match x_ with | (i, ai, ci, bi, di) => i ≤ n ∧ True) (fun (x_ : Nat × Option Addr × Nat × Option Addr × Nat) => match x_ with | (i, ai, ci, bi, di) => [(6, .int .i64 ((i : Nat) : Int))]) (fun (x_ : Nat × Option Addr × Nat × Option Addr × Nat) => match x_ with | (i, ai, ci, bi, di) => [cells b16 0 [.int .i64 th, .int .i64 va, .int .i64 vo, .int .i64 lk, .slice ai i ci, .slice none 0 0, .slice none 0 0, .slice bi i di, .int .i64 0], own 1 encZ ai ci (pl.take i), own 2 enc2 bi di (List.replicate i ((0 : Int), (0 : Int)))]) (fun (x_ : Nat × Option Addr × Nat × Option Addr × Nat) => match x_ with | (i, ai, ci, bi, di) => n - i) [1, 5] (er := [(1, _), (5, _)]) rfl (0, none, 0, none, 0) ?_ (by exact ⟨rfl, trivial⟩) (by (try dsimp only); (try simp only [Nat.add_zero, Nat.zero_add]); (repeat ((with_reducible apply Z2); focus (first | (with_reducible (repeat (first | exact Z0 | apply Z1)); done) | (repeat (first | exact Z0 | apply Z1))))); exact Z3) ?_
 · exact ⟨Nat.zero_le _, trivial⟩
 rintro ⟨i, ai, ci, bi, di⟩ ⟨hle_i, hz1⟩
 try simp only [List.cons_append, List.nil_append]
 refine c_seq ?_
 refine c_seq ?_
 refine c_plain (.q 0 (.q 1 (.q 2 (.q 3 (.q 4 (.done)))))) (by kernel_rfl) ?_
 refine q_move rfl rfl rfl rfl ?_
 refine q_field (k := 4) rfl rfl rfl rfl Try.underlying25 rfl Try.sizeOf23 rfl ?_
 refine q_load_c (j := 4) rfl rfl rfl rfl Try.isAgg23 Tk (by first | rfl | exact (Nat.add_zero _).symm) (by rfl) ?_
 refine q_len rfl rfl rfl rfl Try.underlying23 ?_
 refine q_int rfl rfl rfl rfl rfl (b_lss _ _ _ _) ?_
 refine r_done ?_
 refine s_keep [1, 5, 6, 25] (e' := [(1, _), (5, _), (6, _), (25, _)]) rfl ?_
 refine k_then_n ?_
 refine c_cond_p rfl (fun hlt1 => ?_) (fun hlt1 => ?_)
 ·
  refine c_skip ?_
  refine k_then_n ?_
  refine c_seq ?_
  refine c_block ?_
  refine c_seq ?_
  refine c_draw rfl (.q 0 (.q 1 (.q 2 (.q 3 (.q 4 (.q 5 (.q 6 (.q 7 (.q 8 (.q 9 (.q 10 ((.l 11 [5] ((.l 12 [] (.q 13 (.q 14 (.q 15 ((.l 16 [] (.done))))))))))))))))))))) (by kernel_rfl) ?_
  refine q_move rfl rfl rfl rfl ?_
  refine q_move rfl rfl rfl rfl ?_
  refine q_nil_p rfl rfl rfl rfl ?_
  refine q_field (k := 0) rfl rfl rfl rfl Try.underlying151 rfl Try.sizeOf25 rfl ?_
  refine q_field (k := 4) rfl rfl rfl rfl Try.underlying25 rfl Try.sizeOf23 rfl ?_
  refine q_load_c (j := 4) rfl rfl rfl rfl Try.isAgg23 Tk (by first | rfl | exact (Nat.add_zero _).symm) (by rfl) ?_
  refine q_field (k := 4) rfl rfl rfl rfl Try.underlying25 rfl Try.sizeOf23 rfl ?_
  refine q_load_c (j := 4) rfl rfl rfl rfl Try.isAgg23 Tk (by first | rfl | exact (Nat.add_zero _).symm) (by rfl) ?_
  refine q_move rfl rfl rfl rfl ?_
  obtain ⟨p, hp⟩ := get_lt (l := pl) (i := i) (by first | omega | (simp; done) | (simp; omega))
  refine q_idxR (sz := 0) (k := i) rfl rfl rfl rfl rfl Try.underlying23 Try.sizeOf3 (hr) hp encZ_len (by first | rfl | omega) (by omega) ?_
  intro ib37 io37 _ hd37
  refine q_load rfl rfl rfl rfl Try.isAgg3 Tk (hd37 0 (.int .i64 p) rfl) ?_
  refine l_buildSlice rfl rfl rfl rfl (run_build1 (us := [_]) Try.underlying23 Try.sizeOf3 rfl Try.zeroValue3 rfl rfl rfl) ?_
  intro b39
  refine ag_load_c (q := 4) rfl rfl rfl Try.isAgg23 Tk (by first | rfl | exact (Nat.add_zero _).symm) (by rfl) ?_
  refine ag_nil ?_
  refine l_append (sz := 1) (enc := encZ) (xs := (pl.take i)) rfl rfl rfl rfl rfl Try.underlying23 Try.typeInfo3 rfl rfl rfl (by decide) Tk Tk (by first | rfl | omega | (simp; done) | (simp; omega)) (ys := [p]) (rds_some rdn_cells) (by rfl) (by first | rfl | omega) (encZ_len) (encZ_one) (by omega) (by show _ * 8 ≤ _; omega) ?_
  intro ao40 cp40
  refine ag_nil ?_
  refine q_nil_p rfl rfl rfl rfl ?_
  refine q_field (k := 0) rfl rfl rfl rfl Try.underlying151 rfl Try.sizeOf25 rfl ?_
  refine q_field (k := 4) rfl rfl rfl rfl Try.underlying25 rfl Try.sizeOf23 rfl ?_
  refine l_store (j := 4) rfl rfl rfl rfl Try.sizeOf23 (us := [_]) rfl rfl rfl Tk (by first | rfl | exact (Nat.add_zero _).symm) (by first | decide | (simp; done) | omega) ?_
  simp only [setL, List.set]
  refine ag_nil ?_
  refine r_done ?_
  refine s_keep [1, 5, 6] (e' := [(1, _), (5, _), (6, _)]) rfl ?_
  refine k_then_n ?_
  refine c_plain (.q 0 (.q 1 (.q 2 (.q 3 (.q 4 (.q 5 ((.l 6 [] ((.l 7 [] (.q 8 (.q 9 ((.l 10 [] (.done))))))))))))))) (by kernel_rfl) ?_
  refine q_move rfl rfl rfl rfl ?_
  refine q_move rfl rfl rfl rfl ?_
  refine q_nil_p rfl rfl rfl rfl ?_
  refine q_field (k := 7) rfl rfl rfl rfl Try.underlying151 rfl Try.sizeOf144 rfl ?_
  refine q_load_c (j := 7) rfl rfl rfl rfl Try.isAgg144 Tk (by first | rfl | exact (Nat.add_zero _).symm) (by rfl) ?_
  refine q_build rfl rfl rfl rfl (vs := [_, _]) (run_buildS Try.underlying153 Try.zeroValue153 (ps := [(0, 1), (1, 1)]) ⟨rfl, Try.sizeOf3, rfl, Try.sizeOf3, trivial⟩ rfl) ?_
  refine l_buildSlice rfl rfl rfl rfl (run_build1 (us := [_, _]) Try.underlying144 Try.sizeOf153 rfl Try.zeroValue153 rfl rfl rfl) ?_
  intro b50
  refine ag_nil ?_
  refine l_append (sz := 2) (enc := enc2) (xs := (List.replicate i ((0 : Int), (0 : Int)))) rfl rfl rfl rfl rfl Try.underlying144 Try.typeInfo153 rfl rfl rfl (by decide) Tk Tk (by first | rfl | omega | (simp; done) | (simp; omega)) (ys := [(0, 0)]) (rds_some rdn_cells) (by rfl) (by first | rfl | omega) (enc2_len) (enc2_one) (by omega) (by show _ * 16 ≤ _; omega) ?_
  intro ao51 cp51
  refine ag_nil ?_
  refine q_nil_p rfl rfl rfl rfl ?_
  refine q_field (k := 7) rfl rfl rfl rfl Try.underlying151 rfl Try.sizeOf144 rfl ?_
  refine l_store (j := 7) rfl rfl rfl rfl Try.sizeOf144 (us := [_]) rfl rfl rfl Tk (by first | rfl | exact (Nat.add_zero _).symm) (by first | decide | (simp; done) | omega) ?_
  simp only [setL, List.set]
  refine ag_nil ?_
  refine r_done ?_
  refine s_keep [1, 5, 6] (e' := [(1, _), (5, _), (6, _)]) rfl ?_
  refine k_blk_n ?_
  refine k_then_n ?_
  refine c_plain (.q 0 (.q 1 (.q 2 (.done)))) (by kernel_rfl) ?_
  refine q_move rfl rfl rfl rfl ?_
  refine q_int rfl rfl rfl rfl rfl (b_add' _ (by exact fits_i64 (by omega) (by omega))) ?_
  refine q_assign rfl rfl rfl rfl ?_
  refine r_done ?_
  refine k_then_n ?_
  rw [← take_next hp, ← List.replicate_succ']
  refine loop_next (x := (i, ai, ci, bi, di)) ((i + 1, ao40, cp40, ao51, cp51)) ?_ ?_ ?_ ?_
  · try dsimp only
    exact ⟨by omega, trivial⟩
  · show n - (i + 1) < n - i; omega
  · exact ⟨rfl, rfl, rfl, trivial⟩
  · (try simp only [List.cons_append, List.nil_append]); exact Tf
 ·
  refine c_exit ?_
  refine k_then_exit ?_
  refine k_then_exit ?_
  refine k_blk_here ?_
  refine k_then_n ?_
  refine c_seq ?_
  refine c_seq ?_
  refine c_plain (.q 0 (.done)) (by kernel_rfl) ?_
  refine q_assign rfl rfl rfl rfl ?_
  refine r_done ?_
  refine k_then_n ?_
  refine c_block ?_
  refine s_heap (fun _ h => own_nil (sz := 3) (enc := enc3) h) ?_
  refine c_loop2 (α := Nat × Option Addr × Nat) (fun (x_ : Nat × Option Addr × Nat) => match x_ with | (j, aj, cj) => j ≤ th.toNat ∧ True) (fun (x_ : Nat × Option Addr × Nat) => match x_ with | (j, aj, cj) => [(7, .int .i64 ((j : Nat) : Int))]) (fun (x_ : Nat × Option Addr × Nat) => match x_ with | (j, aj, cj) => [cells b16 0 [.int .i64 th, .int .i64 va, .int .i64 vo, .int .i64 lk, .slice ai i ci, .slice aj j cj, .slice none 0 0, .slice bi i di, .int .i64 0], own 1 encZ ai ci (pl.take i), own 3 enc3 aj cj (List.replicate j ((0 : Int), (0 : Int), (0 : Int))), own 2 enc2 bi di (List.replicate i ((0 : Int), (0 : Int)))]) (fun (x_ : Nat × Option Addr × Nat) => match x_ with | (j, aj, cj) => th.toNat - j) [1, 5] (er := [(1, _), (5, _)]) rfl (0, none, 0) ?_ (by exact ⟨rfl, trivial⟩) (by (try dsimp only); (try simp only [Nat.add_zero, Nat.zero_add]); (repeat ((with_reducible apply Z2); focus (first | (with_reducible (repeat (first | exact Z0 | apply Z1)); done) | (repeat (first | exact Z0 | apply Z1))))); exact Z3) ?_
  · exact ⟨Nat.zero_le _, trivial⟩
  rintro ⟨j, aj, cj⟩ ⟨hle_j, hz2⟩
  try simp only [List.cons_append, List.nil_append]
  refine c_seq ?_
  refine c_seq ?_
  refine c_plain (.q 0 (.q 1 (.q 2 (.q 3 (.done))))) (by kernel_rfl) ?_
  refine q_move rfl rfl rfl rfl ?_
  refine q_field (k := 0) rfl rfl rfl rfl Try.underlying25 rfl Try.sizeOf3 rfl ?_
  refine q_load_c (j := 0) rfl rfl rfl rfl Try.isAgg3 Tk (by first | rfl | exact (Nat.add_zero _).symm) (by rfl) ?_
  refine q_int rfl rfl rfl rfl rfl (b_lss _ _ _ _) ?_
  refine r_done ?_
  refine k_then_n ?_
  refine c_cond_p rfl (fun hlt2 => ?_) (fun hlt2 => ?_)
  ·
   refine c_skip ?_
   refine k_then_n ?_
   refine c_seq ?_
   refine c_block ?_
   refine c_plain (.q 0 (.q 1 (.q 2 (.q 3 (.q 4 (.q 5 ((.l 6 [] ((.l 7 [] (.q 8 (.q 9 ((.l 10 [] (.done))))))))))))))) (by kernel_rfl) ?_
   refine q_move rfl rfl rfl rfl ?_
   refine q_move rfl rfl rfl rfl ?_
   refine q_nil_p rfl rfl rfl rfl ?_
   refine q_field (k := 5) rfl rfl rfl rfl Try.underlying151 rfl Try.sizeOf149 rfl ?_
   refine q_load_c (j := 5) rfl rfl rfl rfl Try.isAgg149 Tk (by first | rfl | exact (Nat.add_zero _).symm) (by rfl) ?_
   refine q_build rfl rfl rfl rfl (vs := [_, _, _]) (run_buildS Try.underlying107 Try.zeroValue107 (ps := [(0, 1), (1, 1), (2, 1)]) ⟨rfl, Try.sizeOf105, rfl, Try.sizeOf3, rfl, Try.sizeOf3, trivial⟩ rfl) ?_
   refine l_buildSlice rfl rfl rfl rfl (run_build1 (us := [_, _, _]) Try.underlying149 Try.sizeOf107 rfl Try.zeroValue107 rfl rfl rfl) ?_
   intro b66
   refine ag_nil ?_
   refine l_append (sz := 3) (enc := enc3) (xs := (List.replicate j ((0 : Int), (0 : Int), (0 : Int)))) rfl rfl rfl rfl rfl Try.underlying149 Try.typeInfo107 rfl rfl rfl (by decide) Tk Tk (by first | rfl | omega | (simp; done) | (simp; omega)) (ys := [(0, 0, 0)]) (rds_some rdn_cells) (by rfl) (by first | rfl | omega) (enc3_len) (enc3_one) (by omega) (by show _ * 24 ≤ _; omega) ?_
   intro ao67 cp67
   refine ag_nil ?_
   refine q_nil_p rfl rfl rfl rfl ?_
   refine q_field (k := 5) rfl rfl rfl rfl Try.underlying151 rfl Try.sizeOf149 rfl ?_
   refine l_store (j := 5) rfl rfl rfl rfl Try.sizeOf149 (us := [_]) rfl rfl rfl Tk (by first | rfl | exact (Nat.add_zero _).symm) (by first | decide | (simp; done) | omega) ?_
   simp only [setL, List.set]
   refine ag_nil ?_
   refine r_done ?_
   refine s_keep [1, 5, 7] (e' := [(1, _), (5, _), (7, _)]) rfl ?_
   refine k_blk_n ?_
   refine k_then_n ?_
   refine c_plain (.q 0 (.q 1 (.q 2 (.done)))) (by kernel_rfl) ?_
   refine q_move rfl rfl rfl rfl ?_
   refine q_int rfl rfl rfl rfl rfl (b_add' _ (by exact fits_i64 (by omega) (by omega))) ?_
   refine q_assign rfl rfl rfl rfl ?_
   refine r_done ?_
   refine k_then_n ?_
   rw [← List.replicate_succ']
   refine loop_next (x := (j, aj, cj)) ((j + 1, ao67, cp67)) ?_ ?_ ?_ ?_
   · try dsimp only
     exact ⟨by omega, trivial⟩
   · show th.toNat - (j + 1) < th.toNat - j; omega
   · exact ⟨rfl, rfl, rfl, trivial⟩
   · (try simp only [List.cons_append, List.nil_append]); exact Tf
  ·
   refine c_exit ?_
   refine k_then_exit ?_
   refine k_then_exit ?_
   refine k_blk_here ?_
   refine k_then_n ?_
   refine c_seq ?_
   have hj0 : j = th.toNat := by omega
   obtain ⟨z0, hz0⟩ := get_lt (l := List.replicate j ((0 : Int), (0 : Int), (0 : Int))) (i := 0) (by simp; omega)
   obtain rfl : z0 = (0, 0, 0) := (List.mem_replicate.1 (List.mem_of_getElem? hz0)).2
   refine c_plain (.q 0 (.q 1 (.q 2 (.q 3 (.q 4 (.q 5 ((.l 6 [] (.done))))))))) (by kernel_rfl) ?_
   refine q_move rfl rfl rfl rfl ?_
   refine q_nil_p rfl rfl rfl rfl ?_
   refine q_field (k := 5) rfl rfl rfl rfl Try.underlying151 rfl Try.sizeOf149 rfl ?_
   refine q_load_c (j := 5) rfl rfl rfl rfl Try.isAgg149 Tk (by first | rfl | exact (Nat.add_zero _).symm) (by rfl) ?_
   refine q_idxO (sz := 2) (k := 0) (enc := enc3) (xs := (List.replicate j ((0 : Int), (0 : Int), (0 : Int)))) rfl rfl rfl rfl rfl Try.underlying149 Try.sizeOf107 hz0 (by first | rfl | omega) (by omega) Tk ?_
   intro ib74 io74 ha74 hl74 hc74
   refine q_field (k := 0) rfl rfl rfl rfl Try.underlying107 rfl Try.sizeOf105 rfl ?_
   refine l_store_O (j := 0) (k := 0) (q := (1, 0, 0)) (enc := enc3) (off := io74) rfl rfl rfl rfl Try.sizeOf105 (us := [_]) rfl rfl rfl ha74 enc3_len hz0 Tk (by first | rfl | exact (Nat.add_zero _).symm | omega) (by first | decide | exact Nat.le_of_ble_eq_true rfl) (by rfl) ?_
   refine ag_nil ?_
   refine r_done ?_
   refine s_keep [1, 5] (e' := [(1, _), (5, _)]) rfl ?_
   refine k_then_n ?_
   refine c_seq ?_
   refine c_seq ?_
   refine c_plain (.q 0 (.done)) (by kernel_rfl) ?_
   refine q_assign rfl rfl rfl rfl ?_
   refine r_done ?_
   refine k_then_n ?_
   refine c_block ?_
   refine s_heap (fun _ h => own_nil (sz := 1) (enc := encZ) h) ?_
   refine c_loop2 (α := Nat × Option Addr × Nat) (fun (x_ : Nat × Option Addr × Nat) => match x_ with | (m, am, cm) => m ≤ lk.toNat ∧ True) (fun (x_ : Nat × Option Addr × Nat) => match x_ with | (m, am, cm) => [(8, .int .i64 ((m : Nat) : Int))]) (fun (x_ : Nat × Option Addr × Nat) => match x_ with | (m, am, cm) => [cells b16 0 [.int .i64 th, .int .i64 va, .int .i64 vo, .int .i64 lk, .slice ai i ci, .slice aj j cj, .slice am m cm, .slice bi i di, .int .i64 0], own 1 encZ ai ci (pl.take i), own 3 enc3 aj cj ((List.replicate j ((0 : Int), (0 : Int), (0 : Int))).set 0 (1, 0, 0)), own 1 encZ am cm (List.replicate m (-1 : Int)), own 2 enc2 bi di (List.replicate i ((0 : Int), (0 : Int)))]) (fun (x_ : Nat × Option Addr × Nat) => match x_ with | (m, am, cm) => lk.toNat - m) [1, 5] (er := [(1, _), (5, _)]) rfl (0, none, 0) ?_ (by exact ⟨rfl, trivial⟩) (by (try dsimp only); (try simp only [Nat.add_zero, Nat.zero_add]); (repeat ((with_reducible apply Z2); focus (first | (with_reducible (repeat (first | exact Z0 | apply Z1)); done) | (repeat (first | exact Z0 | apply Z1))))); exact Z3) ?_
   · exact ⟨Nat.zero_le _, trivial⟩
   rintro ⟨m, am, cm⟩ ⟨hle_m, hz3⟩
   try simp only [List.cons_append, List.nil_append]
   refine c_seq ?_
   refine c_seq ?_
   refine c_plain (.q 0 (.q 1 (.q 2 (.q 3 (.done))))) (by kernel_rfl) ?_
   refine q_move rfl rfl rfl rfl ?_
   refine q_field (k := 3) rfl rfl rfl rfl Try.underlying25 rfl Try.sizeOf3 rfl ?_
   refine q_load_c (j := 3) rfl rfl rfl rfl Try.isAgg3 Tk (by first | rfl | exact (Nat.add_zero _).symm) (by rfl) ?_
   refine q_int rfl rfl rfl rfl rfl (b_lss _ _ _ _) ?_
   refine r_done ?_
   refine k_then_n ?_
   refine c_cond_p rfl (fun hlt3 => ?_) (fun hlt3 => ?_)
   ·
    refine c_skip ?_
    refine k_then_n ?_
    refine c_seq ?_
    refine c_block ?_
    refine c_plain (.q 0 (.q 1 (.q 2 (.q 3 (.q 4 ((.l 5 [] ((.l 6 [] (.q 7 (.q 8 ((.l 9 [] (.done)))))))))))))) (by kernel_rfl) ?_
    refine q_move rfl rfl rfl rfl ?_
    refine q_move rfl rfl rfl rfl ?_
    refine q_nil_p rfl rfl rfl rfl ?_
    refine q_field (k := 6) rfl rfl rfl rfl Try.underlying151 rfl Try.sizeOf23 rfl ?_
    refine q_load_c (j := 6) rfl rfl rfl rfl Try.isAgg23 Tk (by first | rfl | exact (Nat.add_zero _).symm) (by rfl) ?_
    refine l_buildSlice rfl rfl rfl rfl (run_build1 (us := [_]) Try.underlying23 Try.sizeOf3 rfl Try.zeroValue3 rfl rfl rfl) ?_
    intro b87
    refine ag_nil ?_
    refine l_append (sz := 1) (enc := encZ) (xs := (List.replicate m (-1 : Int))) rfl rfl rfl rfl rfl Try.underlying23 Try.typeInfo3 rfl rfl rfl (by decide) Tk Tk (by first | rfl | omega | (simp; done) | (simp; omega)) (ys := [(-1)]) (rds_some rdn_cells) (by rfl) (by first | rfl | omega) (encZ_len) (encZ_one) (by omega) (by show _ * 8 ≤ _; omega) ?_
    intro ao88 cp88
    refine ag_nil ?_
    refine q_nil_p rfl rfl rfl rfl ?_
    refine q_field (k := 6) rfl rfl rfl rfl Try.underlying151 rfl Try.sizeOf23 rfl ?_
    refine l_store (j := 6) rfl rfl rfl rfl Try.sizeOf23 (us := [_]) rfl rfl rfl Tk (by first | rfl | exact (Nat.add_zero _).symm) (by first | decide | (simp; done) | omega) ?_
    simp only [setL, List.set]
    refine ag_nil ?_
    refine r_done ?_
    refine s_keep [1, 5, 8] (e' := [(1, _), (5, _), (8, _)]) rfl ?_
    refine k_blk_n ?_
    refine k_then_n ?_
    refine c_plain (.q 0 (.q 1 (.q 2 (.done)))) (by kernel_rfl) ?_
    refine q_move rfl rfl rfl rfl ?_
    refine q_int rfl rfl rfl rfl rfl (b_add' _ (by exact fits_i64 (by omega) (by omega))) ?_
    refine q_assign rfl rfl rfl rfl ?_
    refine r_done ?_
    refine k_then_n ?_
    rw [← List.replicate_succ']
    refine loop_next (x := (m, am, cm)) ((m + 1, ao88, cp88)) ?_ ?_ ?_ ?_
    · try dsimp only
      exact ⟨by omega, trivial⟩
    · show lk.toNat - (m + 1) < lk.toNat - m; omega
    · exact ⟨rfl, rfl, rfl, trivial⟩
    · (try simp only [List.cons_append, List.nil_append]); exact Tf
   ·
    refine c_exit ?_
    refine k_then_exit ?_
    refine k_then_exit ?_
    refine k_blk_here ?_
    refine k_then_n ?_
    refine c_seq ?_
    refine c_plain (.q 0 (.q 1 (.q 2 (.done)))) (by kernel_rfl) ?_
    refine q_move rfl rfl rfl rfl ?_
    refine q_assign rfl rfl rfl rfl ?_
    refine q_assign rfl rfl rfl rfl ?_
    refine r_done ?_
    refine s_keep [2, 3] (e' := [(2, _), (3, _)]) rfl ?_
    refine k_then_n ?_
    refine c_ret ?_
    obtain rfl : i = n := by omega
    obtain rfl : j = th.toNat := hj0
    obtain rfl : m = lk.toNat := by omega
    subst hn
    rw [List.take_length]
    refine rk_fold (b := b16) (newF th va vo lk pl) (pa := ai) (pc := ci) (ta := aj) (tc := cj) (oa := am) (oc := cm) (ba := bi) (bc := di) Ts (by rfl) (by simp [newF]) (by simp [newF]) (by simp [newF]) ?_
    refine ret2 rfl rfl rfl ((b16, ai, ci)) (by first | rfl | (first | rfl | (congr 1; done) | (congr 1 <;> first | rfl | omega | (simp; done) | (simp; omega)))) (by trivial) ?_
    exact Tf
theorem rnewbad_spec (th va vo lk : Int) (pl : List Int) (ao : Option Addr) (n c : Nat) (A : HProp) (hr : RdS A ao (pl.flatMap encZ)) (hn : pl.length = n) (hb : n ≤ 4000000) (hok : ¬ OkS th va vo lk pl) : Spec Try.prog 31 [.agg #[.int .i64 th, .int .i64 va, .int .i64 vo, .int .i64 lk, .slice ao n c]] [A] (fun (_ : Unit) => .tuple #[.pointer none, .int .i64 5]) (fun _ => True) (fun _ => [A]) := by
 refine spec_mk (n := 92) Try.func31 rfl rfl rfl ?_
 intro Γ w0
 simp only [argE, List.cons_append, List.nil_append, Nat.zero_add, Nat.reduceAdd]
 refine c_seq ?_
 refine c_plain ((.l 0 [] (.q 1 (.q 2 (.done))))) (by kernel_rfl) ?_
 refine l_box rfl rfl rfl rfl (us := [_, _, _, _, _]) rfl ?_
 intro b1
 refine ag_nil ?_
 refine q_assign rfl rfl rfl rfl ?_
 refine q_assign rfl rfl rfl rfl ?_
 refine r_done ?_
 refine k_then_n ?_
 refine c_seq ?_
 refine c_plain (.q 0 ((.l 1 [] (.q 2 (.done))))) (by kernel_rfl) ?_
 refine q_loadN_c rfl rfl rfl rfl Try.isAgg25 Try.sizeOf25 Tk 0 (us := [_, _, _, _, _]) (by first | rfl | exact (Nat.add_zero _).symm) rfl rfl ?_
 have sp_1 := rshape_spec th va vo lk pl ao n c A (hr) (by first | rfl | assumption | omega | (simp; done) | (simp; omega)) (by omega)
 refine l_call rfl rfl rfl rfl rfl rfl Try.call75 (sp_1) Ts ?_
 rintro ⟨⟩ -
 try simp only [List.cons_append, List.nil_append]
 refine ag_nil ?_
 refine s_eq 10 rfl (v' := .int .i64 5) (by rw [if_neg hok]) ?_
 refine q_assign rfl rfl rfl rfl ?_
 refine r_done ?_
 refine s_keep [1, 4] (e' := [(1, _), (4, _)]) rfl ?_
 refine k_then_n ?_
 refine c_seq ?_
 refine c_seq ?_
 refine c_plain (.q 0 (.q 1 (.done))) (by kernel_rfl) ?_
 refine q_move rfl rfl rfl rfl ?_
 refine q_int rfl rfl rfl rfl rfl (b_neq _ _ _ _) ?_
 refine s_eq 12 rfl (v' := .bool true) (by first | rfl | simp) ?_
 refine r_done ?_
 refine k_then_n ?_
 refine c_cond_t rfl ?_
 refine c_seq ?_
 refine c_plain (.q 0 (.q 1 (.q 2 (.done)))) (by kernel_rfl) ?_
 refine q_move rfl rfl rfl rfl ?_
 refine q_assign rfl rfl rfl rfl ?_
 refine q_assign rfl rfl rfl rfl ?_
 refine r_done ?_
 refine s_keep [2, 3] (e' := [(2, _), (3, _)]) rfl ?_
 refine k_then_n ?_
 refine c_ret ?_
 refine k_then_ret ?_
 refine ret2 rfl rfl rfl (()) (by first | rfl | (first | rfl | (congr 1; done) | (congr 1 <;> first | rfl | omega | (simp; done) | (simp; omega)))) (by trivial) ?_
 exact Tf
end Go.Ab.Fe
set_option linter.unusedVariables false
set_option linter.unusedSimpArgs false
namespace Go.Ab.Fe
open Go Go.Proofs Go.Ab
def runE : CS → List T3 → List T3
  | _, [] => []
  | x, e :: es => if canT x e then e :: runE (nxT x e) es else runE x es
theorem nxT_no {x : CS} {e : T3} (h : ¬ canT x e) : nxT x e = x := if_neg h
theorem runE_app : ∀ (a b : List T3) (x : CS), runE x (a ++ b) = runE x a ++ runE (a.foldl nxT x) b
  | [], b, x => rfl
  | e :: a, b, x => by
    show (if canT x e then e :: runE (nxT x e) (a ++ b) else runE x (a ++ b)) = (if canT x e then e :: runE (nxT x e) a else runE x a) ++ runE (a.foldl nxT (nxT x e)) b
    by_cases h : canT x e
    · rw [if_pos h, if_pos h, runE_app a b]; rfl
    · rw [if_neg h, if_neg h, runE_app a b, nxT_no h]
theorem runE_next {x : CS} {es : List T3} {i : Nat} {e : T3} (h : es[i]? = some e) : runE x (es.take (i + 1)) = runE x (es.take i) ++ (if canT (sN x es i) e then [e] else []) := by
  rw [take_next h, runE_app]; rfl
theorem runE_yes {x : CS} {es : List T3} {i : Nat} {e : T3} (h : es[i]? = some e) (hc : canT (sN x es i) e) : runE x (es.take (i + 1)) = runE x (es.take i) ++ [e] := by
  rw [runE_next h, if_pos hc]
theorem runE_no {x : CS} {es : List T3} {i : Nat} {e : T3} (h : es[i]? = some e) (hc : ¬ canT (sN x es i) e) : runE x (es.take (i + 1)) = runE x (es.take i) := by
  rw [runE_next h, if_neg hc, List.append_nil]
theorem sN_skip {x : CS} {es : List T3} {i : Nat} {e : T3} (h : es[i]? = some e) (hc : ¬ canT (sN x es i) e) : sN x es (i + 1) = sN x es i := by
  rw [sN_next h]; exact if_neg hc
theorem runE_len : ∀ (es : List T3) (x : CS), (runE x es).length ≤ es.length
  | [], x => Nat.le_refl _
  | e :: es, x => by
    unfold runE
    split
    · have := runE_len es (nxT x e); simp only [List.length_cons]; omega
    · have := runE_len es x; simp only [List.length_cons]; omega
theorem runE_all : ∀ (es : List T3) (x : CS), allC x (runE x es) (runE x es).length
  | [], x => fun j e h => by simp [runE] at h
  | e :: es, x => by
    by_cases hc : canT x e
    · have hr : runE x (e :: es) = e :: runE (nxT x e) es := if_pos hc
      rw [hr]
      intro j q hj hq
      rcases j with _ | j
      · cases hq; exact hc
      · rw [sN_cons]; exact runE_all es (nxT x e) j q (by simpa using hj) (by simpa using hq)
    · have hr : runE x (e :: es) = runE x es := if_neg hc
      rw [hr]; exact runE_all es x
end Go.Ab.Fe
set_option linter.unusedVariables false
set_option linter.unusedSimpArgs false
set_option maxRecDepth 100000
namespace Go.Ab.Fa
open Go Go.Proofs Go.Ab Go.Ab.Fe Go.Ab.Vc Go.Ab.Dj Go.Ab.DjB
theorem vnew_b {th va vo lk : Int} {pl : List Int} (hok : OkS th va vo lk pl) : BInv (vNew th va vo lk pl) := by
  refine ⟨new_vinv hok (new_inv hok), fun t l h i => ?_, fun t l h => (by cases h), fun t l h => (by cases h), fun r p h => (by cases h)⟩
  rcases upd_some (show upd noF 0 (some [1]) t = some l from h) with ⟨-, h⟩ | ⟨-, h⟩
  · cases h
    show ([1] : List Int).getD i 0 ≤ 0 + 1
    rcases i with _ | i <;> simp
  · cases h
theorem fAll_ck {x : FS} (hb : BInv x.v) (hn : x.v.ck.n = 0) {L : List T3} (hl : L.length ≤ 4000000) (hall : allC x.v.ck L L.length) : ∀ i, i ≤ L.length → BInv (fAll x (L.take i)).v ∧ (fAll x (L.take i)).v.ck = sN x.v.ck L i := by
  intro i
  induction i with
  | zero => intro _; exact ⟨hb, rfl⟩
  | succ i ih =>
    intro hi
    obtain ⟨e, he⟩ := get_lt (l := L) (i := i) (by omega)
    obtain ⟨h1, h2⟩ := ih (by omega)
    have hc := hall i e (by omega) he
    have hsn := (sN_n x.v.ck L i).2
    have hv : vcanF (fAll x (L.take i)).v e.1 e.2.1 e.2.2 := (b_can h1 (by rw [h2]; omega)).2 (by rw [h2]; exact hc)
    have hf : (fEv (fAll x (L.take i)) e).v = vnF (fAll x (L.take i)).v e.1 e.2.1 e.2.2 := by
      show (feF _ _ _ _).v = _
      rw [feF, if_pos hv]
    rw [fAll_next he, hf]
    exact ⟨b_next h1 hv, by rw [vn_ck, h2, sN_next he]⟩
theorem fAll_can {x : FS} (hb : BInv x.v) (hn : x.v.ck.n = 0) {L : List T3} (hl : L.length ≤ 4000000) (hall : allC x.v.ck L L.length) {i : Nat} {e : T3} (he : L[i]? = some e) : canFE (fAll x (L.take i)) e := by
  have hi := (List.getElem?_eq_some_iff.1 he).1
  obtain ⟨h1, h2⟩ := fAll_ck hb hn hl hall i (by omega)
  have hsn := (sN_n x.v.ck L i).2
  exact (b_can h1 (by rw [h2]; omega)).2 (by rw [h2]; exact hall i e hi he)
theorem run_can {th va vo lk : Int} {pl : List Int} (hok : OkS th va vo lk pl) (es : List T3) (hl : es.length ≤ 4000000) {i : Nat} {e : T3} (he : (runE (newF th va vo lk pl) es)[i]? = some e) : canFE (fAll (fNew th va vo lk pl) ((runE (newF th va vo lk pl) es).take i)) e :=
  fAll_can (x := fNew th va vo lk pl) (vnew_b hok) rfl (Nat.le_trans (runE_len _ _) hl) (runE_all es _) he
theorem cheap_law {x : FS} (hx : FInv x) {k : Int} {t : Nat} {o : Int} (hv : vcanF x.v k ((t : Nat) : Int) o) :
    (feF x k ((t : Nat) : Int) o).cost = x.cost ∨ ((feF x k ((t : Nat) : Int) o).cost = x.cost + 1 ∧ ((k = 1 ∧ rdE (wFF x o) ≠ pkN t (thF x.v ((t : Nat) : Int)) ∧ (shE (wFF x o)).isSome = false ∧ (shE (wFF (feF x k ((t : Nat) : Int) o) o)).isSome = true) ∨
      (k = 2 ∧ wrE (wFF x o) ≠ pkN t (thF x.v ((t : Nat) : Int)) ∧ (shE (wFF x o)).isSome = true))) := by
  rw [feF, if_pos hv]
  unfold feA
  by_cases k1 : k = 1
  · obtain ⟨p0, p1⟩ := acc_obj hv.1 (.inl k1)
    have hlen := hx.len
    obtain ⟨w, hw⟩ := get_lt (l := x.vs) (i := o.toNat) (by omega)
    have hW : wFF x o = some w := by rw [wFF, if_pos p0, hw]
    have hl := (List.getElem?_eq_some_iff.1 hw).1
    have hset : ∀ q : V4F, wFF ⟨vnF x.v k ((t : Nat) : Int) o, x.vs.set o.toNat q, x.cost⟩ o = some q := fun q => by rw [wFF, if_pos p0]; exact List.getElem?_set_self hl
    simp only [if_pos k1, hW, getD_some hw, Int.toNat_natCast]
    obtain ⟨ww, wr, ws, wf⟩ := w
    unfold rdV
    cases ws with
    | some s =>
      simp only
      split <;> exact .inl (Int.add_zero _)
    | none =>
      simp only
      split
      · exact .inl (Int.add_zero _)
      split
      · exact .inl (Int.add_zero _)
      · rename_i h1 h2
        refine .inr ⟨rfl, .inl ⟨k1, h1, rfl, ?_⟩⟩
        have := hset
        unfold wFF at this ⊢
        simp only at this ⊢
        rw [this]; rfl
  · rw [if_neg k1]
    by_cases k2 : k = 2
    · obtain ⟨p0, p1⟩ := acc_obj hv.1 (.inr k2)
      have hlen := hx.len
      obtain ⟨w, hw⟩ := get_lt (l := x.vs) (i := o.toNat) (by omega)
      have hW : wFF x o = some w := by rw [wFF, if_pos p0, hw]
      simp only [if_pos k2, hW, getD_some hw, Int.toNat_natCast]
      obtain ⟨ww, wr, ws, wf⟩ := w
      unfold wrV
      simp only
      split
      · exact .inl (Int.add_zero _)
      · rename_i h1
        cases ws with
        | some s => exact .inr ⟨rfl, .inr ⟨k2, h1, rfl⟩⟩
        | none => exact .inl (Int.add_zero _)
    · rw [if_neg k2]; exact .inl rfl
theorem getD_at {l : List Int} {t : Nat} (h : t < l.length) : l[t]? = some (l.getD t 0) := by
  rw [List.getD_eq_getElem?_getD, List.getElem?_eq_getElem h]; rfl
theorem or_pk {t : Nat} {l : List Int} (ht : t < 65535) (h0 : 0 ≤ l.getD t 0) (h1 : l.getD t 0 ≤ maxC) : orV .u64 ((t * 281474976710656 : Nat) : Int) (l.getD t 0) = ((pkN t l : Nat) : Int) := by
  obtain ⟨c, hc⟩ := Int.eq_ofNat_of_zero_le h0
  have hp : pkN t l = t * 281474976710656 + c := by unfold pkN; rw [hc]; rfl
  simp only [maxC] at h1
  rw [hp, hc]
  exact or_pack (by omega) (by omega)
theorem run_ok (th va vo lk : Int) (pl : List Int) (ao : Option Addr) (n c : Nat) (A : HProp) (hr : RdS A ao (pl.flatMap encZ)) (hn : pl.length = n) (hb : n ≤ 4000000) (es : List T3) (eo : Option Addr) (m ec : Nat) (he : RdS A eo (es.flatMap enc3)) (hm : es.length = m) (hmb : m ≤ 4000000) (hok : OkS th va vo lk pl) : Spec Try.prog 16 [.agg #[.int .i64 th, .int .i64 va, .int .i64 vo, .int .i64 lk, .slice ao n c], .slice eo m ec] [A] (fun (r : (Option Addr × Nat) × (Option Addr × Nat) × List Int) => .tuple #[.agg #[.int .i64 th, .int .i64 va, .int .i64 vo, .int .i64 lk, .slice ao n c, .slice r.1.1 (runE (newF th va vo lk pl) es).length r.1.2, .slice r.2.1.1 r.2.2.length r.2.1.2], .bool true]) (fun r => r.2.2.length ≤ m) (fun r => [A, own 3 enc3 r.1.1 r.1.2 (runE (newF th va vo lk pl) es), own 1 encZ r.2.1.1 r.2.1.2 r.2.2]) := by
 refine spec_mk (n := 90) Try.func16 rfl rfl rfl ?_
 intro Γ w0
 simp only [argE, List.cons_append, List.nil_append, Nat.zero_add, Nat.reduceAdd]
 have h1_ := hok.th
 have h2_ := hok.lk
 have h3_ := hok.pl
 refine c_seq ?_
 refine c_plain ((.l 0 [] ((.l 1 [] (.q 2 (.done)))))) (by kernel_rfl) ?_
 refine l_box rfl rfl rfl rfl (us := [_, _, _, _, _]) rfl ?_
 intro b2
 refine ag_nil ?_
 refine l_alloc rfl rfl rfl Try.zeroValue44 (zs := [.int .i64 0, .int .i64 0, .int .i64 0, .int .i64 0, .slice none 0 0, .slice none 0 0, .slice none 0 0]) rfl ?_
 intro b4
 refine ag_nil ?_
 refine q_assign rfl rfl rfl rfl ?_
 refine r_done ?_
 refine k_then_n ?_
 refine c_seq ?_
 refine c_plain (.q 0 ((.l 1 [] (.q 2 (.q 3 (.q 4 (.q 5 (.q 6 (.done))))))))) (by kernel_rfl) ?_
 refine q_loadN_c rfl rfl rfl rfl Try.isAgg25 Try.sizeOf25 Tk 0 (us := [_, _, _, _, _]) (by first | rfl | exact (Nat.add_zero _).symm) rfl rfl ?_
 have sp_1 := rnew_spec th va vo lk pl ao n c A (hr) (by first | rfl | assumption | omega | (simp; done) | (simp; omega)) (by omega) hok
 refine l_call rfl rfl rfl rfl rfl rfl Try.call31 (sp_1) Ts ?_
 rintro ⟨nq, nqp, nqc⟩ -
 try simp only [List.cons_append, List.nil_append]
 refine ag_nil ?_
 refine q_move rfl rfl rfl rfl ?_
 refine q_extract rfl rfl rfl rfl rfl ?_
 refine q_extract rfl rfl rfl rfl rfl ?_
 refine q_assign rfl rfl rfl rfl ?_
 refine q_assign rfl rfl rfl rfl ?_
 refine r_done ?_
 refine s_keep [1, 2, 4, 6, 7] (e' := [(1, _), (2, _), (4, _), (6, _), (7, _)]) rfl ?_
 refine k_then_n ?_
 refine c_seq ?_
 refine c_plain (.q 0 (.q 1 ((.l 2 [] ((.l 3 [] (.done))))))) (by kernel_rfl) ?_
 refine q_loadN_c rfl rfl rfl rfl Try.isAgg25 Try.sizeOf25 Tk 0 (us := [_, _, _, _, _]) (by first | rfl | exact (Nat.add_zero _).symm) rfl rfl ?_
 refine q_build rfl rfl rfl rfl (vs := [_, _, _, _, _, _, _]) (run_buildS Try.underlying44 Try.zeroValue44 (ps := [(0, 5), (5, 1), (6, 1)]) ⟨rfl, Try.sizeOf25, rfl, Try.sizeOf26, rfl, Try.sizeOf23, trivial⟩ rfl) ?_
 refine l_alloc rfl rfl rfl Try.zeroValue44 (zs := [.int .i64 0, .int .i64 0, .int .i64 0, .int .i64 0, .slice none 0 0, .slice none 0 0, .slice none 0 0]) rfl ?_
 intro b8
 refine ag_nil ?_
 refine l_store (j := 0) rfl rfl rfl rfl Try.sizeOf44 (us := [_, _, _, _, _, _, _]) rfl rfl rfl Tk (by first | rfl | exact (Nat.add_zero _).symm) (by first | decide | (simp; done) | omega) ?_
 simp only [setL, List.set]
 refine ag_nil ?_
 refine r_done ?_
 refine k_then_n ?_
 refine c_seq ?_
 refine c_seq ?_
 refine c_plain (.q 0 (.q 1 (.done))) (by kernel_rfl) ?_
 refine q_move rfl rfl rfl rfl ?_
 refine q_int rfl rfl rfl rfl rfl (b_neq _ _ _ _) ?_
 refine s_eq 23 rfl (v' := .bool false) (by first | rfl | simp) ?_
 refine r_done ?_
 refine s_keep [1, 4, 6, 8, 23] (e' := [(1, _), (4, _), (6, _), (8, _), (23, _)]) rfl ?_
 refine k_then_n ?_
 refine c_cond_f rfl ?_
 refine c_skip ?_
 refine k_then_n ?_
 refine c_seq ?_
 refine c_seq ?_
 refine s_heap (fun _ h => own_nil (sz := 3) (enc := enc3) h) ?_
 refine s_heap (fun _ h => own_nil (sz := 1) (enc := encZ) h) ?_
 refine c_plain (.q 0 (.done)) (by kernel_rfl) ?_
 refine q_assign rfl rfl rfl rfl ?_
 refine r_done ?_
 refine k_then_n ?_
 refine c_block ?_
 refine c_loop2 (α := Nat × List T3 × Option Addr × Nat × List Int × Option Addr × Nat) (fun (x_ : Nat × List T3 × Option Addr × Nat × List Int × Option Addr × Nat) => match x_ with | (i, g, ea, ed, RL, ra, rd) => i ≤ m ∧ (g = runE (newF th va vo lk pl) (es.take i)) ∧ (g.length ≤ i) ∧ (RL.length ≤ i)) (fun (x_ : Nat × List T3 × Option Addr × Nat × List Int × Option Addr × Nat) => match x_ with | (i, g, ea, ed, RL, ra, rd) => [(9, .int .i64 ((i : Nat) : Int))]) (fun (x_ : Nat × List T3 × Option Addr × Nat × List Int × Option Addr × Nat) => match x_ with | (i, g, ea, ed, RL, ra, rd) => [rk nqp nqc nq (sN (newF th va vo lk pl) es i), own 1 encZ nqp nqc pl, cells b8 0 [.int .i64 th, .int .i64 va, .int .i64 vo, .int .i64 lk, .slice ao n c, .slice ea g.length ed, .slice ra RL.length rd], own 3 enc3 ea ed g, own 1 encZ ra rd RL]) (fun (x_ : Nat × List T3 × Option Addr × Nat × List Int × Option Addr × Nat) => match x_ with | (i, g, ea, ed, RL, ra, rd) => m - i) [1, 4, 6, 8] (er := [(1, _), (4, _), (6, _), (8, _)]) rfl (0, [], none, 0, [], none, 0) ?_ (by exact ⟨rfl, trivial⟩) (by (try dsimp only); rw [sN_zero]; (repeat ((with_reducible apply Z2); focus (first | (with_reducible (repeat (first | exact Z0 | apply Z1)); done) | (repeat (first | exact Z0 | apply Z1))))); exact Z3) ?_
 · exact ⟨Nat.zero_le _, rfl, Nat.le_refl _, Nat.le_refl _⟩
 rintro ⟨i, g, ea, ed, RL, ra, rd⟩ ⟨hle_i, hg, hgl, hrl⟩
 try simp only [List.cons_append, List.nil_append]
 have hsn := (sN_n (newF th va vo lk pl) es i).2
 have hz0 : (newF th va vo lk pl).n = 0 := rfl
 refine c_seq ?_
 refine c_seq ?_
 refine c_plain (.q 0 (.q 1 (.q 2 (.q 3 (.done))))) (by kernel_rfl) ?_
 refine q_move rfl rfl rfl rfl ?_
 refine q_move rfl rfl rfl rfl ?_
 refine q_len rfl rfl rfl rfl Try.underlying26 ?_
 refine q_int rfl rfl rfl rfl rfl (b_lss _ _ _ _) ?_
 refine r_done ?_
 refine k_then_n ?_
 refine c_cond_p rfl (fun hlt => ?_) (fun hlt => ?_)
 ·
  refine c_skip ?_
  refine k_then_n ?_
  refine c_seq ?_
  refine c_block ?_
  refine c_seq ?_
  refine c_seq ?_
  refine c_plain (.q 0 (.q 1 (.q 2 (.q 3 (.q 4 ((.l 5 [] (.q 6 (.done))))))))) (by kernel_rfl) ?_
  refine q_move rfl rfl rfl rfl ?_
  refine q_move rfl rfl rfl rfl ?_
  refine q_move rfl rfl rfl rfl ?_
  obtain ⟨ev, hev⟩ := get_lt (l := es) (i := i) (by first | omega | (simp; done) | (simp; omega))
  refine q_idxR (sz := 2) (k := i) rfl rfl rfl rfl rfl Try.underlying26 Try.sizeOf36 (he) hev enc3_len (by first | rfl | omega) (by omega) ?_
  intro ib34 io34 _ hd34
  refine q_loadN (vs := [_, _, _]) rfl rfl rfl rfl Try.isAgg36 Try.sizeOf36 Tk (hd34) rfl ?_
  have sp_2 := rcan_spec nqp nqc nq (sN (newF th va vo lk pl) es i) (sN_inv (new_inv hok) es i) ev.1 ev.2.1 ev.2.2
  refine l_call rfl rfl rfl rfl rfl rfl Try.call33 (sp_2) Ts ?_
  rintro ⟨⟩ -
  try simp only [List.cons_append, List.nil_append]
  refine ag_nil ?_
  refine q_not rfl rfl rfl rfl ?_
  refine r_done ?_
  refine s_keep [1, 4, 6, 8, 9, 37] (e' := [(1, _), (4, _), (6, _), (8, _), (9, _), (37, _)]) rfl ?_
  refine k_then_n ?_
  refine c_cond_np rfl (fun hc => ?_) (fun hc => ?_)
  ·
   refine c_exit ?_
   refine k_then_exit ?_
   refine k_blk_here ?_
   refine k_then_n ?_
   refine c_plain (.q 0 (.q 1 (.q 2 (.done)))) (by kernel_rfl) ?_
   refine q_move rfl rfl rfl rfl ?_
   refine q_int rfl rfl rfl rfl rfl (b_add' _ (by exact fits_i64 (by omega) (by omega))) ?_
   refine q_assign rfl rfl rfl rfl ?_
   refine r_done ?_
   refine k_then_n ?_
   rw [← sN_skip hev hc]
   refine loop_next (x := (i, g, ea, ed, RL, ra, rd)) ((i + 1, g, ea, ed, RL, ra, rd)) ?_ ?_ ?_ ?_
   · try dsimp only
     exact ⟨by omega, by rw [hg, runE_no hev hc], by omega, by omega⟩
   · show m - (i + 1) < m - i; omega
   · exact ⟨rfl, rfl, rfl, rfl, rfl, trivial⟩
   · (try simp only [List.cons_append, List.nil_append]); exact Tf
  ·
   refine c_skip ?_
   refine k_then_n ?_
   refine c_seq ?_
   refine c_plain (.q 0 (.q 1 (.q 2 (.q 3 (.q 4 (.q 5 ((.l 6 [] (.q 7 (.q 8 (.q 9 ((.l 10 [] ((.l 11 [] (.q 12 (.done))))))))))))))))) (by kernel_rfl) ?_
   refine q_move rfl rfl rfl rfl ?_
   refine q_move rfl rfl rfl rfl ?_
   refine q_move rfl rfl rfl rfl ?_
   refine q_idxR (sz := 2) (k := i) rfl rfl rfl rfl rfl Try.underlying26 Try.sizeOf36 (he) hev enc3_len (by first | rfl | omega) (by omega) ?_
   intro ib42 io42 _ hd42
   refine q_field (k := 1) rfl rfl rfl rfl Try.underlying36 rfl Try.sizeOf3 rfl ?_
   refine q_load rfl rfl rfl rfl Try.isAgg3 Tk (hd42 1 (.int .i64 ev.2.1) rfl) ?_
   have sp_3 := rstand_spec nqp nqc nq (sN (newF th va vo lk pl) es i) (sN_inv (new_inv hok) es i) ev.2.1
   refine l_call rfl rfl rfl rfl rfl rfl Try.call36 (sp_3) Ts ?_
   rintro ⟨⟩ -
   try simp only [List.cons_append, List.nil_append]
   refine ag_nil ?_
   refine q_move rfl rfl rfl rfl ?_
   refine q_extract rfl rfl rfl rfl rfl ?_
   refine q_extract rfl rfl rfl rfl rfl ?_
   refine l_alloc rfl rfl rfl Try.zeroValue107 (zs := [.int .i64 0, .int .i64 0, .int .i64 0]) rfl ?_
   intro b10
   refine ag_nil ?_
   refine l_store (j := 0) rfl rfl rfl rfl Try.sizeOf107 (us := [_, _, _]) rfl rfl rfl Tk (by first | rfl | exact (Nat.add_zero _).symm) (by first | decide | (simp; done) | omega) ?_
   simp only [setL, List.set]
   refine ag_nil ?_
   refine q_assign rfl rfl rfl rfl ?_
   refine r_done ?_
   refine s_keep [1, 4, 6, 8, 9, 10] (e' := [(1, _), (4, _), (6, _), (8, _), (9, _), (10, _)]) rfl ?_
   refine k_then_n ?_
   refine c_seq ?_
   refine c_plain (.q 0 (.q 1 (.q 2 (.q 3 (.q 4 ((.l 5 [] (.done)))))))) (by kernel_rfl) ?_
   refine q_move rfl rfl rfl rfl ?_
   refine q_move rfl rfl rfl rfl ?_
   refine q_move rfl rfl rfl rfl ?_
   refine q_idxR (sz := 2) (k := i) rfl rfl rfl rfl rfl Try.underlying26 Try.sizeOf36 (he) hev enc3_len (by first | rfl | omega) (by omega) ?_
   intro ib51 io51 _ hd51
   refine q_loadN (vs := [_, _, _]) rfl rfl rfl rfl Try.isAgg36 Try.sizeOf36 Tk (hd51) rfl ?_
   have sp_4 := Fe.rnext_spec nqp nqc nq (sN (newF th va vo lk pl) es i) (sN_inv (new_inv hok) es i) (by omega) pl (((sN_sh _ _ _).1)) ev.1 ev.2.1 ev.2.2
   refine l_call rfl rfl rfl rfl rfl rfl Try.call38 (sp_4) Ts ?_
   rintro ⟨⟩ -
   try simp only [List.cons_append, List.nil_append]
   refine ag_nil ?_
   refine r_done ?_
   refine s_keep [1, 4, 6, 8, 9, 10] (e' := [(1, _), (4, _), (6, _), (8, _), (9, _), (10, _)]) rfl ?_
   refine k_then_n ?_
   refine c_seq ?_
   refine c_plain (.q 0 (.q 1 (.q 2 (.q 3 (.q 4 (.q 5 ((.l 6 [] (.q 7 (.q 8 (.q 9 ((.l 10 [] ((.l 11 [] (.q 12 (.done))))))))))))))))) (by kernel_rfl) ?_
   refine q_move rfl rfl rfl rfl ?_
   refine q_move rfl rfl rfl rfl ?_
   refine q_move rfl rfl rfl rfl ?_
   refine q_idxR (sz := 2) (k := i) rfl rfl rfl rfl rfl Try.underlying26 Try.sizeOf36 (he) hev enc3_len (by first | rfl | omega) (by omega) ?_
   intro ib58 io58 _ hd58
   refine q_field (k := 1) rfl rfl rfl rfl Try.underlying36 rfl Try.sizeOf3 rfl ?_
   refine q_load rfl rfl rfl rfl Try.isAgg3 Tk (hd58 1 (.int .i64 ev.2.1) rfl) ?_
   have sp_5 := rstand_spec nqp nqc nq (nxF (sN (newF th va vo lk pl) es i) ev.1 ev.2.1 ev.2.2) (next_inv (sN_inv (new_inv hok) es i) _ _ _) ev.2.1
   refine l_call rfl rfl rfl rfl rfl rfl Try.call36 (sp_5) Ts ?_
   rintro ⟨⟩ -
   try simp only [List.cons_append, List.nil_append]
   refine ag_nil ?_
   refine q_move rfl rfl rfl rfl ?_
   refine q_extract rfl rfl rfl rfl rfl ?_
   refine q_extract rfl rfl rfl rfl rfl ?_
   refine l_alloc rfl rfl rfl Try.zeroValue107 (zs := [.int .i64 0, .int .i64 0, .int .i64 0]) rfl ?_
   intro b12
   refine ag_nil ?_
   refine l_store (j := 0) rfl rfl rfl rfl Try.sizeOf107 (us := [_, _, _]) rfl rfl rfl Tk (by first | rfl | exact (Nat.add_zero _).symm) (by first | decide | (simp; done) | omega) ?_
   simp only [setL, List.set]
   refine ag_nil ?_
   refine q_assign rfl rfl rfl rfl ?_
   refine r_done ?_
   refine s_keep [1, 4, 6, 8, 9, 10, 12] (e' := [(1, _), (4, _), (6, _), (8, _), (9, _), (10, _), (12, _)]) rfl ?_
   refine k_then_n ?_
   refine c_seq ?_
   refine c_plain (.q 0 (.q 1 (.q 2 (.done)))) (by kernel_rfl) ?_
   refine q_field (k := 2) rfl rfl rfl rfl Try.underlying107 rfl Try.sizeOf3 rfl ?_
   refine q_load_c (j := 2) rfl rfl rfl rfl Try.isAgg3 Tk (by first | rfl | exact (Nat.add_zero _).symm) (by rfl) ?_
   refine q_assign rfl rfl rfl rfl ?_
   refine r_done ?_
   refine k_then_n ?_
   refine c_seq ?_
   refine c_seq ?_
   refine c_plain (.q 0 (.q 1 (.q 2 (.q 3 (.q 4 (.q 5 (.done))))))) (by kernel_rfl) ?_
   refine q_move rfl rfl rfl rfl ?_
   refine q_move rfl rfl rfl rfl ?_
   refine q_idxR (sz := 2) (k := i) rfl rfl rfl rfl rfl Try.underlying26 Try.sizeOf36 (he) hev enc3_len (by first | rfl | omega) (by omega) ?_
   intro ib68 io68 _ hd68
   refine q_field (k := 0) rfl rfl rfl rfl Try.underlying36 rfl Try.sizeOf34 rfl ?_
   refine q_load rfl rfl rfl rfl Try.isAgg34 Tk (hd68 0 (.int .i64 ev.1) rfl) ?_
   refine q_int rfl rfl rfl rfl rfl (b_eql _ _ _ _) ?_
   refine r_done ?_
   refine s_keep [1, 4, 6, 8, 9, 10, 14, 71] (e' := [(1, _), (4, _), (6, _), (8, _), (9, _), (10, _), (14, _), (71, _)]) rfl ?_
   refine k_then_n ?_
   refine c_cond_p rfl (fun h10 => ?_) (fun h10 => ?_)
   ·
    refine c_plain (.q 0 (.q 1 (.q 2 (.done)))) (by kernel_rfl) ?_
    refine q_field (k := 2) rfl rfl rfl rfl Try.underlying107 rfl Try.sizeOf3 rfl ?_
    refine q_load_c (j := 2) rfl rfl rfl rfl Try.isAgg3 Tk (by first | rfl | exact (Nat.add_zero _).symm) (by rfl) ?_
    refine q_assign rfl rfl rfl rfl ?_
    refine r_done ?_
    refine s_keep [1, 4, 6, 8, 9, 14] (e' := [(1, _), (4, _), (6, _), (8, _), (9, _), (14, _)]) rfl ?_
    refine k_then_n ?_
    refine c_seq ?_
    refine c_draw rfl (.q 0 (.q 1 (.q 2 (.q 3 (.q 4 (.q 5 ((.l 6 [1] ((.l 7 [] (.q 8 ((.l 9 [] (.done)))))))))))))) (by kernel_rfl) ?_
    refine q_field (k := 5) rfl rfl rfl rfl Try.underlying44 rfl Try.sizeOf26 rfl ?_
    refine q_load_c (j := 5) rfl rfl rfl rfl Try.isAgg26 Tk (by first | rfl | exact (Nat.add_zero _).symm) (by rfl) ?_
    refine q_move rfl rfl rfl rfl ?_
    refine q_move rfl rfl rfl rfl ?_
    refine q_idxR (sz := 2) (k := i) rfl rfl rfl rfl rfl Try.underlying26 Try.sizeOf36 (he) hev enc3_len (by first | rfl | omega) (by omega) ?_
    intro ib78 io78 _ hd78
    refine q_loadN (vs := [_, _, _]) rfl rfl rfl rfl Try.isAgg36 Try.sizeOf36 Tk (hd78) rfl ?_
    refine l_buildSlice rfl rfl rfl rfl (run_build1 (us := [_, _, _]) Try.underlying26 Try.sizeOf36 rfl Try.zeroValue36 rfl rfl rfl) ?_
    intro b80
    refine ag_load_c (q := 5) rfl rfl rfl Try.isAgg26 Tk (by first | rfl | exact (Nat.add_zero _).symm) (by rfl) ?_
    refine ag_nil ?_
    refine l_append (sz := 3) (enc := enc3) (xs := g) rfl rfl rfl rfl rfl Try.underlying26 Try.typeInfo36 rfl rfl rfl (by decide) Tk Tk (by first | rfl | omega | (simp; done) | (simp; omega)) (ys := [ev]) (rds_some rdn_cells) (by rfl) (by first | rfl | omega) (enc3_len) (enc3_one) (by omega) (by show _ * 24 ≤ _; omega) ?_
    intro ao81 cp81
    refine ag_nil ?_
    refine q_field (k := 5) rfl rfl rfl rfl Try.underlying44 rfl Try.sizeOf26 rfl ?_
    refine l_store (j := 5) rfl rfl rfl rfl Try.sizeOf26 (us := [_]) rfl rfl rfl Tk (by first | rfl | exact (Nat.add_zero _).symm) (by first | decide | (simp; done) | omega) ?_
    simp only [setL, List.set]
    refine ag_nil ?_
    refine r_done ?_
    refine s_keep [1, 4, 6, 8, 9, 14] (e' := [(1, _), (4, _), (6, _), (8, _), (9, _), (14, _)]) rfl ?_
    refine k_then_n ?_
    refine c_plain (.q 0 (.q 1 (.q 2 ((.l 3 [] ((.l 4 [] (.q 5 ((.l 6 [] (.done))))))))))) (by kernel_rfl) ?_
    refine q_field (k := 6) rfl rfl rfl rfl Try.underlying44 rfl Try.sizeOf23 rfl ?_
    refine q_load_c (j := 6) rfl rfl rfl rfl Try.isAgg23 Tk (by first | rfl | exact (Nat.add_zero _).symm) (by rfl) ?_
    refine q_move rfl rfl rfl rfl ?_
    refine l_buildSlice rfl rfl rfl rfl (run_build1 (us := [_]) Try.underlying23 Try.sizeOf3 rfl Try.zeroValue3 rfl rfl rfl) ?_
    intro b86
    refine ag_nil ?_
    refine l_append (sz := 1) (enc := encZ) (xs := RL) rfl rfl rfl rfl rfl Try.underlying23 Try.typeInfo3 rfl rfl rfl (by decide) Tk Tk (by first | rfl | omega | (simp; done) | (simp; omega)) (ys := [((stF (sN (newF th va vo lk pl) es i) ev.2.1).2.2)]) (rds_some rdn_cells) (by rfl) (by first | rfl | omega) (encZ_len) (encZ_one) (by omega) (by show _ * 8 ≤ _; omega) ?_
    intro ao87 cp87
    refine ag_nil ?_
    refine q_field (k := 6) rfl rfl rfl rfl Try.underlying44 rfl Try.sizeOf23 rfl ?_
    refine l_store (j := 6) rfl rfl rfl rfl Try.sizeOf23 (us := [_]) rfl rfl rfl Tk (by first | rfl | exact (Nat.add_zero _).symm) (by first | decide | (simp; done) | omega) ?_
    simp only [setL, List.set]
    refine ag_nil ?_
    refine r_done ?_
    refine s_keep [1, 4, 6, 8, 9] (e' := [(1, _), (4, _), (6, _), (8, _), (9, _)]) rfl ?_
    refine k_blk_n ?_
    refine k_then_n ?_
    refine c_plain (.q 0 (.q 1 (.q 2 (.done)))) (by kernel_rfl) ?_
    refine q_move rfl rfl rfl rfl ?_
    refine q_int rfl rfl rfl rfl rfl (b_add' _ (by exact fits_i64 (by omega) (by omega))) ?_
    refine q_assign rfl rfl rfl rfl ?_
    refine r_done ?_
    refine k_then_n ?_
    rw [← sN_next hev]
    have hq1 : (g ++ [ev]).length = g.length + 1 := by simp
    have hq2 : (RL ++ ([((stF (sN (newF th va vo lk pl) es i) ev.2.1).2.2)])).length = RL.length + 1 := by simp
    refine s_take (A := cells b8 0 [.int .i64 th, .int .i64 va, .int .i64 vo, .int .i64 lk, .slice ao n c, .slice ao81 (g.length + 1) cp81, .slice ao87 (RL.length + 1) cp87]) Td ?_
    refine s_heap (Γ' := cells b8 0 [.int .i64 th, .int .i64 va, .int .i64 vo, .int .i64 lk, .slice ao n c, .slice ao81 (g ++ [ev]).length cp81, .slice ao87 (RL ++ ([((stF (sN (newF th va vo lk pl) es i) ev.2.1).2.2)])).length cp87] :: _) (fun _ h => (by rw [hq1, hq2]; exact h)) ?_
    refine loop_next (x := (i, g, ea, ed, RL, ra, rd)) ((i + 1, g ++ [ev], ao81, cp81, (RL ++ ([((stF (sN (newF th va vo lk pl) es i) ev.2.1).2.2)])), ao87, cp87)) ?_ ?_ ?_ ?_
    · try dsimp only
      exact ⟨by omega, by rw [hg, runE_yes hev hc], by omega, by omega⟩
    · show m - (i + 1) < m - i; omega
    · exact ⟨rfl, rfl, rfl, rfl, rfl, trivial⟩
    · (try simp only [List.cons_append, List.nil_append]); exact Tf
   ·
    refine c_skip ?_
    refine k_then_n ?_
    refine c_seq ?_
    refine c_draw rfl (.q 0 (.q 1 (.q 2 (.q 3 (.q 4 (.q 5 ((.l 6 [1] ((.l 7 [] (.q 8 ((.l 9 [] (.done)))))))))))))) (by kernel_rfl) ?_
    refine q_field (k := 5) rfl rfl rfl rfl Try.underlying44 rfl Try.sizeOf26 rfl ?_
    refine q_load_c (j := 5) rfl rfl rfl rfl Try.isAgg26 Tk (by first | rfl | exact (Nat.add_zero _).symm) (by rfl) ?_
    refine q_move rfl rfl rfl rfl ?_
    refine q_move rfl rfl rfl rfl ?_
    refine q_idxR (sz := 2) (k := i) rfl rfl rfl rfl rfl Try.underlying26 Try.sizeOf36 (he) hev enc3_len (by first | rfl | omega) (by omega) ?_
    intro ib78 io78 _ hd78
    refine q_loadN (vs := [_, _, _]) rfl rfl rfl rfl Try.isAgg36 Try.sizeOf36 Tk (hd78) rfl ?_
    refine l_buildSlice rfl rfl rfl rfl (run_build1 (us := [_, _, _]) Try.underlying26 Try.sizeOf36 rfl Try.zeroValue36 rfl rfl rfl) ?_
    intro b80
    refine ag_load_c (q := 5) rfl rfl rfl Try.isAgg26 Tk (by first | rfl | exact (Nat.add_zero _).symm) (by rfl) ?_
    refine ag_nil ?_
    refine l_append (sz := 3) (enc := enc3) (xs := g) rfl rfl rfl rfl rfl Try.underlying26 Try.typeInfo36 rfl rfl rfl (by decide) Tk Tk (by first | rfl | omega | (simp; done) | (simp; omega)) (ys := [ev]) (rds_some rdn_cells) (by rfl) (by first | rfl | omega) (enc3_len) (enc3_one) (by omega) (by show _ * 24 ≤ _; omega) ?_
    intro ao81 cp81
    refine ag_nil ?_
    refine q_field (k := 5) rfl rfl rfl rfl Try.underlying44 rfl Try.sizeOf26 rfl ?_
    refine l_store (j := 5) rfl rfl rfl rfl Try.sizeOf26 (us := [_]) rfl rfl rfl Tk (by first | rfl | exact (Nat.add_zero _).symm) (by first | decide | (simp; done) | omega) ?_
    simp only [setL, List.set]
    refine ag_nil ?_
    refine r_done ?_
    refine s_keep [1, 4, 6, 8, 9, 14] (e' := [(1, _), (4, _), (6, _), (8, _), (9, _), (14, _)]) rfl ?_
    refine k_then_n ?_
    refine c_plain (.q 0 (.q 1 (.q 2 ((.l 3 [] ((.l 4 [] (.q 5 ((.l 6 [] (.done))))))))))) (by kernel_rfl) ?_
    refine q_field (k := 6) rfl rfl rfl rfl Try.underlying44 rfl Try.sizeOf23 rfl ?_
    refine q_load_c (j := 6) rfl rfl rfl rfl Try.isAgg23 Tk (by first | rfl | exact (Nat.add_zero _).symm) (by rfl) ?_
    refine q_move rfl rfl rfl rfl ?_
    refine l_buildSlice rfl rfl rfl rfl (run_build1 (us := [_]) Try.underlying23 Try.sizeOf3 rfl Try.zeroValue3 rfl rfl rfl) ?_
    intro b86
    refine ag_nil ?_
    refine l_append (sz := 1) (enc := encZ) (xs := RL) rfl rfl rfl rfl rfl Try.underlying23 Try.typeInfo3 rfl rfl rfl (by decide) Tk Tk (by first | rfl | omega | (simp; done) | (simp; omega)) (ys := [((stF (nxF (sN (newF th va vo lk pl) es i) ev.1 ev.2.1 ev.2.2) ev.2.1).2.2)]) (rds_some rdn_cells) (by rfl) (by first | rfl | omega) (encZ_len) (encZ_one) (by omega) (by show _ * 8 ≤ _; omega) ?_
    intro ao87 cp87
    refine ag_nil ?_
    refine q_field (k := 6) rfl rfl rfl rfl Try.underlying44 rfl Try.sizeOf23 rfl ?_
    refine l_store (j := 6) rfl rfl rfl rfl Try.sizeOf23 (us := [_]) rfl rfl rfl Tk (by first | rfl | exact (Nat.add_zero _).symm) (by first | decide | (simp; done) | omega) ?_
    simp only [setL, List.set]
    refine ag_nil ?_
    refine r_done ?_
    refine s_keep [1, 4, 6, 8, 9] (e' := [(1, _), (4, _), (6, _), (8, _), (9, _)]) rfl ?_
    refine k_blk_n ?_
    refine k_then_n ?_
    refine c_plain (.q 0 (.q 1 (.q 2 (.done)))) (by kernel_rfl) ?_
    refine q_move rfl rfl rfl rfl ?_
    refine q_int rfl rfl rfl rfl rfl (b_add' _ (by exact fits_i64 (by omega) (by omega))) ?_
    refine q_assign rfl rfl rfl rfl ?_
    refine r_done ?_
    refine k_then_n ?_
    rw [← sN_next hev]
    have hq1 : (g ++ [ev]).length = g.length + 1 := by simp
    have hq2 : (RL ++ ([((stF (sN (newF th va vo lk pl) es (i + 1)) ev.2.1).2.2)])).length = RL.length + 1 := by simp
    refine s_take (A := cells b8 0 [.int .i64 th, .int .i64 va, .int .i64 vo, .int .i64 lk, .slice ao n c, .slice ao81 (g.length + 1) cp81, .slice ao87 (RL.length + 1) cp87]) Td ?_
    refine s_heap (Γ' := cells b8 0 [.int .i64 th, .int .i64 va, .int .i64 vo, .int .i64 lk, .slice ao n c, .slice ao81 (g ++ [ev]).length cp81, .slice ao87 (RL ++ ([((stF (sN (newF th va vo lk pl) es (i + 1)) ev.2.1).2.2)])).length cp87] :: _) (fun _ h => (by rw [hq1, hq2]; exact h)) ?_
    refine loop_next (x := (i, g, ea, ed, RL, ra, rd)) ((i + 1, g ++ [ev], ao81, cp81, (RL ++ ([((stF (sN (newF th va vo lk pl) es (i + 1)) ev.2.1).2.2)])), ao87, cp87)) ?_ ?_ ?_ ?_
    · try dsimp only
      exact ⟨by omega, by rw [hg, runE_yes hev hc], by omega, by omega⟩
    · show m - (i + 1) < m - i; omega
    · exact ⟨rfl, rfl, rfl, rfl, rfl, trivial⟩
    · (try simp only [List.cons_append, List.nil_append]); exact Tf
 ·
  refine c_exit ?_
  refine k_then_exit ?_
  refine k_then_exit ?_
  refine k_blk_here ?_
  refine k_then_n ?_
  refine c_seq ?_
  refine c_plain (.q 0 ((.l 1 [] (.q 2 (.done))))) (by kernel_rfl) ?_
  refine q_loadN_c rfl rfl rfl rfl Try.isAgg44 Try.sizeOf44 Tk 0 (us := [_, _, _, _, _, _, _]) (by first | rfl | exact (Nat.add_zero _).symm) rfl rfl ?_
  refine l_store (j := 0) rfl rfl rfl rfl Try.sizeOf44 (us := [_, _, _, _, _, _, _]) rfl rfl rfl Tk (by first | rfl | exact (Nat.add_zero _).symm) (by first | decide | (simp; done) | omega) ?_
  simp only [setL, List.set]
  refine ag_nil ?_
  refine q_assign rfl rfl rfl rfl ?_
  refine r_done ?_
  refine s_keep [4, 5] (e' := [(4, _), (5, _)]) rfl ?_
  refine k_then_n ?_
  refine c_ret ?_
  obtain rfl : i = m := by omega
  rw [List.take_of_length_le (by omega)] at hg
  subst hg
  refine retL (us := [_, _]) rfl ⟨rv_cellN rfl Try.isAgg44 Try.sizeOf44 Tk 0 rfl (us := [_, _, _, _, _, _, _]) rfl rfl, rv_tmp rfl, trivial⟩ (((ea, ed), (ra, rd), RL)) (by first | rfl | (first | rfl | (congr 1; done) | (congr 1 <;> first | rfl | omega | (simp; done) | (simp; omega)))) (by omega) ?_
  exact Tf
theorem run_bad (th va vo lk : Int) (pl : List Int) (ao : Option Addr) (n c : Nat) (A : HProp) (hr : RdS A ao (pl.flatMap encZ)) (hn : pl.length = n) (hb : n ≤ 4000000) (es : List T3) (eo : Option Addr) (m ec : Nat) (he : RdS A eo (es.flatMap enc3)) (hm : es.length = m) (hmb : m ≤ 4000000) (hok : ¬ OkS th va vo lk pl) : Spec Try.prog 16 [.agg #[.int .i64 th, .int .i64 va, .int .i64 vo, .int .i64 lk, .slice ao n c], .slice eo m ec] [A] (fun (_ : Unit) => .tuple #[.agg #[.int .i64 th, .int .i64 va, .int .i64 vo, .int .i64 lk, .slice ao n c, .slice none 0 0, .slice none 0 0], .bool false]) (fun _ => True) (fun _ => [A]) := by
 refine spec_mk (n := 90) Try.func16 rfl rfl rfl ?_
 intro Γ w0
 simp only [argE, List.cons_append, List.nil_append, Nat.zero_add, Nat.reduceAdd]
 refine c_seq ?_
 refine c_plain ((.l 0 [] ((.l 1 [] (.q 2 (.done)))))) (by kernel_rfl) ?_
 refine l_box rfl rfl rfl rfl (us := [_, _, _, _, _]) rfl ?_
 intro b2
 refine ag_nil ?_
 refine l_alloc rfl rfl rfl Try.zeroValue44 (zs := [.int .i64 0, .int .i64 0, .int .i64 0, .int .i64 0, .slice none 0 0, .slice none 0 0, .slice none 0 0]) rfl ?_
 intro b4
 refine ag_nil ?_
 refine q_assign rfl rfl rfl rfl ?_
 refine r_done ?_
 refine k_then_n ?_
 refine c_seq ?_
 refine c_plain (.q 0 ((.l 1 [] (.q 2 (.q 3 (.q 4 (.q 5 (.q 6 (.done))))))))) (by kernel_rfl) ?_
 refine q_loadN_c rfl rfl rfl rfl Try.isAgg25 Try.sizeOf25 Tk 0 (us := [_, _, _, _, _]) (by first | rfl | exact (Nat.add_zero _).symm) rfl rfl ?_
 have sp_2 := rnewbad_spec th va vo lk pl ao n c A (hr) (by first | rfl | assumption | omega | (simp; done) | (simp; omega)) (by omega) hok
 refine l_call rfl rfl rfl rfl rfl rfl Try.call31 (sp_2) Ts ?_
 rintro ⟨⟩ -
 try simp only [List.cons_append, List.nil_append]
 refine ag_nil ?_
 refine q_move rfl rfl rfl rfl ?_
 refine q_extract rfl rfl rfl rfl rfl ?_
 refine q_extract rfl rfl rfl rfl rfl ?_
 refine q_assign rfl rfl rfl rfl ?_
 refine q_assign rfl rfl rfl rfl ?_
 refine r_done ?_
 refine s_keep [1, 2, 4, 6, 7] (e' := [(1, _), (2, _), (4, _), (6, _), (7, _)]) rfl ?_
 refine k_then_n ?_
 refine c_seq ?_
 refine c_plain (.q 0 (.q 1 ((.l 2 [] ((.l 3 [] (.done))))))) (by kernel_rfl) ?_
 refine q_loadN_c rfl rfl rfl rfl Try.isAgg25 Try.sizeOf25 Tk 0 (us := [_, _, _, _, _]) (by first | rfl | exact (Nat.add_zero _).symm) rfl rfl ?_
 refine q_build rfl rfl rfl rfl (vs := [_, _, _, _, _, _, _]) (run_buildS Try.underlying44 Try.zeroValue44 (ps := [(0, 5), (5, 1), (6, 1)]) ⟨rfl, Try.sizeOf25, rfl, Try.sizeOf26, rfl, Try.sizeOf23, trivial⟩ rfl) ?_
 refine l_alloc rfl rfl rfl Try.zeroValue44 (zs := [.int .i64 0, .int .i64 0, .int .i64 0, .int .i64 0, .slice none 0 0, .slice none 0 0, .slice none 0 0]) rfl ?_
 intro b8
 refine ag_nil ?_
 refine l_store (j := 0) rfl rfl rfl rfl Try.sizeOf44 (us := [_, _, _, _, _, _, _]) rfl rfl rfl Tk (by first | rfl | exact (Nat.add_zero _).symm) (by first | decide | (simp; done) | omega) ?_
 simp only [setL, List.set]
 refine ag_nil ?_
 refine r_done ?_
 refine k_then_n ?_
 refine c_seq ?_
 refine c_seq ?_
 refine c_plain (.q 0 (.q 1 (.done))) (by kernel_rfl) ?_
 refine q_move rfl rfl rfl rfl ?_
 refine q_int rfl rfl rfl rfl rfl (b_neq _ _ _ _) ?_
 refine s_eq 23 rfl (v' := .bool true) (by first | rfl | simp) ?_
 refine r_done ?_
 refine s_keep [1, 4, 6, 8, 23] (e' := [(1, _), (4, _), (6, _), (8, _), (23, _)]) rfl ?_
 refine k_then_n ?_
 refine c_cond_t rfl ?_
 refine c_seq ?_
 refine c_plain (.q 0 ((.l 1 [] (.q 2 (.done))))) (by kernel_rfl) ?_
 refine q_loadN_c rfl rfl rfl rfl Try.isAgg44 Try.sizeOf44 Tk 0 (us := [_, _, _, _, _, _, _]) (by first | rfl | exact (Nat.add_zero _).symm) rfl rfl ?_
 refine l_store (j := 0) rfl rfl rfl rfl Try.sizeOf44 (us := [_, _, _, _, _, _, _]) rfl rfl rfl Tk (by first | rfl | exact (Nat.add_zero _).symm) (by first | decide | (simp; done) | omega) ?_
 simp only [setL, List.set]
 refine ag_nil ?_
 refine q_assign rfl rfl rfl rfl ?_
 refine r_done ?_
 refine s_keep [4, 5] (e' := [(4, _), (5, _)]) rfl ?_
 refine k_then_n ?_
 refine c_ret ?_
 refine k_then_ret ?_
 refine retL (us := [_, _]) rfl ⟨rv_cellN rfl Try.isAgg44 Try.sizeOf44 Tk 0 rfl (us := [_, _, _, _, _, _, _]) rfl rfl, rv_tmp rfl, trivial⟩ (()) (by first | rfl | (first | rfl | (congr 1; done) | (congr 1 <;> first | rfl | omega | (simp; done) | (simp; omega)))) (by trivial) ?_
 exact Tf
theorem cheap_ok (th va vo lk : Int) (pl : List Int) (ao : Option Addr) (n c : Nat) (A : HProp) (hr : RdS A ao (pl.flatMap encZ)) (hn : pl.length = n) (hb : n ≤ 4000000) (es : List T3) (eo : Option Addr) (m ec : Nat) (he : RdS A eo (es.flatMap enc3)) (hm : es.length = m) (hmb : m ≤ 4000000) (hok : OkS th va vo lk pl) : Spec Try.prog 5 [.agg #[.int .i64 th, .int .i64 va, .int .i64 vo, .int .i64 lk, .slice ao n c], .slice eo m ec] [A] (fun (_ : Unit) => .bool true) (fun _ => True) (fun _ => [A]) := by
 refine spec_mk (n := 166) Try.func5 rfl rfl rfl ?_
 intro Γ w0
 simp only [argE, List.cons_append, List.nil_append, Nat.zero_add, Nat.reduceAdd]
 refine c_seq ?_
 refine c_plain ((.l 0 [] (.q 1 (.done)))) (by kernel_rfl) ?_
 refine l_box rfl rfl rfl rfl (us := [_, _, _, _, _]) rfl ?_
 intro b2
 refine ag_nil ?_
 refine q_assign rfl rfl rfl rfl ?_
 refine r_done ?_
 refine k_then_n ?_
 refine c_seq ?_
 refine c_plain (.q 0 (.q 1 ((.l 2 [] (.q 3 (.q 4 (.q 5 ((.l 6 [] ((.l 7 [] (.q 8 (.done))))))))))))) (by kernel_rfl) ?_
 refine q_loadN_c rfl rfl rfl rfl Try.isAgg25 Try.sizeOf25 Tk 0 (us := [_, _, _, _, _]) (by first | rfl | exact (Nat.add_zero _).symm) rfl rfl ?_
 refine q_move rfl rfl rfl rfl ?_
 have sp_1 := run_ok th va vo lk pl ao n c A (hr) (by first | rfl | assumption | omega | (simp; done) | (simp; omega)) (by omega) es eo m ec (he) (by first | rfl | assumption | omega | (simp; done) | (simp; omega)) (by omega) hok
 refine l_call rfl rfl rfl rfl rfl rfl Try.call16 (sp_1) Ts ?_
 rintro ⟨⟨ea, ed⟩, ⟨ra, rd⟩, RL⟩ hRL
 have hcan := fun (i : Nat) (e : T3) (h : (runE (newF th va vo lk pl) es)[i]? = some e) => run_can hok es (by omega) h
 have hLl := runE_len es (newF th va vo lk pl)
 generalize hL : (runE (newF th va vo lk pl) es) = L at hcan hLl ⊢
 try simp only [List.cons_append, List.nil_append]
 refine ag_nil ?_
 refine q_move rfl rfl rfl rfl ?_
 refine q_extract rfl rfl rfl rfl rfl ?_
 refine q_extract rfl rfl rfl rfl rfl ?_
 refine l_alloc rfl rfl rfl Try.zeroValue44 (zs := [.int .i64 0, .int .i64 0, .int .i64 0, .int .i64 0, .slice none 0 0, .slice none 0 0, .slice none 0 0]) rfl ?_
 intro b5
 refine ag_nil ?_
 refine l_store (j := 0) rfl rfl rfl rfl Try.sizeOf44 (us := [_, _, _, _, _, _, _]) rfl rfl rfl Tk (by first | rfl | exact (Nat.add_zero _).symm) (by first | decide | (simp; done) | omega) ?_
 simp only [setL, List.set]
 refine ag_nil ?_
 refine q_assign rfl rfl rfl rfl ?_
 refine r_done ?_
 refine s_keep [2, 5, 6] (e' := [(2, _), (5, _), (6, _)]) rfl ?_
 refine k_then_n ?_
 refine c_seq ?_
 refine c_plain (.q 0 ((.l 1 [] (.q 2 (.q 3 (.q 4 (.q 5 (.q 6 (.done))))))))) (by kernel_rfl) ?_
 refine q_loadN_c rfl rfl rfl rfl Try.isAgg25 Try.sizeOf25 Tk 0 (us := [_, _, _, _, _]) (by first | rfl | exact (Nat.add_zero _).symm) rfl rfl ?_
 have sp_2 := Fa.new_spec th va vo lk pl ao n c A (hr) (by first | rfl | assumption | omega | (simp; done) | (simp; omega)) (by omega) hok
 refine l_call rfl rfl rfl rfl rfl rfl Try.call9 (sp_2) Ts ?_
 rintro ⟨d, ⟨dpa, dpc⟩, dpo, dpoc⟩ -
 try simp only [List.cons_append, List.nil_append]
 refine ag_nil ?_
 refine q_move rfl rfl rfl rfl ?_
 refine q_extract rfl rfl rfl rfl rfl ?_
 refine q_extract rfl rfl rfl rfl rfl ?_
 refine q_assign rfl rfl rfl rfl ?_
 refine q_assign rfl rfl rfl rfl ?_
 refine r_done ?_
 refine s_keep [5, 6, 7, 8] (e' := [(5, _), (6, _), (7, _), (8, _)]) rfl ?_
 refine k_then_n ?_
 refine c_seq ?_
 refine c_seq ?_
 refine c_plain (.q 0 (.q 1 (.q 2 (.q 3 (.q 4 (.q 5 (.q 6 (.q 7 (.q 8 (.q 9 (.done))))))))))) (by kernel_rfl) ?_
 refine q_move rfl rfl rfl rfl ?_
 refine q_ne_nil rfl rfl rfl rfl Try.underlying27 ?_
 refine s_eq 32 rfl (v' := .bool true) rfl ?_
 refine q_move rfl rfl rfl rfl ?_
 refine q_neb rfl rfl rfl rfl rfl Try.underlying4 ?_
 refine s_eq 34 rfl (v' := .bool false) rfl ?_
 refine q_move rfl rfl rfl rfl ?_
 refine q_move rfl rfl rfl rfl ?_
 refine q_int rfl rfl rfl rfl rfl (b_eql _ _ _ _) ?_
 refine s_eq 37 rfl (v' := .bool true) (by first | rfl | simp) ?_
 refine q_move rfl rfl rfl rfl ?_
 refine q_neb rfl rfl rfl rfl rfl Try.underlying4 ?_
 refine s_eq 39 rfl (v' := .bool false) rfl ?_
 refine q_pick_f rfl rfl rfl rfl rfl ?_
 refine r_done ?_
 refine s_keep [5, 7, 40] (e' := [(5, _), (7, _), (40, _)]) rfl ?_
 refine k_then_n ?_
 refine c_cond_f rfl ?_
 refine c_skip ?_
 refine k_then_n ?_
 refine c_seq ?_
 refine c_seq ?_
 refine c_plain (.q 0 (.q 1 (.done))) (by kernel_rfl) ?_
 refine q_move rfl rfl rfl rfl ?_
 refine q_eq_nil rfl rfl rfl rfl Try.underlying27 ?_
 refine s_eq 42 rfl (v' := .bool false) rfl ?_
 refine r_done ?_
 refine k_then_n ?_
 refine c_cond_f rfl ?_
 refine c_skip ?_
 refine k_then_n ?_
 refine c_seq ?_
 refine c_seq ?_
 refine c_plain (.q 0 (.done)) (by kernel_rfl) ?_
 refine q_assign rfl rfl rfl rfl ?_
 refine r_done ?_
 refine k_then_n ?_
 refine c_block ?_
 refine c_loop2 (α := Nat) (fun (i : Nat) => i ≤ L.length) (fun (i : Nat) => [(9, .int .i64 ((i : Nat) : Int))]) (fun (i : Nat) => [dfR dpa dpc dpo dpoc d (fAll (fNew th va vo lk pl) (L.take i)), own 1 encZ dpa dpc pl, own 1 encZ dpo dpoc pl]) (fun (i : Nat) => L.length - i) [5, 7] (er := [(5, _), (7, _)]) rfl (0) ?_ (by exact ⟨rfl, trivial⟩) (by (try dsimp only); rw [List.take_zero, show fAll (fNew th va vo lk pl) [] = (fNew th va vo lk pl) from rfl]; (repeat ((with_reducible apply Z2); focus (first | (with_reducible (repeat (first | exact Z0 | apply Z1)); done) | (repeat (first | exact Z0 | apply Z1))))); exact Z3) ?_
 · exact Nat.zero_le _
 rintro i hle_i
 try simp only [List.cons_append, List.nil_append]
 refine c_seq ?_
 refine c_seq ?_
 refine c_plain (.q 0 (.q 1 (.q 2 (.q 3 (.q 4 (.done)))))) (by kernel_rfl) ?_
 refine q_move rfl rfl rfl rfl ?_
 refine q_field (k := 5) rfl rfl rfl rfl Try.underlying44 rfl Try.sizeOf26 rfl ?_
 refine q_load_c (j := 5) rfl rfl rfl rfl Try.isAgg26 Tk (by first | rfl | exact (Nat.add_zero _).symm) (by rfl) ?_
 refine q_len rfl rfl rfl rfl Try.underlying26 ?_
 refine q_int rfl rfl rfl rfl rfl (b_lss _ _ _ _) ?_
 refine r_done ?_
 refine s_keep [5, 7, 9, 48] (e' := [(5, _), (7, _), (9, _), (48, _)]) rfl ?_
 refine k_then_n ?_
 refine c_cond_p rfl (fun hlt => ?_) (fun hlt => ?_)
 ·
  refine c_skip ?_
  refine k_then_n ?_
  refine c_seq ?_
  refine c_block ?_
  refine c_seq ?_
  obtain ⟨⟨k, t_, o⟩, he_⟩ := get_lt (l := L) (i := i) (by omega)
  have hv := hcan i _ he_
  obtain ⟨Y, hY⟩ : ∃ Y, Y = fAll (fNew th va vo lk pl) (L.take i) := ⟨_, rfl⟩
  have hYi : FInv Y := by rw [hY]; exact fAll_inv (new_finv hok (new_inv hok)) _
  obtain ⟨hdn, hYp, -⟩ := fAll_n (L.take i) (fNew th va vo lk pl)
  rw [List.length_take, show (fNew th va vo lk pl).v.ck.n = 0 from rfl] at hdn
  rw [← hY] at hdn hYp hv ⊢
  replace hv : vcanF Y.v k t_ o := hv
  obtain ⟨l, hth⟩ := th_some hYi.v (can_th hv.1)
  obtain ⟨h0, h1⟩ := th_rng hYi.v (can_th hv.1)
  obtain ⟨t, rfl⟩ := Int.eq_ofNat_of_zero_le h0
  have hlc := hYi.v.thc _ _ hth
  have hl1 := hYi.own _ _ hth
  have hlg := g_rng hlc.rng (by decide) t
  rw [← thF_eq hth] at hlc hl1 hlg
  rw [Int.toNat_natCast] at hl1
  have htl : t < (thF Y.v ((t : Nat) : Int)).length := by
    rcases Nat.lt_or_ge t (thF Y.v ((t : Nat) : Int)).length with h | h
    · exact h
    · rw [g_out h] at hl1; omega
  have hc0 := hYi.c0
  have hc1 := (fe_inv hYi k ((t : Nat) : Int) o).c0
  have hfn := (fe_n (x := Y) k ((t : Nat) : Int) o).1
  have hn0 := hYi.v.ck.n0
  refine c_plain (.q 0 (.q 1 (.q 2 (.q 3 (.q 4 ((.l 5 [] ((.l 6 [] (.done)))))))))) (by kernel_rfl) ?_
  refine q_field (k := 5) rfl rfl rfl rfl Try.underlying44 rfl Try.sizeOf26 rfl ?_
  refine q_load_c (j := 5) rfl rfl rfl rfl Try.isAgg26 Tk (by first | rfl | exact (Nat.add_zero _).symm) (by rfl) ?_
  refine q_move rfl rfl rfl rfl ?_
  refine q_idxO (sz := 2) (k := i) (enc := enc3) (xs := L) rfl rfl rfl rfl rfl Try.underlying26 Try.sizeOf36 he_ (by first | rfl | omega) (by omega) Tk ?_
  intro ib54 io54 ha54 hl54 hc54
  refine q_loadN_O (j := 0) (k' := i) (us := [_, _, _]) (enc := enc3) (off := io54) rfl rfl rfl rfl Try.isAgg36 Try.sizeOf36 ha54 enc3_len he_ Tk (by first | rfl | exact (Nat.add_zero _).symm | omega) (by rfl) rfl ?_
  refine l_alloc rfl rfl rfl Try.zeroValue36 (zs := [.int .i64 0, .int .i64 0, .int .i64 0]) rfl ?_
  intro b10
  refine ag_nil ?_
  refine l_store (j := 0) rfl rfl rfl rfl Try.sizeOf36 (us := [_, _, _]) rfl rfl rfl Tk (by first | rfl | exact (Nat.add_zero _).symm) (by first | decide | (simp; done) | omega) ?_
  simp only [setL, List.set]
  refine ag_nil ?_
  refine r_done ?_
  refine s_keep [5, 7, 9, 10] (e' := [(5, _), (7, _), (9, _), (10, _)]) rfl ?_
  refine k_then_n ?_
  refine c_seq ?_
  refine c_plain (.q 0 ((.l 1 [] (.q 2 (.done))))) (by kernel_rfl) ?_
  refine q_move rfl rfl rfl rfl ?_
  have sp_3 := Fa.cost_spec dpa dpc dpo dpoc d Y hYi
  refine l_call rfl rfl rfl rfl rfl rfl Try.call17 (sp_3) Ts ?_
  rintro ⟨⟩ -
  try simp only [List.cons_append, List.nil_append]
  refine ag_nil ?_
  refine q_assign rfl rfl rfl rfl ?_
  refine r_done ?_
  refine k_then_n ?_
  refine c_seq ?_
  refine c_plain (.q 0 (.q 1 (.q 2 ((.l 3 [] (.q 4 (.q 5 (.q 6 ((.l 7 [] ((.l 8 [] (.q 9 (.done)))))))))))))) (by kernel_rfl) ?_
  refine q_move rfl rfl rfl rfl ?_
  refine q_field (k := 2) rfl rfl rfl rfl Try.underlying36 rfl Try.sizeOf3 rfl ?_
  refine q_load_c (j := 2) rfl rfl rfl rfl Try.isAgg3 Tk (by first | rfl | exact (Nat.add_zero _).symm) (by rfl) ?_
  have sp_4 := Fa.state_spec dpa dpc dpo dpoc d Y hYi o
  refine l_call rfl rfl rfl rfl rfl rfl Try.call18 (sp_4) Ts ?_
  rintro ⟨sba, sbc⟩ -
  try simp only [List.cons_append, List.nil_append]
  refine ag_nil ?_
  refine q_move rfl rfl rfl rfl ?_
  refine q_extract rfl rfl rfl rfl rfl ?_
  refine q_extract rfl rfl rfl rfl rfl ?_
  refine l_alloc rfl rfl rfl Try.zeroValue52 (zs := [.int .u64 0, .int .u64 0, .bool false, .slice none 0 0]) rfl ?_
  intro b12
  refine ag_nil ?_
  refine l_store (j := 0) rfl rfl rfl rfl Try.sizeOf52 (us := [_, _, _, _]) rfl rfl rfl Tk (by first | rfl | exact (Nat.add_zero _).symm) (by first | decide | (simp; done) | omega) ?_
  simp only [setL, List.set]
  refine ag_nil ?_
  refine q_assign rfl rfl rfl rfl ?_
  refine r_done ?_
  refine s_keep [5, 7, 9, 10, 11, 12] (e' := [(5, _), (7, _), (9, _), (10, _), (11, _), (12, _)]) rfl ?_
  refine k_then_n ?_
  refine c_seq ?_
  refine c_plain (.q 0 (.q 1 (.q 2 ((.l 3 [] (.q 4 (.done))))))) (by kernel_rfl) ?_
  refine q_move rfl rfl rfl rfl ?_
  refine q_field (k := 1) rfl rfl rfl rfl Try.underlying36 rfl Try.sizeOf3 rfl ?_
  refine q_load_c (j := 1) rfl rfl rfl rfl Try.isAgg3 Tk (by first | rfl | exact (Nat.add_zero _).symm) (by rfl) ?_
  have sp_5 := Fa.vector_spec dpa dpc dpo dpoc d Y hYi ((t : Nat) : Int)
  refine l_call rfl rfl rfl rfl rfl rfl Try.call19 (sp_5) Ts ?_
  rintro ⟨vea, vec⟩ -
  try simp only [List.cons_append, List.nil_append]
  refine ag_nil ?_
  refine q_assign rfl rfl rfl rfl ?_
  refine r_done ?_
  refine s_keep [5, 7, 9, 10, 11, 12, 14] (e' := [(5, _), (7, _), (9, _), (10, _), (11, _), (12, _), (14, _)]) rfl ?_
  refine k_then_n ?_
  refine c_seq ?_
  refine c_seq ?_
  refine c_plain (.q 0 (.q 1 ((.l 2 [] (.q 3 (.q 4 (.q 5 (.q 6 (.q 7 (.q 8 (.q 9 (.q 10 (.done))))))))))))) (by kernel_rfl) ?_
  refine q_move rfl rfl rfl rfl ?_
  refine q_loadN_c rfl rfl rfl rfl Try.isAgg36 Try.sizeOf36 Tk 0 (us := [_, _, _]) (by first | rfl | exact (Nat.add_zero _).symm) rfl rfl ?_
  have sp_6 := Fa.event_spec dpa dpc dpo dpoc d Y hYi (by omega) pl hYp k ((t : Nat) : Int) o
  refine l_call rfl rfl rfl rfl rfl rfl Try.call14 (sp_6) Ts ?_
  rintro ⟨⟩ -
  try simp only [List.cons_append, List.nil_append]
  refine ag_nil ?_
  refine s_eq 71 rfl (v' := .int .i64 0) (by rw [feE, if_pos hv]) ?_
  refine q_int rfl rfl rfl rfl rfl (b_neq _ _ _ _) ?_
  refine s_eq 72 rfl (v' := .bool false) (by first | rfl | simp) ?_
  refine q_move rfl rfl rfl rfl ?_
  refine q_field (k := 1) rfl rfl rfl rfl Try.underlying36 rfl Try.sizeOf3 rfl ?_
  refine q_load_c (j := 1) rfl rfl rfl rfl Try.isAgg3 Tk (by first | rfl | exact (Nat.add_zero _).symm) (by rfl) ?_
  refine q_move rfl rfl rfl rfl ?_
  refine q_len rfl rfl rfl rfl Try.underlying50 ?_
  refine q_int rfl rfl rfl rfl rfl (b_geq _ _ _ _) ?_
  refine q_pick_f rfl rfl rfl rfl rfl ?_
  refine r_done ?_
  refine s_keep [5, 7, 9, 10, 11, 12, 14, 74, 75, 76, 77, 78, 79] (e' := [(5, _), (7, _), (9, _), (10, _), (11, _), (12, _), (14, _), (74, _), (75, _), (76, _), (77, _), (78, _), (79, _)]) rfl ?_
  refine k_then_n ?_
  refine c_cond_p rfl (fun hg => by exfalso; omega) (fun hg => ?_)
  refine c_skip ?_
  refine k_then_n ?_
  refine c_seq ?_
  refine c_plain (.q 0 ((.l 1 [] (.q 2 (.q 3 (.q 4 (.done))))))) (by kernel_rfl) ?_
  refine q_move rfl rfl rfl rfl ?_
  have sp_7 := Fa.cost_spec dpa dpc dpo dpoc d (feF Y k ((t : Nat) : Int) o) (fe_inv hYi k ((t : Nat) : Int) o)
  refine l_call rfl rfl rfl rfl rfl rfl Try.call17 (sp_7) Ts ?_
  rintro ⟨⟩ -
  try simp only [List.cons_append, List.nil_append]
  refine ag_nil ?_
  refine q_move rfl rfl rfl rfl ?_
  refine q_int rfl rfl rfl rfl rfl (b_sub' _ (by exact fits_i64 (by omega) (by omega))) ?_
  refine q_assign rfl rfl rfl rfl ?_
  refine r_done ?_
  refine s_keep [5, 7, 9, 10, 12, 14, 15, 74, 75, 76, 77, 78] (e' := [(5, _), (7, _), (9, _), (10, _), (12, _), (14, _), (15, _), (74, _), (75, _), (76, _), (77, _), (78, _)]) rfl ?_
  refine k_then_n ?_
  refine c_seq ?_
  refine c_plain (.q 0 (.q 1 (.q 2 ((.l 3 [] (.q 4 (.q 5 (.q 6 ((.l 7 [] ((.l 8 [] (.q 9 (.done)))))))))))))) (by kernel_rfl) ?_
  refine q_move rfl rfl rfl rfl ?_
  refine q_field (k := 2) rfl rfl rfl rfl Try.underlying36 rfl Try.sizeOf3 rfl ?_
  refine q_load_c (j := 2) rfl rfl rfl rfl Try.isAgg3 Tk (by first | rfl | exact (Nat.add_zero _).symm) (by rfl) ?_
  have sp_8 := Fa.state_spec dpa dpc dpo dpoc d (feF Y k ((t : Nat) : Int) o) (fe_inv hYi k ((t : Nat) : Int) o) o
  refine l_call rfl rfl rfl rfl rfl rfl Try.call18 (sp_8) Ts ?_
  rintro ⟨saa, sac⟩ -
  try simp only [List.cons_append, List.nil_append]
  refine ag_nil ?_
  refine q_move rfl rfl rfl rfl ?_
  refine q_extract rfl rfl rfl rfl rfl ?_
  refine q_extract rfl rfl rfl rfl rfl ?_
  refine l_alloc rfl rfl rfl Try.zeroValue52 (zs := [.int .u64 0, .int .u64 0, .bool false, .slice none 0 0]) rfl ?_
  intro b16
  refine ag_nil ?_
  refine l_store (j := 0) rfl rfl rfl rfl Try.sizeOf52 (us := [_, _, _, _]) rfl rfl rfl Tk (by first | rfl | exact (Nat.add_zero _).symm) (by first | decide | (simp; done) | omega) ?_
  simp only [setL, List.set]
  refine ag_nil ?_
  refine q_assign rfl rfl rfl rfl ?_
  refine r_done ?_
  refine s_keep [5, 7, 9, 10, 12, 14, 15, 16, 74, 75, 76, 77, 78] (e' := [(5, _), (7, _), (9, _), (10, _), (12, _), (14, _), (15, _), (16, _), (74, _), (75, _), (76, _), (77, _), (78, _)]) rfl ?_
  refine k_then_n ?_
  refine c_seq ?_
  refine c_draw rfl (.q 0 (.q 1 (.q 2 (.q 3 (.q 4 (.q 5 (.q 6 (.q 7 (.q 8 (.q 9 (.q 10 (.done)))))))))))) (by kernel_rfl) ?_
  refine q_field (k := 1) rfl rfl rfl rfl Try.underlying36 rfl Try.sizeOf3 rfl ?_
  refine q_load_c (j := 1) rfl rfl rfl rfl Try.isAgg3 Tk (by first | rfl | exact (Nat.add_zero _).symm) (by rfl) ?_
  refine q_conv' rfl rfl rfl rfl Try.underlying48 Try.underlying3 (by exact fits_u64 (by omega) (by omega)) ?_
  refine q_int rfl rfl rfl rfl rfl (b_shlL _ 48 281474976710656 rfl (by decide) rfl) ?_
  refine s_eq 94 rfl (v' := .int .u64 ((t * 281474976710656 : Nat) : Int)) (by rw [wrap_fits (fits_u64 (by omega) (by omega))]; first | done | (congr 1; done) | (congr 1; omega)) ?_
  refine q_move rfl rfl rfl rfl ?_
  refine q_field (k := 1) rfl rfl rfl rfl Try.underlying36 rfl Try.sizeOf3 rfl ?_
  refine q_load_c (j := 1) rfl rfl rfl rfl Try.isAgg3 Tk (by first | rfl | exact (Nat.add_zero _).symm) (by rfl) ?_
  refine q_idxO (sz := 0) (k := t) (enc := encU) (xs := (thF Y.v ((t : Nat) : Int))) rfl rfl rfl rfl rfl Try.underlying50 Try.sizeOf48 (getD_at htl) (by first | rfl | omega) (by omega) Tk ?_
  intro ib98 io98 ha98 hl98 hc98
  refine q_load_O (v := (.int .u64 ((thF Y.v ((t : Nat) : Int)).getD t 0))) (j := 0) (k' := t) (enc := encU) (off := io98) rfl rfl rfl rfl Try.isAgg48 ha98 encU_len (getD_at htl) Tk (by first | rfl | exact (Nat.add_zero _).symm | omega) (by rfl) ?_
  refine q_int rfl rfl rfl rfl rfl (b_or _ _ _ _) ?_
  refine s_eq 100 rfl (v' := .int .u64 ((pkN t (thF Y.v ((t : Nat) : Int)) : Nat) : Int)) (by rw [or_pk (by omega) (by omega) (by omega)]) ?_
  refine q_assign rfl rfl rfl rfl ?_
  refine r_done ?_
  refine s_keep [5, 7, 9, 10, 12, 15, 16, 18, 74, 75, 76, 77, 78] (e' := [(5, _), (7, _), (9, _), (10, _), (12, _), (15, _), (16, _), (18, _), (74, _), (75, _), (76, _), (77, _), (78, _)]) rfl ?_
  refine k_then_n ?_
  refine c_seq ?_
  refine c_plain (.q 0 (.q 1 (.q 2 (.q 3 (.q 4 (.q 5 (.q 6 (.q 7 (.q 8 (.done)))))))))) (by kernel_rfl) ?_
  rcases cheap_law hYi hv with hu0 | ⟨hu1, ⟨k1, a1, a2, a3⟩ | ⟨k2, a1, a2⟩⟩
  ·
   refine q_field (k := 0) rfl rfl rfl rfl Try.underlying36 rfl Try.sizeOf34 rfl ?_
   refine q_load_c (j := 0) rfl rfl rfl rfl Try.isAgg34 Tk (by first | rfl | exact (Nat.add_zero _).symm) (by rfl) ?_
   refine q_int rfl rfl rfl rfl rfl (b_eql _ _ _ _) ?_
   refine q_move rfl rfl rfl rfl ?_
   refine s_bool_p 104 rfl (fun q1 => ?_) (fun q1 => ?_)
   ·
    refine q_skip rfl rfl rfl rfl ?_
    refine q_skip rfl rfl rfl rfl ?_
    refine q_skip rfl rfl rfl rfl ?_
    refine q_pick_t rfl rfl rfl rfl rfl ?_
    refine q_assign rfl rfl rfl rfl ?_
    refine r_done ?_
    refine s_keep [5, 7, 9, 10, 12, 15, 16, 18, 19, 74, 75, 76, 77, 78, 105, 106, 107] (e' := [(5, _), (7, _), (9, _), (10, _), (12, _), (15, _), (16, _), (18, _), (19, _), (74, _), (75, _), (76, _), (77, _), (78, _), (105, _), (106, _), (107, _)]) rfl ?_
    refine k_then_n ?_
    refine c_seq ?_
    refine c_seq ?_
    refine c_plain (.q 0 (.q 1 (.q 2 (.q 3 (.q 4 (.q 5 (.q 6 (.q 7 (.q 8 (.q 9 (.q 10 (.q 11 (.q 12 (.q 13 (.done))))))))))))))) (by kernel_rfl) ?_
    refine q_move rfl rfl rfl rfl ?_
    refine q_int rfl rfl rfl rfl rfl (b_lss _ _ _ _) ?_
    refine q_move rfl rfl rfl rfl ?_
    refine s_bool_p 111 rfl (fun hg => by exfalso; omega) (fun hg => ?_)
    refine q_move rfl rfl rfl rfl ?_
    refine q_int rfl rfl rfl rfl rfl (b_gtr _ _ _ _) ?_
    refine q_pick_f rfl rfl rfl rfl rfl ?_
    refine q_move rfl rfl rfl rfl ?_
    refine s_bool_p 115 rfl (fun hg => by exfalso; omega) (fun hg => ?_)
    refine q_move rfl rfl rfl rfl ?_
    refine q_int rfl rfl rfl rfl rfl (b_eql _ _ _ _) ?_
    refine q_move rfl rfl rfl rfl ?_
    refine s_bool_p 118 rfl (fun hg => by exfalso; omega) (fun hg => ?_)
    refine q_skip rfl rfl rfl rfl ?_
    refine q_skip rfl rfl rfl rfl ?_
    refine q_pick_f rfl rfl rfl rfl rfl ?_
    refine q_pick_f rfl rfl rfl rfl rfl ?_
    refine r_done ?_
    refine s_keep [5, 7, 9, 10, 12, 15, 16, 18, 74, 75, 76, 77, 78, 105, 106, 107, 112, 113, 116, 117, 118, 119, 120, 121, 122] (e' := [(5, _), (7, _), (9, _), (10, _), (12, _), (15, _), (16, _), (18, _), (74, _), (75, _), (76, _), (77, _), (78, _), (105, _), (106, _), (107, _), (112, _), (113, _), (116, _), (117, _), (118, _), (119, _), (120, _), (121, _), (122, _)]) rfl ?_
    refine k_then_n ?_
    refine c_cond_f rfl ?_
    refine c_skip ?_
    refine k_then_n ?_
    refine c_seq ?_
    refine c_plain (.q 0 (.q 1 (.q 2 (.q 3 (.q 4 (.q 5 (.q 6 (.q 7 (.q 8 (.q 9 (.q 10 (.q 11 (.q 12 (.q 13 (.q 14 (.q 15 (.q 16 (.q 17 (.q 18 (.q 19 (.q 20 (.q 21 (.q 22 (.q 23 (.q 24 (.q 25 (.q 26 (.q 27 (.q 28 (.q 29 (.q 30 (.q 31 (.q 32 (.q 33 (.q 34 (.q 35 (.q 36 (.q 37 (.q 38 (.q 39 (.q 40 (.q 41 (.done))))))))))))))))))))))))))))))))))))))))))) (by kernel_rfl) ?_
    refine q_field (k := 0) rfl rfl rfl rfl Try.underlying36 rfl Try.sizeOf34 rfl ?_
    refine q_load_c (j := 0) rfl rfl rfl rfl Try.isAgg34 Tk (by first | rfl | exact (Nat.add_zero _).symm) (by rfl) ?_
    refine q_int rfl rfl rfl rfl rfl (b_eql _ _ _ _) ?_
    refine q_move rfl rfl rfl rfl ?_
    refine s_bool_p 126 rfl (fun q2 => ?_) (fun q2 => ?_)
    ·
     refine q_move rfl rfl rfl rfl ?_
     refine q_int rfl rfl rfl rfl rfl (b_eql _ _ _ _) ?_
     refine q_pick_t rfl rfl rfl rfl rfl ?_
     refine q_move rfl rfl rfl rfl ?_
     refine s_bool_p 130 rfl (fun hg => by exfalso; omega) (fun hg => ?_)
     refine q_skip rfl rfl rfl rfl ?_
     refine q_skip rfl rfl rfl rfl ?_
     refine q_skip rfl rfl rfl rfl ?_
     refine q_skip rfl rfl rfl rfl ?_
     refine q_skip rfl rfl rfl rfl ?_
     refine q_skip rfl rfl rfl rfl ?_
     refine q_skip rfl rfl rfl rfl ?_
     refine q_skip rfl rfl rfl rfl ?_
     refine q_skip rfl rfl rfl rfl ?_
     refine q_skip rfl rfl rfl rfl ?_
     refine q_skip rfl rfl rfl rfl ?_
     refine q_skip rfl rfl rfl rfl ?_
     refine q_skip rfl rfl rfl rfl ?_
     refine q_pick_f rfl rfl rfl rfl rfl ?_
     refine q_move rfl rfl rfl rfl ?_
     refine q_field (k := 0) rfl rfl rfl rfl Try.underlying36 rfl Try.sizeOf34 rfl ?_
     refine q_load_c (j := 0) rfl rfl rfl rfl Try.isAgg34 Tk (by first | rfl | exact (Nat.add_zero _).symm) (by rfl) ?_
     refine q_int rfl rfl rfl rfl rfl (b_eql _ _ _ _) ?_
     refine q_move rfl rfl rfl rfl ?_
     refine s_bool_p 149 rfl (fun q3 => ?_) (fun q3 => ?_)
     ·
      refine q_move rfl rfl rfl rfl ?_
      refine q_int rfl rfl rfl rfl rfl (b_eql _ _ _ _) ?_
      refine q_pick_t rfl rfl rfl rfl rfl ?_
      refine q_move rfl rfl rfl rfl ?_
      refine s_bool_p 153 rfl (fun hg => by exfalso; omega) (fun hg => ?_)
      refine q_skip rfl rfl rfl rfl ?_
      refine q_skip rfl rfl rfl rfl ?_
      refine q_skip rfl rfl rfl rfl ?_
      refine q_skip rfl rfl rfl rfl ?_
      refine q_skip rfl rfl rfl rfl ?_
      refine q_skip rfl rfl rfl rfl ?_
      refine q_skip rfl rfl rfl rfl ?_
      refine q_skip rfl rfl rfl rfl ?_
      refine q_skip rfl rfl rfl rfl ?_
      refine q_pick_f rfl rfl rfl rfl rfl ?_
      refine q_pick_f rfl rfl rfl rfl rfl ?_
      refine r_done ?_
      refine s_keep [5, 7, 9, 74, 75, 76, 77, 78, 105, 106, 107, 112, 113, 116, 117, 118, 119, 120, 121, 127, 128, 131, 132, 133, 134, 135, 136, 137, 138, 139, 140, 141, 142, 143, 146, 147, 148, 149, 150, 151, 152, 153, 154, 155, 156, 157, 158, 159, 160, 161, 162, 163, 164] (e' := [(5, _), (7, _), (9, _), (74, _), (75, _), (76, _), (77, _), (78, _), (105, _), (106, _), (107, _), (112, _), (113, _), (116, _), (117, _), (118, _), (119, _), (120, _), (121, _), (127, _), (128, _), (131, _), (132, _), (133, _), (134, _), (135, _), (136, _), (137, _), (138, _), (139, _), (140, _), (141, _), (142, _), (143, _), (146, _), (147, _), (148, _), (149, _), (150, _), (151, _), (152, _), (153, _), (154, _), (155, _), (156, _), (157, _), (158, _), (159, _), (160, _), (161, _), (162, _), (163, _), (164, _)]) rfl ?_
      refine k_then_n ?_
      refine c_cond_f rfl ?_
      refine c_skip ?_
      refine k_blk_n ?_
      refine k_then_n ?_
      refine c_plain (.q 0 (.q 1 (.q 2 (.done)))) (by kernel_rfl) ?_
      refine q_move rfl rfl rfl rfl ?_
      refine q_int rfl rfl rfl rfl rfl (b_add' _ (by exact fits_i64 (by omega) (by omega))) ?_
      refine q_assign rfl rfl rfl rfl ?_
      refine r_done ?_
      refine k_then_n ?_
      subst hY
      rw [show feF (fAll (fNew th va vo lk pl) (L.take i)) k ((t : Nat) : Int) o = fAll (fNew th va vo lk pl) (L.take (i + 1)) from (fAll_next he_).symm]
      refine loop_next (x := i) (i + 1) ?_ ?_ ?_ ?_
      · exact by show i + 1 ≤ L.length; omega
      · show L.length - (i + 1) < L.length - i; omega
      · exact ⟨rfl, rfl, rfl, trivial⟩
      · (try simp only [List.cons_append, List.nil_append]); exact Tf
     ·
      refine q_skip rfl rfl rfl rfl ?_
      refine q_skip rfl rfl rfl rfl ?_
      refine q_pick_f rfl rfl rfl rfl rfl ?_
      refine q_move rfl rfl rfl rfl ?_
      refine q_skip rfl rfl rfl rfl ?_
      refine q_skip rfl rfl rfl rfl ?_
      refine q_skip rfl rfl rfl rfl ?_
      refine q_skip rfl rfl rfl rfl ?_
      refine q_skip rfl rfl rfl rfl ?_
      refine q_skip rfl rfl rfl rfl ?_
      refine q_skip rfl rfl rfl rfl ?_
      refine q_skip rfl rfl rfl rfl ?_
      refine q_skip rfl rfl rfl rfl ?_
      refine q_pick_f rfl rfl rfl rfl rfl ?_
      refine q_pick_f rfl rfl rfl rfl rfl ?_
      refine r_done ?_
      refine s_keep [5, 7, 9, 74, 75, 76, 77, 78, 105, 106, 107, 112, 113, 116, 117, 118, 119, 120, 121, 127, 128, 131, 132, 133, 134, 135, 136, 137, 138, 139, 140, 141, 142, 143, 146, 147, 148, 149, 150, 151, 152, 153, 154, 155, 156, 157, 158, 159, 160, 161, 162, 163, 164] (e' := [(5, _), (7, _), (9, _), (74, _), (75, _), (76, _), (77, _), (78, _), (105, _), (106, _), (107, _), (112, _), (113, _), (116, _), (117, _), (118, _), (119, _), (120, _), (121, _), (127, _), (128, _), (131, _), (132, _), (133, _), (134, _), (135, _), (136, _), (137, _), (138, _), (139, _), (140, _), (141, _), (142, _), (143, _), (146, _), (147, _), (148, _), (149, _), (150, _), (151, _), (152, _), (153, _), (154, _), (155, _), (156, _), (157, _), (158, _), (159, _), (160, _), (161, _), (162, _), (163, _), (164, _)]) rfl ?_
      refine k_then_n ?_
      refine c_cond_f rfl ?_
      refine c_skip ?_
      refine k_blk_n ?_
      refine k_then_n ?_
      refine c_plain (.q 0 (.q 1 (.q 2 (.done)))) (by kernel_rfl) ?_
      refine q_move rfl rfl rfl rfl ?_
      refine q_int rfl rfl rfl rfl rfl (b_add' _ (by exact fits_i64 (by omega) (by omega))) ?_
      refine q_assign rfl rfl rfl rfl ?_
      refine r_done ?_
      refine k_then_n ?_
      subst hY
      rw [show feF (fAll (fNew th va vo lk pl) (L.take i)) k ((t : Nat) : Int) o = fAll (fNew th va vo lk pl) (L.take (i + 1)) from (fAll_next he_).symm]
      refine loop_next (x := i) (i + 1) ?_ ?_ ?_ ?_
      · exact by show i + 1 ≤ L.length; omega
      · show L.length - (i + 1) < L.length - i; omega
      · exact ⟨rfl, rfl, rfl, trivial⟩
      · (try simp only [List.cons_append, List.nil_append]); exact Tf
    ·
     refine q_skip rfl rfl rfl rfl ?_
     refine q_skip rfl rfl rfl rfl ?_
     refine q_pick_f rfl rfl rfl rfl rfl ?_
     refine q_move rfl rfl rfl rfl ?_
     refine q_skip rfl rfl rfl rfl ?_
     refine q_skip rfl rfl rfl rfl ?_
     refine q_skip rfl rfl rfl rfl ?_
     refine q_skip rfl rfl rfl rfl ?_
     refine q_skip rfl rfl rfl rfl ?_
     refine q_skip rfl rfl rfl rfl ?_
     refine q_skip rfl rfl rfl rfl ?_
     refine q_skip rfl rfl rfl rfl ?_
     refine q_skip rfl rfl rfl rfl ?_
     refine q_skip rfl rfl rfl rfl ?_
     refine q_skip rfl rfl rfl rfl ?_
     refine q_skip rfl rfl rfl rfl ?_
     refine q_skip rfl rfl rfl rfl ?_
     refine q_pick_f rfl rfl rfl rfl rfl ?_
     refine q_move rfl rfl rfl rfl ?_
     refine q_field (k := 0) rfl rfl rfl rfl Try.underlying36 rfl Try.sizeOf34 rfl ?_
     refine q_load_c (j := 0) rfl rfl rfl rfl Try.isAgg34 Tk (by first | rfl | exact (Nat.add_zero _).symm) (by rfl) ?_
     refine q_int rfl rfl rfl rfl rfl (b_eql _ _ _ _) ?_
     refine q_move rfl rfl rfl rfl ?_
     refine s_bool_p 149 rfl (fun q3 => ?_) (fun q3 => ?_)
     ·
      refine q_move rfl rfl rfl rfl ?_
      refine q_int rfl rfl rfl rfl rfl (b_eql _ _ _ _) ?_
      refine q_pick_t rfl rfl rfl rfl rfl ?_
      refine q_move rfl rfl rfl rfl ?_
      refine s_bool_p 153 rfl (fun hg => by exfalso; omega) (fun hg => ?_)
      refine q_skip rfl rfl rfl rfl ?_
      refine q_skip rfl rfl rfl rfl ?_
      refine q_skip rfl rfl rfl rfl ?_
      refine q_skip rfl rfl rfl rfl ?_
      refine q_skip rfl rfl rfl rfl ?_
      refine q_skip rfl rfl rfl rfl ?_
      refine q_skip rfl rfl rfl rfl ?_
      refine q_skip rfl rfl rfl rfl ?_
      refine q_skip rfl rfl rfl rfl ?_
      refine q_pick_f rfl rfl rfl rfl rfl ?_
      refine q_pick_f rfl rfl rfl rfl rfl ?_
      refine r_done ?_
      refine s_keep [5, 7, 9, 74, 75, 76, 77, 78, 105, 106, 107, 112, 113, 116, 117, 118, 119, 120, 121, 127, 128, 131, 132, 133, 134, 135, 136, 137, 138, 139, 140, 141, 142, 143, 146, 147, 148, 149, 150, 151, 152, 153, 154, 155, 156, 157, 158, 159, 160, 161, 162, 163, 164] (e' := [(5, _), (7, _), (9, _), (74, _), (75, _), (76, _), (77, _), (78, _), (105, _), (106, _), (107, _), (112, _), (113, _), (116, _), (117, _), (118, _), (119, _), (120, _), (121, _), (127, _), (128, _), (131, _), (132, _), (133, _), (134, _), (135, _), (136, _), (137, _), (138, _), (139, _), (140, _), (141, _), (142, _), (143, _), (146, _), (147, _), (148, _), (149, _), (150, _), (151, _), (152, _), (153, _), (154, _), (155, _), (156, _), (157, _), (158, _), (159, _), (160, _), (161, _), (162, _), (163, _), (164, _)]) rfl ?_
      refine k_then_n ?_
      refine c_cond_f rfl ?_
      refine c_skip ?_
      refine k_blk_n ?_
      refine k_then_n ?_
      refine c_plain (.q 0 (.q 1 (.q 2 (.done)))) (by kernel_rfl) ?_
      refine q_move rfl rfl rfl rfl ?_
      refine q_int rfl rfl rfl rfl rfl (b_add' _ (by exact fits_i64 (by omega) (by omega))) ?_
      refine q_assign rfl rfl rfl rfl ?_
      refine r_done ?_
      refine k_then_n ?_
      subst hY
      rw [show feF (fAll (fNew th va vo lk pl) (L.take i)) k ((t : Nat) : Int) o = fAll (fNew th va vo lk pl) (L.take (i + 1)) from (fAll_next he_).symm]
      refine loop_next (x := i) (i + 1) ?_ ?_ ?_ ?_
      · exact by show i + 1 ≤ L.length; omega
      · show L.length - (i + 1) < L.length - i; omega
      · exact ⟨rfl, rfl, rfl, trivial⟩
      · (try simp only [List.cons_append, List.nil_append]); exact Tf
     ·
      refine q_skip rfl rfl rfl rfl ?_
      refine q_skip rfl rfl rfl rfl ?_
      refine q_pick_f rfl rfl rfl rfl rfl ?_
      refine q_move rfl rfl rfl rfl ?_
      refine q_skip rfl rfl rfl rfl ?_
      refine q_skip rfl rfl rfl rfl ?_
      refine q_skip rfl rfl rfl rfl ?_
      refine q_skip rfl rfl rfl rfl ?_
      refine q_skip rfl rfl rfl rfl ?_
      refine q_skip rfl rfl rfl rfl ?_
      refine q_skip rfl rfl rfl rfl ?_
      refine q_skip rfl rfl rfl rfl ?_
      refine q_skip rfl rfl rfl rfl ?_
      refine q_pick_f rfl rfl rfl rfl rfl ?_
      refine q_pick_f rfl rfl rfl rfl rfl ?_
      refine r_done ?_
      refine s_keep [5, 7, 9, 74, 75, 76, 77, 78, 105, 106, 107, 112, 113, 116, 117, 118, 119, 120, 121, 127, 128, 131, 132, 133, 134, 135, 136, 137, 138, 139, 140, 141, 142, 143, 146, 147, 148, 149, 150, 151, 152, 153, 154, 155, 156, 157, 158, 159, 160, 161, 162, 163, 164] (e' := [(5, _), (7, _), (9, _), (74, _), (75, _), (76, _), (77, _), (78, _), (105, _), (106, _), (107, _), (112, _), (113, _), (116, _), (117, _), (118, _), (119, _), (120, _), (121, _), (127, _), (128, _), (131, _), (132, _), (133, _), (134, _), (135, _), (136, _), (137, _), (138, _), (139, _), (140, _), (141, _), (142, _), (143, _), (146, _), (147, _), (148, _), (149, _), (150, _), (151, _), (152, _), (153, _), (154, _), (155, _), (156, _), (157, _), (158, _), (159, _), (160, _), (161, _), (162, _), (163, _), (164, _)]) rfl ?_
      refine k_then_n ?_
      refine c_cond_f rfl ?_
      refine c_skip ?_
      refine k_blk_n ?_
      refine k_then_n ?_
      refine c_plain (.q 0 (.q 1 (.q 2 (.done)))) (by kernel_rfl) ?_
      refine q_move rfl rfl rfl rfl ?_
      refine q_int rfl rfl rfl rfl rfl (b_add' _ (by exact fits_i64 (by omega) (by omega))) ?_
      refine q_assign rfl rfl rfl rfl ?_
      refine r_done ?_
      refine k_then_n ?_
      subst hY
      rw [show feF (fAll (fNew th va vo lk pl) (L.take i)) k ((t : Nat) : Int) o = fAll (fNew th va vo lk pl) (L.take (i + 1)) from (fAll_next he_).symm]
      refine loop_next (x := i) (i + 1) ?_ ?_ ?_ ?_
      · exact by show i + 1 ≤ L.length; omega
      · show L.length - (i + 1) < L.length - i; omega
      · exact ⟨rfl, rfl, rfl, trivial⟩
      · (try simp only [List.cons_append, List.nil_append]); exact Tf
   ·
    refine q_field (k := 0) rfl rfl rfl rfl Try.underlying36 rfl Try.sizeOf34 rfl ?_
    refine q_load_c (j := 0) rfl rfl rfl rfl Try.isAgg34 Tk (by first | rfl | exact (Nat.add_zero _).symm) (by rfl) ?_
    refine q_int rfl rfl rfl rfl rfl (b_eql _ _ _ _) ?_
    refine q_pick_f rfl rfl rfl rfl rfl ?_
    refine q_assign rfl rfl rfl rfl ?_
    refine r_done ?_
    refine s_keep [5, 7, 9, 10, 12, 15, 16, 18, 19, 74, 75, 76, 77, 78, 105, 106, 107] (e' := [(5, _), (7, _), (9, _), (10, _), (12, _), (15, _), (16, _), (18, _), (19, _), (74, _), (75, _), (76, _), (77, _), (78, _), (105, _), (106, _), (107, _)]) rfl ?_
    refine k_then_n ?_
    refine c_seq ?_
    refine c_seq ?_
    refine c_plain (.q 0 (.q 1 (.q 2 (.q 3 (.q 4 (.q 5 (.q 6 (.q 7 (.q 8 (.q 9 (.q 10 (.q 11 (.q 12 (.q 13 (.done))))))))))))))) (by kernel_rfl) ?_
    refine q_move rfl rfl rfl rfl ?_
    refine q_int rfl rfl rfl rfl rfl (b_lss _ _ _ _) ?_
    refine q_move rfl rfl rfl rfl ?_
    refine s_bool_p 111 rfl (fun hg => by exfalso; omega) (fun hg => ?_)
    refine q_move rfl rfl rfl rfl ?_
    refine q_int rfl rfl rfl rfl rfl (b_gtr _ _ _ _) ?_
    refine q_pick_f rfl rfl rfl rfl rfl ?_
    refine q_move rfl rfl rfl rfl ?_
    refine s_bool_p 115 rfl (fun hg => by exfalso; omega) (fun hg => ?_)
    refine q_move rfl rfl rfl rfl ?_
    refine q_int rfl rfl rfl rfl rfl (b_eql _ _ _ _) ?_
    refine q_move rfl rfl rfl rfl ?_
    refine s_bool_p 118 rfl (fun hg => by exfalso; omega) (fun hg => ?_)
    refine q_skip rfl rfl rfl rfl ?_
    refine q_skip rfl rfl rfl rfl ?_
    refine q_pick_f rfl rfl rfl rfl rfl ?_
    refine q_pick_f rfl rfl rfl rfl rfl ?_
    refine r_done ?_
    refine s_keep [5, 7, 9, 10, 12, 15, 16, 18, 74, 75, 76, 77, 78, 105, 106, 107, 112, 113, 116, 117, 118, 119, 120, 121, 122] (e' := [(5, _), (7, _), (9, _), (10, _), (12, _), (15, _), (16, _), (18, _), (74, _), (75, _), (76, _), (77, _), (78, _), (105, _), (106, _), (107, _), (112, _), (113, _), (116, _), (117, _), (118, _), (119, _), (120, _), (121, _), (122, _)]) rfl ?_
    refine k_then_n ?_
    refine c_cond_f rfl ?_
    refine c_skip ?_
    refine k_then_n ?_
    refine c_seq ?_
    refine c_plain (.q 0 (.q 1 (.q 2 (.q 3 (.q 4 (.q 5 (.q 6 (.q 7 (.q 8 (.q 9 (.q 10 (.q 11 (.q 12 (.q 13 (.q 14 (.q 15 (.q 16 (.q 17 (.q 18 (.q 19 (.q 20 (.q 21 (.q 22 (.q 23 (.q 24 (.q 25 (.q 26 (.q 27 (.q 28 (.q 29 (.q 30 (.q 31 (.q 32 (.q 33 (.q 34 (.q 35 (.q 36 (.q 37 (.q 38 (.q 39 (.q 40 (.q 41 (.done))))))))))))))))))))))))))))))))))))))))))) (by kernel_rfl) ?_
    refine q_field (k := 0) rfl rfl rfl rfl Try.underlying36 rfl Try.sizeOf34 rfl ?_
    refine q_load_c (j := 0) rfl rfl rfl rfl Try.isAgg34 Tk (by first | rfl | exact (Nat.add_zero _).symm) (by rfl) ?_
    refine q_int rfl rfl rfl rfl rfl (b_eql _ _ _ _) ?_
    refine q_move rfl rfl rfl rfl ?_
    refine s_bool_p 126 rfl (fun q2 => ?_) (fun q2 => ?_)
    ·
     refine q_move rfl rfl rfl rfl ?_
     refine q_int rfl rfl rfl rfl rfl (b_eql _ _ _ _) ?_
     refine q_pick_t rfl rfl rfl rfl rfl ?_
     refine q_move rfl rfl rfl rfl ?_
     refine s_bool_p 130 rfl (fun hg => by exfalso; omega) (fun hg => ?_)
     refine q_skip rfl rfl rfl rfl ?_
     refine q_skip rfl rfl rfl rfl ?_
     refine q_skip rfl rfl rfl rfl ?_
     refine q_skip rfl rfl rfl rfl ?_
     refine q_skip rfl rfl rfl rfl ?_
     refine q_skip rfl rfl rfl rfl ?_
     refine q_skip rfl rfl rfl rfl ?_
     refine q_skip rfl rfl rfl rfl ?_
     refine q_skip rfl rfl rfl rfl ?_
     refine q_skip rfl rfl rfl rfl ?_
     refine q_skip rfl rfl rfl rfl ?_
     refine q_skip rfl rfl rfl rfl ?_
     refine q_skip rfl rfl rfl rfl ?_
     refine q_pick_f rfl rfl rfl rfl rfl ?_
     refine q_move rfl rfl rfl rfl ?_
     refine q_field (k := 0) rfl rfl rfl rfl Try.underlying36 rfl Try.sizeOf34 rfl ?_
     refine q_load_c (j := 0) rfl rfl rfl rfl Try.isAgg34 Tk (by first | rfl | exact (Nat.add_zero _).symm) (by rfl) ?_
     refine q_int rfl rfl rfl rfl rfl (b_eql _ _ _ _) ?_
     refine q_move rfl rfl rfl rfl ?_
     refine s_bool_p 149 rfl (fun q3 => ?_) (fun q3 => ?_)
     ·
      refine q_move rfl rfl rfl rfl ?_
      refine q_int rfl rfl rfl rfl rfl (b_eql _ _ _ _) ?_
      refine q_pick_t rfl rfl rfl rfl rfl ?_
      refine q_move rfl rfl rfl rfl ?_
      refine s_bool_p 153 rfl (fun hg => by exfalso; omega) (fun hg => ?_)
      refine q_skip rfl rfl rfl rfl ?_
      refine q_skip rfl rfl rfl rfl ?_
      refine q_skip rfl rfl rfl rfl ?_
      refine q_skip rfl rfl rfl rfl ?_
      refine q_skip rfl rfl rfl rfl ?_
      refine q_skip rfl rfl rfl rfl ?_
      refine q_skip rfl rfl rfl rfl ?_
      refine q_skip rfl rfl rfl rfl ?_
      refine q_skip rfl rfl rfl rfl ?_
      refine q_pick_f rfl rfl rfl rfl rfl ?_
      refine q_pick_f rfl rfl rfl rfl rfl ?_
      refine r_done ?_
      refine s_keep [5, 7, 9, 74, 75, 76, 77, 78, 105, 106, 107, 112, 113, 116, 117, 118, 119, 120, 121, 127, 128, 131, 132, 133, 134, 135, 136, 137, 138, 139, 140, 141, 142, 143, 146, 147, 148, 149, 150, 151, 152, 153, 154, 155, 156, 157, 158, 159, 160, 161, 162, 163, 164] (e' := [(5, _), (7, _), (9, _), (74, _), (75, _), (76, _), (77, _), (78, _), (105, _), (106, _), (107, _), (112, _), (113, _), (116, _), (117, _), (118, _), (119, _), (120, _), (121, _), (127, _), (128, _), (131, _), (132, _), (133, _), (134, _), (135, _), (136, _), (137, _), (138, _), (139, _), (140, _), (141, _), (142, _), (143, _), (146, _), (147, _), (148, _), (149, _), (150, _), (151, _), (152, _), (153, _), (154, _), (155, _), (156, _), (157, _), (158, _), (159, _), (160, _), (161, _), (162, _), (163, _), (164, _)]) rfl ?_
      refine k_then_n ?_
      refine c_cond_f rfl ?_
      refine c_skip ?_
      refine k_blk_n ?_
      refine k_then_n ?_
      refine c_plain (.q 0 (.q 1 (.q 2 (.done)))) (by kernel_rfl) ?_
      refine q_move rfl rfl rfl rfl ?_
      refine q_int rfl rfl rfl rfl rfl (b_add' _ (by exact fits_i64 (by omega) (by omega))) ?_
      refine q_assign rfl rfl rfl rfl ?_
      refine r_done ?_
      refine k_then_n ?_
      subst hY
      rw [show feF (fAll (fNew th va vo lk pl) (L.take i)) k ((t : Nat) : Int) o = fAll (fNew th va vo lk pl) (L.take (i + 1)) from (fAll_next he_).symm]
      refine loop_next (x := i) (i + 1) ?_ ?_ ?_ ?_
      · exact by show i + 1 ≤ L.length; omega
      · show L.length - (i + 1) < L.length - i; omega
      · exact ⟨rfl, rfl, rfl, trivial⟩
      · (try simp only [List.cons_append, List.nil_append]); exact Tf
     ·
      refine q_skip rfl rfl rfl rfl ?_
      refine q_skip rfl rfl rfl rfl ?_
      refine q_pick_f rfl rfl rfl rfl rfl ?_
      refine q_move rfl rfl rfl rfl ?_
      refine q_skip rfl rfl rfl rfl ?_
      refine q_skip rfl rfl rfl rfl ?_
      refine q_skip rfl rfl rfl rfl ?_
      refine q_skip rfl rfl rfl rfl ?_
      refine q_skip rfl rfl rfl rfl ?_
      refine q_skip rfl rfl rfl rfl ?_
      refine q_skip rfl rfl rfl rfl ?_
      refine q_skip rfl rfl rfl rfl ?_
      refine q_skip rfl rfl rfl rfl ?_
      refine q_pick_f rfl rfl rfl rfl rfl ?_
      refine q_pick_f rfl rfl rfl rfl rfl ?_
      refine r_done ?_
      refine s_keep [5, 7, 9, 74, 75, 76, 77, 78, 105, 106, 107, 112, 113, 116, 117, 118, 119, 120, 121, 127, 128, 131, 132, 133, 134, 135, 136, 137, 138, 139, 140, 141, 142, 143, 146, 147, 148, 149, 150, 151, 152, 153, 154, 155, 156, 157, 158, 159, 160, 161, 162, 163, 164] (e' := [(5, _), (7, _), (9, _), (74, _), (75, _), (76, _), (77, _), (78, _), (105, _), (106, _), (107, _), (112, _), (113, _), (116, _), (117, _), (118, _), (119, _), (120, _), (121, _), (127, _), (128, _), (131, _), (132, _), (133, _), (134, _), (135, _), (136, _), (137, _), (138, _), (139, _), (140, _), (141, _), (142, _), (143, _), (146, _), (147, _), (148, _), (149, _), (150, _), (151, _), (152, _), (153, _), (154, _), (155, _), (156, _), (157, _), (158, _), (159, _), (160, _), (161, _), (162, _), (163, _), (164, _)]) rfl ?_
      refine k_then_n ?_
      refine c_cond_f rfl ?_
      refine c_skip ?_
      refine k_blk_n ?_
      refine k_then_n ?_
      refine c_plain (.q 0 (.q 1 (.q 2 (.done)))) (by kernel_rfl) ?_
      refine q_move rfl rfl rfl rfl ?_
      refine q_int rfl rfl rfl rfl rfl (b_add' _ (by exact fits_i64 (by omega) (by omega))) ?_
      refine q_assign rfl rfl rfl rfl ?_
      refine r_done ?_
      refine k_then_n ?_
      subst hY
      rw [show feF (fAll (fNew th va vo lk pl) (L.take i)) k ((t : Nat) : Int) o = fAll (fNew th va vo lk pl) (L.take (i + 1)) from (fAll_next he_).symm]
      refine loop_next (x := i) (i + 1) ?_ ?_ ?_ ?_
      · exact by show i + 1 ≤ L.length; omega
      · show L.length - (i + 1) < L.length - i; omega
      · exact ⟨rfl, rfl, rfl, trivial⟩
      · (try simp only [List.cons_append, List.nil_append]); exact Tf
    ·
     refine q_skip rfl rfl rfl rfl ?_
     refine q_skip rfl rfl rfl rfl ?_
     refine q_pick_f rfl rfl rfl rfl rfl ?_
     refine q_move rfl rfl rfl rfl ?_
     refine q_skip rfl rfl rfl rfl ?_
     refine q_skip rfl rfl rfl rfl ?_
     refine q_skip rfl rfl rfl rfl ?_
     refine q_skip rfl rfl rfl rfl ?_
     refine q_skip rfl rfl rfl rfl ?_
     refine q_skip rfl rfl rfl rfl ?_
     refine q_skip rfl rfl rfl rfl ?_
     refine q_skip rfl rfl rfl rfl ?_
     refine q_skip rfl rfl rfl rfl ?_
     refine q_skip rfl rfl rfl rfl ?_
     refine q_skip rfl rfl rfl rfl ?_
     refine q_skip rfl rfl rfl rfl ?_
     refine q_skip rfl rfl rfl rfl ?_
     refine q_pick_f rfl rfl rfl rfl rfl ?_
     refine q_move rfl rfl rfl rfl ?_
     refine q_field (k := 0) rfl rfl rfl rfl Try.underlying36 rfl Try.sizeOf34 rfl ?_
     refine q_load_c (j := 0) rfl rfl rfl rfl Try.isAgg34 Tk (by first | rfl | exact (Nat.add_zero _).symm) (by rfl) ?_
     refine q_int rfl rfl rfl rfl rfl (b_eql _ _ _ _) ?_
     refine q_move rfl rfl rfl rfl ?_
     refine s_bool_p 149 rfl (fun q3 => ?_) (fun q3 => ?_)
     ·
      refine q_move rfl rfl rfl rfl ?_
      refine q_int rfl rfl rfl rfl rfl (b_eql _ _ _ _) ?_
      refine q_pick_t rfl rfl rfl rfl rfl ?_
      refine q_move rfl rfl rfl rfl ?_
      refine s_bool_p 153 rfl (fun hg => by exfalso; omega) (fun hg => ?_)
      refine q_skip rfl rfl rfl rfl ?_
      refine q_skip rfl rfl rfl rfl ?_
      refine q_skip rfl rfl rfl rfl ?_
      refine q_skip rfl rfl rfl rfl ?_
      refine q_skip rfl rfl rfl rfl ?_
      refine q_skip rfl rfl rfl rfl ?_
      refine q_skip rfl rfl rfl rfl ?_
      refine q_skip rfl rfl rfl rfl ?_
      refine q_skip rfl rfl rfl rfl ?_
      refine q_pick_f rfl rfl rfl rfl rfl ?_
      refine q_pick_f rfl rfl rfl rfl rfl ?_
      refine r_done ?_
      refine s_keep [5, 7, 9, 74, 75, 76, 77, 78, 105, 106, 107, 112, 113, 116, 117, 118, 119, 120, 121, 127, 128, 131, 132, 133, 134, 135, 136, 137, 138, 139, 140, 141, 142, 143, 146, 147, 148, 149, 150, 151, 152, 153, 154, 155, 156, 157, 158, 159, 160, 161, 162, 163, 164] (e' := [(5, _), (7, _), (9, _), (74, _), (75, _), (76, _), (77, _), (78, _), (105, _), (106, _), (107, _), (112, _), (113, _), (116, _), (117, _), (118, _), (119, _), (120, _), (121, _), (127, _), (128, _), (131, _), (132, _), (133, _), (134, _), (135, _), (136, _), (137, _), (138, _), (139, _), (140, _), (141, _), (142, _), (143, _), (146, _), (147, _), (148, _), (149, _), (150, _), (151, _), (152, _), (153, _), (154, _), (155, _), (156, _), (157, _), (158, _), (159, _), (160, _), (161, _), (162, _), (163, _), (164, _)]) rfl ?_
      refine k_then_n ?_
      refine c_cond_f rfl ?_
      refine c_skip ?_
      refine k_blk_n ?_
      refine k_then_n ?_
      refine c_plain (.q 0 (.q 1 (.q 2 (.done)))) (by kernel_rfl) ?_
      refine q_move rfl rfl rfl rfl ?_
      refine q_int rfl rfl rfl rfl rfl (b_add' _ (by exact fits_i64 (by omega) (by omega))) ?_
      refine q_assign rfl rfl rfl rfl ?_
      refine r_done ?_
      refine k_then_n ?_
      subst hY
      rw [show feF (fAll (fNew th va vo lk pl) (L.take i)) k ((t : Nat) : Int) o = fAll (fNew th va vo lk pl) (L.take (i + 1)) from (fAll_next he_).symm]
      refine loop_next (x := i) (i + 1) ?_ ?_ ?_ ?_
      · exact by show i + 1 ≤ L.length; omega
      · show L.length - (i + 1) < L.length - i; omega
      · exact ⟨rfl, rfl, rfl, trivial⟩
      · (try simp only [List.cons_append, List.nil_append]); exact Tf
     ·
      refine q_skip rfl rfl rfl rfl ?_
      refine q_skip rfl rfl rfl rfl ?_
      refine q_pick_f rfl rfl rfl rfl rfl ?_
      refine q_move rfl rfl rfl rfl ?_
      refine q_skip rfl rfl rfl rfl ?_
      refine q_skip rfl rfl rfl rfl ?_
      refine q_skip rfl rfl rfl rfl ?_
      refine q_skip rfl rfl rfl rfl ?_
      refine q_skip rfl rfl rfl rfl ?_
      refine q_skip rfl rfl rfl rfl ?_
      refine q_skip rfl rfl rfl rfl ?_
      refine q_skip rfl rfl rfl rfl ?_
      refine q_skip rfl rfl rfl rfl ?_
      refine q_pick_f rfl rfl rfl rfl rfl ?_
      refine q_pick_f rfl rfl rfl rfl rfl ?_
      refine r_done ?_
      refine s_keep [5, 7, 9, 74, 75, 76, 77, 78, 105, 106, 107, 112, 113, 116, 117, 118, 119, 120, 121, 127, 128, 131, 132, 133, 134, 135, 136, 137, 138, 139, 140, 141, 142, 143, 146, 147, 148, 149, 150, 151, 152, 153, 154, 155, 156, 157, 158, 159, 160, 161, 162, 163, 164] (e' := [(5, _), (7, _), (9, _), (74, _), (75, _), (76, _), (77, _), (78, _), (105, _), (106, _), (107, _), (112, _), (113, _), (116, _), (117, _), (118, _), (119, _), (120, _), (121, _), (127, _), (128, _), (131, _), (132, _), (133, _), (134, _), (135, _), (136, _), (137, _), (138, _), (139, _), (140, _), (141, _), (142, _), (143, _), (146, _), (147, _), (148, _), (149, _), (150, _), (151, _), (152, _), (153, _), (154, _), (155, _), (156, _), (157, _), (158, _), (159, _), (160, _), (161, _), (162, _), (163, _), (164, _)]) rfl ?_
      refine k_then_n ?_
      refine c_cond_f rfl ?_
      refine c_skip ?_
      refine k_blk_n ?_
      refine k_then_n ?_
      refine c_plain (.q 0 (.q 1 (.q 2 (.done)))) (by kernel_rfl) ?_
      refine q_move rfl rfl rfl rfl ?_
      refine q_int rfl rfl rfl rfl rfl (b_add' _ (by exact fits_i64 (by omega) (by omega))) ?_
      refine q_assign rfl rfl rfl rfl ?_
      refine r_done ?_
      refine k_then_n ?_
      subst hY
      rw [show feF (fAll (fNew th va vo lk pl) (L.take i)) k ((t : Nat) : Int) o = fAll (fNew th va vo lk pl) (L.take (i + 1)) from (fAll_next he_).symm]
      refine loop_next (x := i) (i + 1) ?_ ?_ ?_ ?_
      · exact by show i + 1 ≤ L.length; omega
      · show L.length - (i + 1) < L.length - i; omega
      · exact ⟨rfl, rfl, rfl, trivial⟩
      · (try simp only [List.cons_append, List.nil_append]); exact Tf
  ·
   refine q_field (k := 0) rfl rfl rfl rfl Try.underlying36 rfl Try.sizeOf34 rfl ?_
   refine q_load_c (j := 0) rfl rfl rfl rfl Try.isAgg34 Tk (by first | rfl | exact (Nat.add_zero _).symm) (by rfl) ?_
   refine q_int rfl rfl rfl rfl rfl (b_eql _ _ _ _) ?_
   refine q_move rfl rfl rfl rfl ?_
   refine s_bool_p 104 rfl (fun hg => ?_) (fun hg => by exfalso; exact hg k1)
   refine q_skip rfl rfl rfl rfl ?_
   refine q_skip rfl rfl rfl rfl ?_
   refine q_skip rfl rfl rfl rfl ?_
   refine q_pick_t rfl rfl rfl rfl rfl ?_
   refine q_assign rfl rfl rfl rfl ?_
   refine r_done ?_
   refine s_keep [5, 7, 9, 10, 12, 15, 16, 18, 19, 74, 75, 76, 77, 78, 105, 106, 107] (e' := [(5, _), (7, _), (9, _), (10, _), (12, _), (15, _), (16, _), (18, _), (19, _), (74, _), (75, _), (76, _), (77, _), (78, _), (105, _), (106, _), (107, _)]) rfl ?_
   refine k_then_n ?_
   refine c_seq ?_
   refine c_seq ?_
   refine c_plain (.q 0 (.q 1 (.q 2 (.q 3 (.q 4 (.q 5 (.q 6 (.q 7 (.q 8 (.q 9 (.q 10 (.q 11 (.q 12 (.q 13 (.done))))))))))))))) (by kernel_rfl) ?_
   refine q_move rfl rfl rfl rfl ?_
   refine q_int rfl rfl rfl rfl rfl (b_lss _ _ _ _) ?_
   refine q_move rfl rfl rfl rfl ?_
   refine s_bool_p 111 rfl (fun hg => by exfalso; omega) (fun hg => ?_)
   refine q_move rfl rfl rfl rfl ?_
   refine q_int rfl rfl rfl rfl rfl (b_gtr _ _ _ _) ?_
   refine q_pick_f rfl rfl rfl rfl rfl ?_
   refine q_move rfl rfl rfl rfl ?_
   refine s_bool_p 115 rfl (fun hg => by exfalso; omega) (fun hg => ?_)
   refine q_move rfl rfl rfl rfl ?_
   refine q_int rfl rfl rfl rfl rfl (b_eql _ _ _ _) ?_
   refine q_move rfl rfl rfl rfl ?_
   refine s_bool_p 118 rfl (fun hg => ?_) (fun hg => by exfalso; omega)
   refine q_move rfl rfl rfl rfl ?_
   refine q_not rfl rfl rfl rfl ?_
   refine s_eq 120 rfl (v' := .bool false) rfl ?_
   refine q_pick_t rfl rfl rfl rfl rfl ?_
   refine q_pick_f rfl rfl rfl rfl rfl ?_
   refine r_done ?_
   refine s_keep [5, 7, 9, 10, 12, 15, 16, 18, 74, 75, 76, 77, 78, 105, 106, 107, 112, 113, 116, 117, 118, 119, 120, 121, 122] (e' := [(5, _), (7, _), (9, _), (10, _), (12, _), (15, _), (16, _), (18, _), (74, _), (75, _), (76, _), (77, _), (78, _), (105, _), (106, _), (107, _), (112, _), (113, _), (116, _), (117, _), (118, _), (119, _), (120, _), (121, _), (122, _)]) rfl ?_
   refine k_then_n ?_
   refine c_cond_f rfl ?_
   refine c_skip ?_
   refine k_then_n ?_
   refine c_seq ?_
   refine c_plain (.q 0 (.q 1 (.q 2 (.q 3 (.q 4 (.q 5 (.q 6 (.q 7 (.q 8 (.q 9 (.q 10 (.q 11 (.q 12 (.q 13 (.q 14 (.q 15 (.q 16 (.q 17 (.q 18 (.q 19 (.q 20 (.q 21 (.q 22 (.q 23 (.q 24 (.q 25 (.q 26 (.q 27 (.q 28 (.q 29 (.q 30 (.q 31 (.q 32 (.q 33 (.q 34 (.q 35 (.q 36 (.q 37 (.q 38 (.q 39 (.q 40 (.q 41 (.done))))))))))))))))))))))))))))))))))))))))))) (by kernel_rfl) ?_
   refine q_field (k := 0) rfl rfl rfl rfl Try.underlying36 rfl Try.sizeOf34 rfl ?_
   refine q_load_c (j := 0) rfl rfl rfl rfl Try.isAgg34 Tk (by first | rfl | exact (Nat.add_zero _).symm) (by rfl) ?_
   refine q_int rfl rfl rfl rfl rfl (b_eql _ _ _ _) ?_
   refine q_move rfl rfl rfl rfl ?_
   refine s_bool_p 126 rfl (fun hg => ?_) (fun hg => by exfalso; exact hg k1)
   refine q_move rfl rfl rfl rfl ?_
   refine q_int rfl rfl rfl rfl rfl (b_eql _ _ _ _) ?_
   refine q_pick_t rfl rfl rfl rfl rfl ?_
   refine q_move rfl rfl rfl rfl ?_
   refine s_bool_p 130 rfl (fun hg => ?_) (fun hg => by exfalso; omega)
   refine q_field (k := 1) rfl rfl rfl rfl Try.underlying52 rfl Try.sizeOf49 rfl ?_
   refine q_load_c (j := 1) rfl rfl rfl rfl Try.isAgg49 Tk (by first | rfl | exact (Nat.add_zero _).symm) (by rfl) ?_
   refine q_move rfl rfl rfl rfl ?_
   refine q_int rfl rfl rfl rfl rfl (b_eql _ _ _ _) ?_
   refine q_move rfl rfl rfl rfl ?_
   refine s_bool_p 135 rfl (fun hg => by exfalso; first | omega | exact a1 (by omega)) (fun hg => ?_)
   refine q_field (k := 2) rfl rfl rfl rfl Try.underlying52 rfl Try.sizeOf4 rfl ?_
   refine q_load_c (j := 2) rfl rfl rfl rfl Try.isAgg4 Tk (by first | rfl | exact (Nat.add_zero _).symm) (by rfl) ?_
   refine s_eq 137 rfl (v' := .bool true) (by rw [a3]) ?_
   refine q_not rfl rfl rfl rfl ?_
   refine s_eq 138 rfl (v' := .bool false) rfl ?_
   refine q_pick_f rfl rfl rfl rfl rfl ?_
   refine q_move rfl rfl rfl rfl ?_
   refine q_field (k := 2) rfl rfl rfl rfl Try.underlying52 rfl Try.sizeOf4 rfl ?_
   refine q_load_c (j := 2) rfl rfl rfl rfl Try.isAgg4 Tk (by first | rfl | exact (Nat.add_zero _).symm) (by rfl) ?_
   refine s_eq 142 rfl (v' := .bool false) (by rw [a2]) ?_
   refine q_pick_f rfl rfl rfl rfl rfl ?_
   refine q_pick_t rfl rfl rfl rfl rfl ?_
   refine q_move rfl rfl rfl rfl ?_
   refine q_field (k := 0) rfl rfl rfl rfl Try.underlying36 rfl Try.sizeOf34 rfl ?_
   refine q_load_c (j := 0) rfl rfl rfl rfl Try.isAgg34 Tk (by first | rfl | exact (Nat.add_zero _).symm) (by rfl) ?_
   refine q_int rfl rfl rfl rfl rfl (b_eql _ _ _ _) ?_
   refine q_move rfl rfl rfl rfl ?_
   refine s_bool_p 149 rfl (fun hg => by exfalso; omega) (fun hg => ?_)
   refine q_skip rfl rfl rfl rfl ?_
   refine q_skip rfl rfl rfl rfl ?_
   refine q_pick_f rfl rfl rfl rfl rfl ?_
   refine q_move rfl rfl rfl rfl ?_
   refine q_skip rfl rfl rfl rfl ?_
   refine q_skip rfl rfl rfl rfl ?_
   refine q_skip rfl rfl rfl rfl ?_
   refine q_skip rfl rfl rfl rfl ?_
   refine q_skip rfl rfl rfl rfl ?_
   refine q_skip rfl rfl rfl rfl ?_
   refine q_skip rfl rfl rfl rfl ?_
   refine q_skip rfl rfl rfl rfl ?_
   refine q_skip rfl rfl rfl rfl ?_
   refine q_pick_f rfl rfl rfl rfl rfl ?_
   refine q_pick_f rfl rfl rfl rfl rfl ?_
   refine r_done ?_
   refine s_keep [5, 7, 9, 74, 75, 76, 77, 78, 105, 106, 107, 112, 113, 116, 117, 118, 119, 120, 121, 127, 128, 131, 132, 133, 134, 135, 136, 137, 138, 139, 140, 141, 142, 143, 146, 147, 148, 149, 150, 151, 152, 153, 154, 155, 156, 157, 158, 159, 160, 161, 162, 163, 164] (e' := [(5, _), (7, _), (9, _), (74, _), (75, _), (76, _), (77, _), (78, _), (105, _), (106, _), (107, _), (112, _), (113, _), (116, _), (117, _), (118, _), (119, _), (120, _), (121, _), (127, _), (128, _), (131, _), (132, _), (133, _), (134, _), (135, _), (136, _), (137, _), (138, _), (139, _), (140, _), (141, _), (142, _), (143, _), (146, _), (147, _), (148, _), (149, _), (150, _), (151, _), (152, _), (153, _), (154, _), (155, _), (156, _), (157, _), (158, _), (159, _), (160, _), (161, _), (162, _), (163, _), (164, _)]) rfl ?_
   refine k_then_n ?_
   refine c_cond_f rfl ?_
   refine c_skip ?_
   refine k_blk_n ?_
   refine k_then_n ?_
   refine c_plain (.q 0 (.q 1 (.q 2 (.done)))) (by kernel_rfl) ?_
   refine q_move rfl rfl rfl rfl ?_
   refine q_int rfl rfl rfl rfl rfl (b_add' _ (by exact fits_i64 (by omega) (by omega))) ?_
   refine q_assign rfl rfl rfl rfl ?_
   refine r_done ?_
   refine k_then_n ?_
   subst hY
   rw [show feF (fAll (fNew th va vo lk pl) (L.take i)) k ((t : Nat) : Int) o = fAll (fNew th va vo lk pl) (L.take (i + 1)) from (fAll_next he_).symm]
   refine loop_next (x := i) (i + 1) ?_ ?_ ?_ ?_
   · exact by show i + 1 ≤ L.length; omega
   · show L.length - (i + 1) < L.length - i; omega
   · exact ⟨rfl, rfl, rfl, trivial⟩
   · (try simp only [List.cons_append, List.nil_append]); exact Tf
  ·
   refine q_field (k := 0) rfl rfl rfl rfl Try.underlying36 rfl Try.sizeOf34 rfl ?_
   refine q_load_c (j := 0) rfl rfl rfl rfl Try.isAgg34 Tk (by first | rfl | exact (Nat.add_zero _).symm) (by rfl) ?_
   refine q_int rfl rfl rfl rfl rfl (b_eql _ _ _ _) ?_
   refine q_move rfl rfl rfl rfl ?_
   refine s_bool_p 104 rfl (fun hg => by exfalso; omega) (fun hg => ?_)
   refine q_field (k := 0) rfl rfl rfl rfl Try.underlying36 rfl Try.sizeOf34 rfl ?_
   refine q_load_c (j := 0) rfl rfl rfl rfl Try.isAgg34 Tk (by first | rfl | exact (Nat.add_zero _).symm) (by rfl) ?_
   refine q_int rfl rfl rfl rfl rfl (b_eql _ _ _ _) ?_
   refine q_pick_f rfl rfl rfl rfl rfl ?_
   refine q_assign rfl rfl rfl rfl ?_
   refine r_done ?_
   refine s_keep [5, 7, 9, 10, 12, 15, 16, 18, 19, 74, 75, 76, 77, 78, 105, 106, 107] (e' := [(5, _), (7, _), (9, _), (10, _), (12, _), (15, _), (16, _), (18, _), (19, _), (74, _), (75, _), (76, _), (77, _), (78, _), (105, _), (106, _), (107, _)]) rfl ?_
   refine k_then_n ?_
   refine c_seq ?_
   refine c_seq ?_
   refine c_plain (.q 0 (.q 1 (.q 2 (.q 3 (.q 4 (.q 5 (.q 6 (.q 7 (.q 8 (.q 9 (.q 10 (.q 11 (.q 12 (.q 13 (.done))))))))))))))) (by kernel_rfl) ?_
   refine q_move rfl rfl rfl rfl ?_
   refine q_int rfl rfl rfl rfl rfl (b_lss _ _ _ _) ?_
   refine q_move rfl rfl rfl rfl ?_
   refine s_bool_p 111 rfl (fun hg => by exfalso; omega) (fun hg => ?_)
   refine q_move rfl rfl rfl rfl ?_
   refine q_int rfl rfl rfl rfl rfl (b_gtr _ _ _ _) ?_
   refine q_pick_f rfl rfl rfl rfl rfl ?_
   refine q_move rfl rfl rfl rfl ?_
   refine s_bool_p 115 rfl (fun hg => by exfalso; omega) (fun hg => ?_)
   refine q_move rfl rfl rfl rfl ?_
   refine q_int rfl rfl rfl rfl rfl (b_eql _ _ _ _) ?_
   refine q_move rfl rfl rfl rfl ?_
   refine s_bool_p 118 rfl (fun hg => ?_) (fun hg => by exfalso; omega)
   refine q_move rfl rfl rfl rfl ?_
   refine q_not rfl rfl rfl rfl ?_
   refine q_pick_t rfl rfl rfl rfl rfl ?_
   refine q_pick_f rfl rfl rfl rfl rfl ?_
   refine r_done ?_
   refine s_keep [5, 7, 9, 10, 12, 15, 16, 18, 74, 75, 76, 77, 78, 105, 106, 107, 112, 113, 116, 117, 118, 119, 120, 121, 122] (e' := [(5, _), (7, _), (9, _), (10, _), (12, _), (15, _), (16, _), (18, _), (74, _), (75, _), (76, _), (77, _), (78, _), (105, _), (106, _), (107, _), (112, _), (113, _), (116, _), (117, _), (118, _), (119, _), (120, _), (121, _), (122, _)]) rfl ?_
   refine k_then_n ?_
   refine c_cond_np rfl (fun h_9 => ?_) (fun h_9 => ?_)
   ·
    refine c_seq ?_
    refine c_plain (.q 0 (.done)) (by kernel_rfl) ?_
    refine q_assign rfl rfl rfl rfl ?_
    refine r_done ?_
    refine s_keep [4] (e' := [(4, _)]) rfl ?_
    refine k_then_n ?_
    refine c_ret ?_
    refine k_then_ret ?_
    refine k_blk_ret ?_
    refine k_then_ret ?_
    refine k_then_ret ?_
    refine k_blk_ret ?_
    refine k_then_ret ?_
    refine ret1 rfl rfl (()) (by first | rfl | (first | rfl | (congr 1; done) | (congr 1 <;> first | rfl | omega | (simp; done) | (simp; omega)))) (by trivial) ?_
    exact Tf
   ·
    refine c_skip ?_
    refine k_then_n ?_
    refine c_seq ?_
    refine c_plain (.q 0 (.q 1 (.q 2 (.q 3 (.q 4 (.q 5 (.q 6 (.q 7 (.q 8 (.q 9 (.q 10 (.q 11 (.q 12 (.q 13 (.q 14 (.q 15 (.q 16 (.q 17 (.q 18 (.q 19 (.q 20 (.q 21 (.q 22 (.q 23 (.q 24 (.q 25 (.q 26 (.q 27 (.q 28 (.q 29 (.q 30 (.q 31 (.q 32 (.q 33 (.q 34 (.q 35 (.q 36 (.q 37 (.q 38 (.q 39 (.q 40 (.q 41 (.done))))))))))))))))))))))))))))))))))))))))))) (by kernel_rfl) ?_
    refine q_field (k := 0) rfl rfl rfl rfl Try.underlying36 rfl Try.sizeOf34 rfl ?_
    refine q_load_c (j := 0) rfl rfl rfl rfl Try.isAgg34 Tk (by first | rfl | exact (Nat.add_zero _).symm) (by rfl) ?_
    refine q_int rfl rfl rfl rfl rfl (b_eql _ _ _ _) ?_
    refine q_move rfl rfl rfl rfl ?_
    refine s_bool_p 126 rfl (fun hg => by exfalso; omega) (fun hg => ?_)
    refine q_skip rfl rfl rfl rfl ?_
    refine q_skip rfl rfl rfl rfl ?_
    refine q_pick_f rfl rfl rfl rfl rfl ?_
    refine q_move rfl rfl rfl rfl ?_
    refine q_skip rfl rfl rfl rfl ?_
    refine q_skip rfl rfl rfl rfl ?_
    refine q_skip rfl rfl rfl rfl ?_
    refine q_skip rfl rfl rfl rfl ?_
    refine q_skip rfl rfl rfl rfl ?_
    refine q_skip rfl rfl rfl rfl ?_
    refine q_skip rfl rfl rfl rfl ?_
    refine q_skip rfl rfl rfl rfl ?_
    refine q_skip rfl rfl rfl rfl ?_
    refine q_skip rfl rfl rfl rfl ?_
    refine q_skip rfl rfl rfl rfl ?_
    refine q_skip rfl rfl rfl rfl ?_
    refine q_skip rfl rfl rfl rfl ?_
    refine q_pick_f rfl rfl rfl rfl rfl ?_
    refine q_move rfl rfl rfl rfl ?_
    refine q_field (k := 0) rfl rfl rfl rfl Try.underlying36 rfl Try.sizeOf34 rfl ?_
    refine q_load_c (j := 0) rfl rfl rfl rfl Try.isAgg34 Tk (by first | rfl | exact (Nat.add_zero _).symm) (by rfl) ?_
    refine q_int rfl rfl rfl rfl rfl (b_eql _ _ _ _) ?_
    refine q_move rfl rfl rfl rfl ?_
    refine s_bool_p 149 rfl (fun hg => ?_) (fun hg => by exfalso; exact hg k2)
    refine q_move rfl rfl rfl rfl ?_
    refine q_int rfl rfl rfl rfl rfl (b_eql _ _ _ _) ?_
    refine q_pick_t rfl rfl rfl rfl rfl ?_
    refine q_move rfl rfl rfl rfl ?_
    refine s_bool_p 153 rfl (fun hg => ?_) (fun hg => by exfalso; omega)
    refine q_field (k := 0) rfl rfl rfl rfl Try.underlying52 rfl Try.sizeOf49 rfl ?_
    refine q_load_c (j := 0) rfl rfl rfl rfl Try.isAgg49 Tk (by first | rfl | exact (Nat.add_zero _).symm) (by rfl) ?_
    refine q_move rfl rfl rfl rfl ?_
    refine q_int rfl rfl rfl rfl rfl (b_eql _ _ _ _) ?_
    refine q_move rfl rfl rfl rfl ?_
    refine s_bool_p 158 rfl (fun hg => by exfalso; first | omega | exact a1 (by omega)) (fun hg => ?_)
    refine q_field (k := 2) rfl rfl rfl rfl Try.underlying52 rfl Try.sizeOf4 rfl ?_
    refine q_load_c (j := 2) rfl rfl rfl rfl Try.isAgg4 Tk (by first | rfl | exact (Nat.add_zero _).symm) (by rfl) ?_
    refine s_eq 160 rfl (v' := .bool true) (by rw [a2]) ?_
    refine q_not rfl rfl rfl rfl ?_
    refine s_eq 161 rfl (v' := .bool false) rfl ?_
    refine q_pick_f rfl rfl rfl rfl rfl ?_
    refine q_pick_t rfl rfl rfl rfl rfl ?_
    refine q_pick_f rfl rfl rfl rfl rfl ?_
    refine r_done ?_
    refine s_keep [5, 7, 9, 74, 75, 76, 77, 78, 105, 106, 107, 112, 113, 116, 117, 118, 119, 120, 121, 127, 128, 131, 132, 133, 134, 135, 136, 137, 138, 139, 140, 141, 142, 143, 146, 147, 148, 149, 150, 151, 152, 153, 154, 155, 156, 157, 158, 159, 160, 161, 162, 163, 164] (e' := [(5, _), (7, _), (9, _), (74, _), (75, _), (76, _), (77, _), (78, _), (105, _), (106, _), (107, _), (112, _), (113, _), (116, _), (117, _), (118, _), (119, _), (120, _), (121, _), (127, _), (128, _), (131, _), (132, _), (133, _), (134, _), (135, _), (136, _), (137, _), (138, _), (139, _), (140, _), (141, _), (142, _), (143, _), (146, _), (147, _), (148, _), (149, _), (150, _), (151, _), (152, _), (153, _), (154, _), (155, _), (156, _), (157, _), (158, _), (159, _), (160, _), (161, _), (162, _), (163, _), (164, _)]) rfl ?_
    refine k_then_n ?_
    refine c_cond_f rfl ?_
    refine c_skip ?_
    refine k_blk_n ?_
    refine k_then_n ?_
    refine c_plain (.q 0 (.q 1 (.q 2 (.done)))) (by kernel_rfl) ?_
    refine q_move rfl rfl rfl rfl ?_
    refine q_int rfl rfl rfl rfl rfl (b_add' _ (by exact fits_i64 (by omega) (by omega))) ?_
    refine q_assign rfl rfl rfl rfl ?_
    refine r_done ?_
    refine k_then_n ?_
    subst hY
    rw [show feF (fAll (fNew th va vo lk pl) (L.take i)) k ((t : Nat) : Int) o = fAll (fNew th va vo lk pl) (L.take (i + 1)) from (fAll_next he_).symm]
    refine loop_next (x := i) (i + 1) ?_ ?_ ?_ ?_
    · exact by show i + 1 ≤ L.length; omega
    · show L.length - (i + 1) < L.length - i; omega
    · exact ⟨rfl, rfl, rfl, trivial⟩
    · (try simp only [List.cons_append, List.nil_append]); exact Tf
 ·
  refine c_exit ?_
  refine k_then_exit ?_
  refine k_then_exit ?_
  refine k_blk_here ?_
  refine k_then_n ?_
  refine c_seq ?_
  refine c_plain ((.l 0 [] (.q 1 (.done)))) (by kernel_rfl) ?_
  have sp_10 := known_spec
  refine l_call rfl rfl rfl rfl rfl rfl Try.call11 (sp_10) Ts ?_
  rintro ⟨⟩ -
  try simp only [List.cons_append, List.nil_append]
  refine ag_nil ?_
  refine q_assign rfl rfl rfl rfl ?_
  refine r_done ?_
  refine s_keep [4] (e' := [(4, _)]) rfl ?_
  refine k_then_n ?_
  refine c_ret ?_
  refine ret1 rfl rfl (()) (by first | rfl | (first | rfl | (congr 1; done) | (congr 1 <;> first | rfl | omega | (simp; done) | (simp; omega)))) (by trivial) ?_
  exact Tf
theorem cheap_bad (th va vo lk : Int) (pl : List Int) (ao : Option Addr) (n c : Nat) (A : HProp) (hr : RdS A ao (pl.flatMap encZ)) (hn : pl.length = n) (hb : n ≤ 4000000) (es : List T3) (eo : Option Addr) (m ec : Nat) (he : RdS A eo (es.flatMap enc3)) (hm : es.length = m) (hmb : m ≤ 4000000) (hok : ¬ OkS th va vo lk pl) : Spec Try.prog 5 [.agg #[.int .i64 th, .int .i64 va, .int .i64 vo, .int .i64 lk, .slice ao n c], .slice eo m ec] [A] (fun (_ : Unit) => .bool true) (fun _ => True) (fun _ => [A]) := by
 refine spec_mk (n := 166) Try.func5 rfl rfl rfl ?_
 intro Γ w0
 simp only [argE, List.cons_append, List.nil_append, Nat.zero_add, Nat.reduceAdd]
 refine c_seq ?_
 refine c_plain ((.l 0 [] (.q 1 (.done)))) (by kernel_rfl) ?_
 refine l_box rfl rfl rfl rfl (us := [_, _, _, _, _]) rfl ?_
 intro b2
 refine ag_nil ?_
 refine q_assign rfl rfl rfl rfl ?_
 refine r_done ?_
 refine k_then_n ?_
 refine c_seq ?_
 refine c_plain (.q 0 (.q 1 ((.l 2 [] (.q 3 (.q 4 (.q 5 ((.l 6 [] ((.l 7 [] (.q 8 (.done))))))))))))) (by kernel_rfl) ?_
 refine q_loadN_c rfl rfl rfl rfl Try.isAgg25 Try.sizeOf25 Tk 0 (us := [_, _, _, _, _]) (by first | rfl | exact (Nat.add_zero _).symm) rfl rfl ?_
 refine q_move rfl rfl rfl rfl ?_
 have sp_1 := run_bad th va vo lk pl ao n c A (hr) (by first | rfl | assumption | omega | (simp; done) | (simp; omega)) (by omega) es eo m ec (he) (by first | rfl | assumption | omega | (simp; done) | (simp; omega)) (by omega) hok
 refine l_call rfl rfl rfl rfl rfl rfl Try.call16 (sp_1) Ts ?_
 rintro ⟨⟩ -
 try simp only [List.cons_append, List.nil_append]
 refine ag_nil ?_
 refine q_move rfl rfl rfl rfl ?_
 refine q_extract rfl rfl rfl rfl rfl ?_
 refine q_extract rfl rfl rfl rfl rfl ?_
 refine l_alloc rfl rfl rfl Try.zeroValue44 (zs := [.int .i64 0, .int .i64 0, .int .i64 0, .int .i64 0, .slice none 0 0, .slice none 0 0, .slice none 0 0]) rfl ?_
 intro b5
 refine ag_nil ?_
 refine l_store (j := 0) rfl rfl rfl rfl Try.sizeOf44 (us := [_, _, _, _, _, _, _]) rfl rfl rfl Tk (by first | rfl | exact (Nat.add_zero _).symm) (by first | decide | (simp; done) | omega) ?_
 simp only [setL, List.set]
 refine ag_nil ?_
 refine q_assign rfl rfl rfl rfl ?_
 refine r_done ?_
 refine s_keep [2, 5, 6] (e' := [(2, _), (5, _), (6, _)]) rfl ?_
 refine k_then_n ?_
 refine c_seq ?_
 refine c_plain (.q 0 ((.l 1 [] (.q 2 (.q 3 (.q 4 (.q 5 (.q 6 (.done))))))))) (by kernel_rfl) ?_
 refine q_loadN_c rfl rfl rfl rfl Try.isAgg25 Try.sizeOf25 Tk 0 (us := [_, _, _, _, _]) (by first | rfl | exact (Nat.add_zero _).symm) rfl rfl ?_
 have sp_2 := Fa.newbad_spec th va vo lk pl ao n c A (hr) (by first | rfl | assumption | omega | (simp; done) | (simp; omega)) (by omega) hok
 refine l_call rfl rfl rfl rfl rfl rfl Try.call9 (sp_2) Ts ?_
 rintro ⟨⟩ -
 try simp only [List.cons_append, List.nil_append]
 refine ag_nil ?_
 refine q_move rfl rfl rfl rfl ?_
 refine q_extract rfl rfl rfl rfl rfl ?_
 refine q_extract rfl rfl rfl rfl rfl ?_
 refine q_assign rfl rfl rfl rfl ?_
 refine q_assign rfl rfl rfl rfl ?_
 refine r_done ?_
 refine s_keep [5, 6, 7, 8] (e' := [(5, _), (6, _), (7, _), (8, _)]) rfl ?_
 refine k_then_n ?_
 refine c_seq ?_
 refine c_seq ?_
 refine c_plain (.q 0 (.q 1 (.q 2 (.q 3 (.q 4 (.q 5 (.q 6 (.q 7 (.q 8 (.q 9 (.done))))))))))) (by kernel_rfl) ?_
 refine q_move rfl rfl rfl rfl ?_
 refine q_ne_nil rfl rfl rfl rfl Try.underlying27 ?_
 refine s_eq 32 rfl (v' := .bool false) rfl ?_
 refine q_move rfl rfl rfl rfl ?_
 refine q_neb rfl rfl rfl rfl rfl Try.underlying4 ?_
 refine s_eq 34 rfl (v' := .bool false) rfl ?_
 refine q_move rfl rfl rfl rfl ?_
 refine q_move rfl rfl rfl rfl ?_
 refine q_int rfl rfl rfl rfl rfl (b_eql _ _ _ _) ?_
 refine s_eq 37 rfl (v' := .bool false) (by first | rfl | simp) ?_
 refine q_move rfl rfl rfl rfl ?_
 refine q_neb rfl rfl rfl rfl rfl Try.underlying4 ?_
 refine s_eq 39 rfl (v' := .bool false) rfl ?_
 refine q_pick_f rfl rfl rfl rfl rfl ?_
 refine r_done ?_
 refine s_keep [5, 7, 40] (e' := [(5, _), (7, _), (40, _)]) rfl ?_
 refine k_then_n ?_
 refine c_cond_f rfl ?_
 refine c_skip ?_
 refine k_then_n ?_
 refine c_seq ?_
 refine c_seq ?_
 refine c_plain (.q 0 (.q 1 (.done))) (by kernel_rfl) ?_
 refine q_move rfl rfl rfl rfl ?_
 refine q_eq_nil rfl rfl rfl rfl Try.underlying27 ?_
 refine s_eq 42 rfl (v' := .bool true) rfl ?_
 refine r_done ?_
 refine k_then_n ?_
 refine c_cond_t rfl ?_
 refine c_seq ?_
 refine c_plain ((.l 0 [] (.q 1 (.done)))) (by kernel_rfl) ?_
 have sp_3 := known_spec
 refine l_call rfl rfl rfl rfl rfl rfl Try.call11 (sp_3) Ts ?_
 rintro ⟨⟩ -
 try simp only [List.cons_append, List.nil_append]
 refine ag_nil ?_
 refine q_assign rfl rfl rfl rfl ?_
 refine r_done ?_
 refine s_keep [4] (e' := [(4, _)]) rfl ?_
 refine k_then_n ?_
 refine c_ret ?_
 refine k_then_ret ?_
 refine ret1 rfl rfl (()) (by first | rfl | (first | rfl | (congr 1; done) | (congr 1 <;> first | rfl | omega | (simp; done) | (simp; omega)))) (by trivial) ?_
 exact Tf
theorem cheap_spec (th va vo lk : Int) (pl : List Int) (ao : Option Addr) (n c : Nat) (A : HProp) (hr : RdS A ao (pl.flatMap encZ)) (hn : pl.length = n) (hb : n ≤ 4000000) (es : List T3) (eo : Option Addr) (m ec : Nat) (he : RdS A eo (es.flatMap enc3)) (hm : es.length = m) (hmb : m ≤ 4000000) : Spec Try.prog 5 [.agg #[.int .i64 th, .int .i64 va, .int .i64 vo, .int .i64 lk, .slice ao n c], .slice eo m ec] [A] (fun (_ : Unit) => .bool true) (fun _ => True) (fun _ => [A]) := by
  by_cases hok : OkS th va vo lk pl
  · exact cheap_ok th va vo lk pl ao n c A hr hn hb es eo m ec he hm hmb hok
  · exact cheap_bad th va vo lk pl ao n c A hr hn hb es eo m ec he hm hmb hok
end Go.Ab.Fa
set_option linter.unusedVariables false
set_option linter.unusedSimpArgs false
namespace Go.Proofs.Ytjibehgfiljbgaa.frame
open Go Go.Ab Go.ChangeShapes Go.WideShapes Go.ChangeAt Go.RowKit
/-! The bound. -/
theorem one_le {H : Type} (d : DataW H) : 1 ≤ Rows.uptoBulk d := by
  cases d with
  | lit l => cases l <;> simp [Rows.uptoBulk]
  | nil => simp [Rows.uptoBulk]
  | ptr d => simp [Rows.uptoBulk]
  | slice elems spare => simp [Rows.uptoBulk]
  | agg parts => simp [Rows.uptoBulk]
  | iface t d => simp [Rows.uptoBulk]
  | map entries => simp [Rows.uptoBulk]
  | held h => simp [Rows.uptoBulk]
theorem part_le {H : Type} {d : DataW H} {l : List (DataW H)} (h : d ∈ l) : Rows.uptoBulk d ≤ Rows.uptoBulkAll l := by
  induction l with
  | nil => cases h
  | cons x r ih =>
    simp only [Rows.uptoBulkAll]
    cases List.mem_cons.1 h with
    | inl e => subst e; omega
    | inr e => have := ih e; omega
theorem length_le {H : Type} (l : List (DataW H)) : l.length ≤ Rows.uptoBulkAll l := by
  induction l with
  | nil => simp [Rows.uptoBulkAll]
  | cons x r ih => have := one_le x; simp only [Rows.uptoBulkAll, List.length_cons]; omega
theorem bound {H : Type} {l : List (DataW H)} (hk : Rows.uptoSmall H l = true) : Rows.uptoBulkAll l ≤ 1048576 := of_decide_eq_true hk
theorem bound_mem {H : Type} {l : List (DataW H)} {d : DataW H} (hk : Rows.uptoSmall H l = true) (h : d ∈ l) : Rows.uptoBulk d ≤ 1048576 := Nat.le_trans (part_le h) (bound hk)
theorem bulk_slice {H : Type} {es rs : List (DataW H)} {d : DataW H} (h : d ∈ es) : Rows.uptoBulk d ≤ Rows.uptoBulk (.slice es rs) := by
  have := part_le h
  simp only [Rows.uptoBulk]; omega
theorem bulk_len {H : Type} (es rs : List (DataW H)) : es.length ≤ Rows.uptoBulk (.slice es rs) := by
  have := length_le es
  simp only [Rows.uptoBulk]; omega
/-! The arguments read behind the call as before. -/
theorem trodAll_below {H : Type} {enc : TypeId × Value → H} {P : Program} (hl : laidOutB P = true) {W W' : World} (hb : Below W.heap.size W W') : ∀ {ts : List TypeId} {vs : List Value} {ds : List (DataW H)} {ps : List MemPlace}, (∀ t ∈ ts, P.readableRec t = true ∧ t < P.types.size) →
    DataW.TrodAll enc P W 0 (fun _ => true) true ts vs ds ps → (∀ x ∈ ps, x.block < W.heap.size) → DataW.TrodAll enc P W' 0 (fun b => decide (b < W.heap.size)) true ts vs ds ps
  | [], [], [], _, _, h, _ => h
  | t :: ts, v :: vs, d :: ds, ps, hr, ⟨p, q, h, hs, e⟩, hlt => by
    subst e
    exact ⟨p, q, Below.trod hl (hr t (by simp)).1 (hr t (by simp)).2 h hb (fun x hx => hlt x (List.mem_append_left _ hx)), trodAll_below hl hb (fun t ht => hr t (List.mem_cons_of_mem _ ht)) hs (fun x hx => hlt x (List.mem_append_right _ hx)), rfl⟩
theorem law_post {H : Type} {enc : TypeId × Value → H} {P : Program} {f : Func} {s : ChangeSpec} {W W' : World} {args : Array Value} {ds gs : List (DataW H)} {before : List MemPlace} {tb : TypeId}
    (hl : laidOutB P = true) (hr : ∀ t ∈ f.params.toList, P.readableRec t = true ∧ t < P.types.size) (hvars : s.vars = []) (hres : f.resultTypes = #[tb]) (hb : P.underlying tb = some .bool)
    (hf : s.fn H (ds ++ gs) = { results := [.lit (.bool true)], args := ds, vars := [] }) (hW : DataW.Whole enc P f.params.toList s.vars false W args.toList ds gs before) (bel : Below W.heap.size W W') : s.post enc P f false true false false W args (.bool true) W' := by
  have hW' := hW
  obtain ⟨p, q, hA, hV, rfl, hfz, hnd⟩ := hW
  rw [hvars] at hV
  obtain ⟨rfl, rfl⟩ := trodVars_none hV
  have hA' : DataW.TrodAll enc P W 0 (fun _ => true) true f.params.toList args.toList ds p := hA
  refine ⟨ds, [], p ++ [], [], p, [], hW', ?_, ?_, ?_, bel.frame _, fun h => by cases h⟩
  · rw [hf, hres]
    exact trodAll_mk1 (shut_bool hb true)
  · rw [hf]
    exact trodAll_below hl bel hr hA' (fun x hx => hW'.lt x (List.mem_append_left _ hx))
  · rw [hf, hvars]
    exact rfl
theorem spec_calls {P : Program} {f : FuncId} {args : List Value} {W : World} (h : Ab.Spec P f args [base W] (fun (_ : Unit) => .bool true) (fun _ => True) (fun _ => [base W])) : Calls P f args.toArray W fun e W' => e = .returned (.bool true) ∧ Below W.heap.size W W' :=
  (h [] W (base_self W)).mono fun e w' ⟨_, e1, _, s, a⟩ => ⟨e1, below_of_base s a⟩
/-! Arguments are opened. -/
theorem spot_of_cell {W : World} {a : Addr} {v : Value} (h : W.cell? a = some v) : a.spot = none := by
  unfold World.cell? at h
  split at h
  · split at h
    · cases h
    · rename_i hs; simpa using hs
  · cases h
theorem choose_list {α : Type} : ∀ (n : Nat) (Q : Nat → α → Prop), (∀ i, i < n → ∃ x, Q i x) → ∃ xs : List α, xs.length = n ∧ ∀ i x, xs[i]? = some x → Q i x
  | 0, Q, _ => ⟨[], rfl, fun i x h => by simp at h⟩
  | n + 1, Q, h => by
    obtain ⟨xs, h1, h2⟩ := choose_list n Q (fun i hi => h i (by omega))
    obtain ⟨x, hx⟩ := h n (by omega)
    refine ⟨xs ++ [x], by simp [h1], fun i y hy => ?_⟩
    rcases Nat.lt_trichotomy i n with hi | hi | hi
    · rw [List.getElem?_append_left (by omega)] at hy; exact h2 i y hy
    · subst hi; rw [List.getElem?_append_right (by omega), h1, Nat.sub_self] at hy; simp at hy; subst hy; exact hx
    · rw [List.getElem?_eq_none (by simp; omega)] at hy; cases hy
theorem rdn_flat_mk {α : Type} {A : HProp} {b sz : Nat} {enc : α → List Value} (hsz : ∀ x, (enc x).length = sz) : ∀ (xs : List α) (o : Nat), (∀ i x, xs[i]? = some x → RdN A b (o + i * sz) (enc x)) → RdN A b o (xs.flatMap enc)
  | [], o, _ => fun i v h => by simp at h
  | x :: xs, o, h => fun i v hv => by
    rw [List.flatMap_cons] at hv
    by_cases hi : i < (enc x).length
    · rw [List.getElem?_append_left hi] at hv
      have := h 0 x rfl i v hv
      rwa [Nat.zero_mul, Nat.add_zero] at this
    · rw [List.getElem?_append_right (by omega), hsz] at hv
      rw [hsz] at hi
      have ih := rdn_flat_mk hsz xs (o + sz) (fun i y hy => by
        have := h (i + 1) y (by simpa using hy)
        rw [Nat.succ_mul] at this
        rwa [show o + sz + i * sz = o + (i * sz + sz) from by omega])
      have := ih (i - sz) v hv
      rwa [show o + sz + (i - sz) = o + i from by omega] at this
/-- A slice among what is read: its elements are opened by 'hel'. -/
theorem open_sl {α H : Type} {enc : TypeId × Value → H} {P : Program} {W : World} {t e : TypeId} {ao : Option Addr} {len cap sz fuel : Nat} {y : DataW H × List MemPlace} {enc' : α → List Value} {Q : α → DataW H → Prop} (ht : P.underlying t = some (.slice e)) (hc : P.cellsOf e = sz + 1) (hsz : ∀ x, (enc' x).length = sz + 1)
    (hel : ∀ n cs y, DataW.trod enc P W 0 (fun _ => true) true n e cs = some y → cs.length = sz + 1 → ∃ x : α, enc' x = cs ∧ Q x y.1)
    (h : DataW.trod enc P W 0 (fun _ => true) true fuel t [.slice ao len cap] = some y) :
    ∃ xs : List α, xs.length = len ∧ RdS (base W) ao (xs.flatMap enc') ∧ len ≤ cap ∧ cap ≤ maxLen ∧ xs.length ≤ Rows.uptoBulk y.1 ∧ (∀ x ∈ xs, ∃ d, Q x d ∧ Rows.uptoBulk d ≤ Rows.uptoBulk y.1) ∧ (ao = none → cap = 0) := by
  rcases DataW.trod_slice ht h with ⟨h1, h2⟩ | ⟨a, len', cap', elems, rest, n, -, h1, h2, -, hl, hm, hlen, hel', -⟩
  · simp only [List.cons.injEq, Value.slice.injEq, and_true] at h1
    obtain ⟨rfl, rfl, rfl⟩ := h1
    exact ⟨[], rfl, .inl rfl, Nat.le_refl _, Nat.zero_le _, Nat.zero_le _, fun _ h => (by cases h), fun _ => rfl⟩
  · simp only [List.cons.injEq, Value.slice.injEq, and_true] at h1
    obtain ⟨rfl, rfl, rfl⟩ := h1
    subst h2
    have key : ∀ i, i < len → ∃ x : α, ∃ cs y, W.cells? 0 (a.add (i * (sz + 1))) (sz + 1) = some cs ∧ elems[i]? = some y ∧ enc' x = cs ∧ Q x y.1 := by
      intro i hi
      have h3 := hel' i hi
      rw [List.getElem?_eq_getElem (by omega), hc, Option.bind_eq_some_iff] at h3
      obtain ⟨cs, h4, h5⟩ := h3
      have h6 := World.cells?_some h4
      obtain ⟨x, hx, hq⟩ := hel n cs _ h5 (by have := mapM_some_length (by unfold World.cells? at h4; rwa [if_pos (Nat.zero_le _)] at h4); simpa using this)
      exact ⟨x, cs, _, h4, List.getElem?_eq_getElem (by omega), hx, hq⟩
    obtain ⟨xs, hx1, hx2⟩ := choose_list len _ key
    have hcell : ∀ i x, xs[i]? = some x → ∀ j v, (enc' x)[j]? = some v → W.cell? ((a.add (i * (sz + 1))).add j) = some v := by
      intro i x hx j v hv
      obtain ⟨cs, y, h4, -, h5, -⟩ := hx2 i x hx
      subst h5
      unfold World.cells? at h4
      rw [if_pos (Nat.zero_le _)] at h4
      have hj : j < sz + 1 := by rw [← hsz x]; exact (List.getElem?_eq_some_iff.1 hv).1
      have := mapM_some_get h4 j j (by simp [hj])
      rw [this, hv]
    refine ⟨xs, hx1, ?_, hl, hm, ?_, ?_, fun h => by cases h⟩
    · cases hxs : xs with
      | nil => exact .inl rfl
      | cons x0 xs' =>
        obtain ⟨v0, hv0⟩ := get_lt (l := enc' x0) (i := 0) (by rw [hsz]; omega)
        have h6 := hcell 0 x0 (by rw [hxs]; rfl) 0 v0 hv0
        rw [Nat.zero_mul] at h6
        have hsp : a.spot = none := spot_of_cell (by simpa [Addr.add] using h6)
        obtain ⟨b, o, sp⟩ := a
        simp only at hsp
        subst hsp
        refine .inr ⟨b, o, rfl, ?_⟩
        rw [← hxs]
        refine rdn_flat_mk hsz xs o fun i x hx j v hv => rd_base ?_
        have := hcell i x hx j v hv
        rwa [add_none, add_none] at this
    · have := bulk_len (elems.map (·.1)) (rest.map (·.1))
      rw [List.length_map, hlen] at this
      rw [hx1]; exact this
    · intro x hx
      obtain ⟨i, hi⟩ := List.getElem?_of_mem hx
      obtain ⟨cs, y, -, h5, -, h7⟩ := hx2 i x hi
      exact ⟨y.1, h7, bulk_slice (List.mem_map_of_mem (List.mem_of_getElem? h5))⟩
/-- Whole arguments. -/
theorem arg_sl {α H : Type} {enc : TypeId × Value → H} {P : Program} {W : World} {t e : TypeId} {v : Value} {d : DataW H} {ps : List MemPlace} {bs sz : Nat} {enc' : α → List Value} {Q : α → DataW H → Prop} (ht : P.underlying t = some (.slice e)) (hc : P.cellsOf e = sz + 1) (hsz : ∀ x, (enc' x).length = sz + 1)
    (hel : ∀ n cs y, DataW.trod enc P W 0 (fun _ => true) true n e cs = some y → cs.length = sz + 1 → ∃ x : α, enc' x = cs ∧ Q x y.1)
    (hval : Value.okWide P W .any bs t v) (h : DataW.Trod enc P W 0 (fun _ => true) true t v d ps) :
    ∃ (xs : List α) (ao : Option Addr) (cap : Nat), v = .slice ao xs.length cap ∧ RdS (base W) ao (xs.flatMap enc') ∧ xs.length ≤ cap ∧ cap ≤ maxLen ∧ xs.length ≤ Rows.uptoBulk d ∧ (∀ x ∈ xs, ∃ y, Q x y ∧ Rows.uptoBulk y ≤ Rows.uptoBulk d) ∧ (ao = none → cap = 0) := by
  obtain ⟨ao, len, cap, rfl⟩ := okWide_slice ht hval
  obtain ⟨n, hn⟩ := h
  obtain ⟨xs, h1, h2, h3, h4, h5, h6, h7⟩ := open_sl ht hc hsz hel (y := (d, ps)) (by simpa [Value.cells] using hn)
  subst h1
  exact ⟨xs, ao, cap, rfl, h2, h3, h4, h5, h6, h7⟩
/-- A slice of an element of a slice. -/
theorem el_sl {α H : Type} {enc : TypeId × Value → H} {P : Program} {W : World} {t e : TypeId} {sz : Nat} {enc' : α → List Value} {Q : α → DataW H → Prop} (ht : P.underlying t = some (.slice e)) (hc : P.cellsOf e = sz + 1) (hsz : ∀ x, (enc' x).length = sz + 1)
    (hel : ∀ n cs y, DataW.trod enc P W 0 (fun _ => true) true n e cs = some y → cs.length = sz + 1 → ∃ x : α, enc' x = cs ∧ Q x y.1)
    (n : Nat) (cs : List Value) (y : DataW H × List MemPlace) (h : DataW.trod enc P W 0 (fun _ => true) true n t cs = some y) (hl : cs.length = 0 + 1) :
    ∃ x : LstA α, encH x = cs ∧ (RdS (base W) x.1 (x.2.2.flatMap enc') ∧ x.2.2.length ≤ Rows.uptoBulk y.1 ∧ (∀ z ∈ x.2.2, ∃ d, Q z d ∧ Rows.uptoBulk d ≤ Rows.uptoBulk y.1) ∧ x.2.2.length ≤ x.2.1) := by
  have h0 : ∃ ao len cap, cs = [.slice ao len cap] := by
    rcases DataW.trod_slice ht h with ⟨h1, -⟩ | ⟨a, len', cap', elems, rest, n, -, h1, -⟩
    · exact ⟨_, _, _, h1⟩
    · exact ⟨_, _, _, h1⟩
  obtain ⟨ao, len, cap, rfl⟩ := h0
  obtain ⟨xs, h1, h2, h3, h4, h5, h6, h7⟩ := open_sl ht hc hsz hel h
  subst h1
  exact ⟨(ao, cap, xs), rfl, h2, h5, h6, h3⟩
/-- An integer. -/
theorem el_int {H : Type} {enc : TypeId × Value → H} {P : Program} {W : World} {e : TypeId} {k : IntKind} (he : P.underlying e = some (.int k)) (n : Nat) (cs : List Value) (y : DataW H × List MemPlace) (h : DataW.trod enc P W 0 (fun _ => true) true n e cs = some y) (hl : cs.length = 0 + 1) : ∃ x : Int, [Value.int k x] = cs ∧ (Lit.int k x).wf = true := by
  obtain ⟨m, rfl, rfl, hw⟩ := DataW.trod_int he h
  exact ⟨m, rfl, hw⟩
end Go.Proofs.Ytjibehgfiljbgaa.frame
set_option linter.unusedVariables false
set_option linter.unusedSimpArgs false
namespace Go.Proofs.Ytjibehgfiljbgaa.frame
open Go Go.Ab Go.ChangeShapes Go.WideShapes Go.ChangeAt Go.RowKit
variable {α β H : Type} {enc : TypeId × Value → H} {P : Program} {W : World} {e : TypeId} {fs : Array Field} {m : Nat} {cs : List Value} {B : Nat}
/-- How an element of type e is opened. -/
abbrev El (enc : TypeId × Value → H) (P : Program) (W : World) (e : TypeId) (sz : Nat) (encA : α → List Value) (Q : α → DataW H → Prop) : Prop :=
  ∀ n cs y, DataW.trod enc P W 0 (fun _ => true) true n e cs = some y → cs.length = sz → ∃ x : α, encA x = cs ∧ Q x y.1
/-- What is known of the fields from i on. -/
def FR (enc : TypeId × Value → H) (P : Program) (W : World) (fs : Array Field) (m i : Nat) (cs : List Value) (B : Nat) : Prop :=
  ∀ j f, i ≤ j → fs[j]? = some f → ∃ y : DataW H × List MemPlace, DataW.trod enc P W 0 (fun _ => true) true m f.type ((cs.drop f.offset).take (P.cellsOf f.type)) = some y ∧ Rows.uptoBulk y.1 ≤ B
theorem fr_start {n : Nat} {y : DataW H × List MemPlace} (he : P.underlying e = some (.struct fs)) (h : DataW.trod enc P W 0 (fun _ => true) true n e cs = some y) : ∃ m, FR enc P W fs m 0 cs (Rows.uptoBulk y.1) := by
  obtain ⟨xs, m, -, hy, -, hxs, hf⟩ := DataW.trod_struct he h
  refine ⟨m, fun j f _ hj => ?_⟩
  have hlt : j < xs.length := by rw [hxs]; exact (Array.getElem?_eq_some_iff.1 hj).1
  have := hf j f hj
  rw [List.getElem?_eq_getElem hlt] at this
  refine ⟨_, this, ?_⟩
  rw [hy]
  have hp := part_le (l := xs.map (·.1)) (d := xs[j].1) (List.mem_map_of_mem (List.getElem_mem hlt))
  simp only [Rows.uptoBulk]
  omega
/-- Fields from i on, opened. -/
abbrev Fo (enc : TypeId × Value → H) (P : Program) (W : World) (fs : Array Field) (i off sz : Nat) (encA : α → List Value) (Q : α → Nat → Prop) : Prop :=
  ∀ m cs B, FR enc P W fs m i cs B → cs.length = off + sz → ∃ x : α, encA x = cs.drop off ∧ Q x B
theorem fo_last {i off sz : Nat} {f : Field} {encA : α → List Value} {Q : α → DataW H → Prop} (hf : fs[i]? = some f) (ho : f.offset = off) (hc : P.cellsOf f.type = sz) (el : El enc P W f.type sz encA Q) :
    Fo enc P W fs i off sz encA (fun x B => ∃ d, Q x d ∧ Rows.uptoBulk d ≤ B) := by
  intro m cs B h hl
  obtain ⟨y, hy, hb⟩ := h i f (Nat.le_refl _) hf
  rw [ho, hc, List.take_of_length_le (by rw [List.length_drop]; omega)] at hy
  obtain ⟨x, hx, hq⟩ := el m _ y hy (by rw [List.length_drop]; omega)
  exact ⟨x, hx, y.1, hq, hb⟩
theorem fo_cons {i off sz n : Nat} {f : Field} {encA : α → List Value} {Q : α → DataW H → Prop} {encB : β → List Value} {R : β → Nat → Prop} (hf : fs[i]? = some f) (ho : f.offset = off) (hc : P.cellsOf f.type = sz) (el : El enc P W f.type sz encA Q)
    (rest : Fo enc P W fs (i + 1) (off + sz) n encB R) : Fo enc P W fs i off (sz + n) (fun x : α × β => encA x.1 ++ encB x.2) (fun x B => (∃ d, Q x.1 d ∧ Rows.uptoBulk d ≤ B) ∧ R x.2 B) := by
  intro m cs B h hl
  obtain ⟨y, hy, hb⟩ := h i f (Nat.le_refl _) hf
  rw [ho, hc] at hy
  obtain ⟨x, hx, hq⟩ := el m _ y hy (by rw [List.length_take, List.length_drop]; omega)
  obtain ⟨z, hz, hr⟩ := rest m cs B (fun j g hj hg => h j g (by omega) hg) (by omega)
  refine ⟨(x, z), ?_, ⟨y.1, hq, hb⟩, hr⟩
  show encA x ++ encB z = _
  rw [hx, hz, ← List.drop_drop, List.take_append_drop]
theorem el_struct {sz : Nat} {encA : α → List Value} {Q : α → Nat → Prop} (he : P.underlying e = some (.struct fs)) (fo : Fo enc P W fs 0 0 sz encA Q) : El enc P W e sz encA (fun x d => Q x (Rows.uptoBulk d)) := by
  intro n cs y h hl
  obtain ⟨m, hm⟩ := fr_start he h
  obtain ⟨x, hx, hq⟩ := fo m cs _ hm (by omega)
  exact ⟨x, hx, hq⟩
/-- A struct handed in. -/
theorem arg_struct {t : TypeId} {v : Value} {d : DataW H} {ps : List MemPlace} {bs sz : Nat} {encA : α → List Value} {Q : α → DataW H → Prop} (ht : P.underlying t = some (.struct fs)) (hc : P.cellsOf t = sz) (el : El enc P W t sz encA Q)
    (hval : Value.okWide P W .any bs t v) (h : DataW.Trod enc P W 0 (fun _ => true) true t v d ps) : ∃ x : α, v = .agg (encA x).toArray ∧ Q x d := by
  obtain ⟨cs, rfl, hs⟩ := okWide_struct ht hval
  obtain ⟨n, hn⟩ := h
  obtain ⟨x, hx, hq⟩ := el n cs.toList (d, ps) (by simpa [Value.cells] using hn) (by simpa [hc] using hs)
  exact ⟨x, by rw [hx], hq⟩
end Go.Proofs.Ytjibehgfiljbgaa.frame
