/- Package vclock: Join, Leq, Against, List; the law Names. -/
import Derived.Test.YtkoclbjiaofkhaaVc1
set_option linter.unusedVariables false
set_option linter.unusedSimpArgs false
set_option maxRecDepth 100000
namespace Go.Ab.Vc
open Go Go.Proofs Go.Ab
theorem join_spec (b : Nat) (l : List Int) (ao : Option Addr) (n cap : Nat) (hn : l.length = n) (hl : CV l) (os M : List K) (hos : ∀ x ∈ os, x ∈ M) (hMc : ∀ x ∈ M, CV x.2.2.2) (bo : Option Addr) (m c : Nat) (A : HProp) (hr : RdS A bo (os.flatMap encP)) (hm : os.length = m) (hb : m ≤ 4000000000) : Spec Try.prog 78 [.pointer (some ⟨b, 0, none⟩), .slice bo m c] [cells b 0 [.slice ao n cap], own 1 encU ao cap l, A, bigS kf M] (fun (r : Option Addr × Nat) => .int .i64 0) (fun r => True) (fun r => [cells b 0 [.slice r.1 (jnA l os).length r.2], own 1 encU r.1 r.2 (jnA l os), A, bigS kf M]) := by
 refine spec_mk (n := 56) Try.func78 rfl rfl rfl ?_
 intro Γ w0
 simp only [argE, List.cons_append, List.nil_append, Nat.zero_add, Nat.reduceAdd]
 refine c_seq ?_
 refine c_plain (.q 0 (.done)) (by kernel_rfl) ?_
 refine q_assign rfl rfl rfl rfl ?_
 refine r_done ?_
 refine k_then_n ?_
 refine c_seq ?_
 refine c_seq ?_
 refine c_plain (.q 0 (.q 1 (.q 2 (.q 3 ((.l 4 [] (.q 5 (.done)))))))) (by kernel_rfl) ?_
 refine q_move rfl rfl rfl rfl ?_
 refine q_eq_nil rfl rfl rfl rfl Try.underlying82 ?_
 refine s_eq 10 rfl (v' := .bool false) rfl ?_
 refine q_move rfl rfl rfl rfl ?_
 refine q_move rfl rfl rfl rfl ?_
 have sp_1 := contains_spec os bo m c A hr hm hb
 refine l_call rfl rfl rfl rfl rfl rfl Try.call83 (sp_1) (by (repeat ((with_reducible apply Z2); focus (first | (with_reducible (repeat (first | exact Z0 | apply Z1)); done) | (repeat (first | exact Z0 | apply Z1))))); exact Z3) ?_
 rintro ⟨⟩ -
 try simp only [List.cons_append, List.nil_append]
 refine ag_nil ?_
 refine q_pick_f rfl rfl rfl rfl rfl ?_
 refine r_done ?_
 refine s_keep [0, 1, 14] (e' := [(0, _), (1, _), (14, _)]) rfl ?_
 refine k_then_n ?_
 refine c_cond_f rfl ?_
 refine c_skip ?_
 refine k_then_n ?_
 refine c_seq ?_
 refine c_seq ?_
 refine c_plain (.q 0 (.q 1 (.q 2 (.done)))) (by kernel_rfl) ?_
 refine q_move rfl rfl rfl rfl ?_
 refine q_len rfl rfl rfl rfl Try.underlying150 ?_
 refine q_move rfl rfl rfl rfl ?_
 refine r_done ?_
 refine k_then_n ?_
 refine c_block ?_
 rw [← hn]
 refine c_loop2 (α := Nat × Option Addr × Nat) (fun (x_ : Nat × Option Addr × Nat) => match x_ with | (k, ja, jc) => k ≤ m ∧ (CV (jnA l (os.take k)))) (fun (x_ : Nat × Option Addr × Nat) => match x_ with | (k, ja, jc) => [(17, .int .i64 ((k : Nat) : Int))]) (fun (x_ : Nat × Option Addr × Nat) => match x_ with | (k, ja, jc) => [cells b 0 [.slice ja ((jnA l (os.take k)).length) jc], own 1 encU ja jc (jnA l (os.take k))]) (fun (x_ : Nat × Option Addr × Nat) => match x_ with | (k, ja, jc) => m - k) [0, 15, 16] (er := [(0, _), (15, _), (16, _)]) rfl (0, ao, cap) ?_ (by exact ⟨rfl, trivial⟩) (by (repeat ((with_reducible apply Z2); focus (first | (with_reducible (repeat (first | exact Z0 | apply Z1)); done) | (repeat (first | exact Z0 | apply Z1))))); exact Z3) ?_
 · exact ⟨Nat.zero_le _, hl⟩
 rintro ⟨k, ja, jc⟩ ⟨hle_k, hcv⟩
 try simp only [List.cons_append, List.nil_append]
 have hcl := hcv.len
 refine c_seq ?_
 refine c_plain (.q 0 (.done)) (by kernel_rfl) ?_
 refine q_int rfl rfl rfl rfl rfl (b_lss _ _ _ _) ?_
 refine r_done ?_
 refine k_then_n ?_
 refine c_seq ?_
 refine c_cond_p rfl (fun hlt => ?_) (fun hlt => ?_)
 ·
  obtain ⟨x, hx⟩ := get_lt (l := os) (i := k) (by omega)
  have hxM := hos _ (List.mem_of_getElem? hx)
  have hxcv := hMc _ hxM
  obtain ⟨j, hj⟩ := List.getElem?_of_mem hxM
  obtain ⟨d, da, dc, dl⟩ := x
  simp only at hxcv
  have hdl := hxcv.len
  refine s_big_take (f := kf) (L := M) (by with_reducible (repeat (first | exact Z0 | apply Z1))) hj ?_
  refine s_bun ?_
  try simp only [List.cons_append, List.nil_append]
  obtain ⟨cur, hcur⟩ : ∃ c, c = jnA l (os.take k) := ⟨_, rfl⟩
  rw [← hcur] at hcv hcl ⊢
  refine c_skip ?_
  refine k_then_n ?_
  refine c_seq ?_
  refine c_block ?_
  refine c_seq ?_
  refine c_plain (.q 0 (.q 1 (.q 2 (.done)))) (by kernel_rfl) ?_
  refine q_idxR (sz := 0) (k := k) rfl rfl rfl rfl rfl Try.underlying150 Try.sizeOf82 (hr) hx encP_len (by first | rfl | omega) (by omega) ?_
  intro ib19 io19 _ hd19
  refine q_load rfl rfl rfl rfl Try.isAgg82 (by with_reducible (repeat (first | exact Z0 | apply Z1))) (hd19 0 (.pointer (some ⟨(d, da, dc, dl).1, 0, none⟩)) rfl) ?_
  refine s_eq 20 rfl (v' := .pointer (some ⟨d, 0, none⟩)) (by rfl) ?_
  refine q_assign rfl rfl rfl rfl ?_
  refine r_done ?_
  refine k_then_n ?_
  refine c_seq ?_
  refine c_plain (.q 0 (.q 1 (.q 2 (.q 3 (.q 4 (.q 5 (.q 6 ((.l 7 [] (.done)))))))))) (by kernel_rfl) ?_
  refine q_move rfl rfl rfl rfl ?_
  refine q_move rfl rfl rfl rfl ?_
  refine q_nil_p rfl rfl rfl rfl ?_
  refine q_field (k := 0) rfl rfl rfl rfl Try.underlying118 rfl Try.sizeOf31 rfl ?_
  refine q_load_c (j := 0) rfl rfl rfl rfl Try.isAgg31 (by with_reducible (repeat (first | exact Z0 | apply Z1))) (by first | rfl | exact (Nat.add_zero _).symm) (by rfl) ?_
  refine q_len rfl rfl rfl rfl Try.underlying31 ?_
  refine q_int rfl rfl rfl rfl rfl (b_sub' _ (by exact fits_i64 (by omega) (by omega))) ?_
  have sp_2 := reach_spec b cur dl.length ja cur.length jc (by first | rfl | assumption | omega | (simp; done) | (simp; omega)) (by omega)
  refine l_call rfl rfl rfl rfl rfl rfl Try.call64 (sp_2) (by (repeat ((with_reducible apply Z2); focus (first | (with_reducible (repeat (first | exact Z0 | apply Z1)); done) | (repeat (first | exact Z0 | apply Z1))))); exact Z3) ?_
  rintro ⟨re_a, re_c⟩ -
  try simp only [List.cons_append, List.nil_append]
  refine ag_nil ?_
  refine r_done ?_
  refine s_keep [0, 6, 15, 16, 17] (e' := [(0, _), (6, _), (15, _), (16, _), (17, _)]) rfl ?_
  refine k_then_n ?_
  refine c_seq ?_
  refine c_plain (.q 0 (.q 1 (.q 2 (.q 3 (.q 4 (.q 5 (.done))))))) (by kernel_rfl) ?_
  refine q_move rfl rfl rfl rfl ?_
  refine q_nil_p rfl rfl rfl rfl ?_
  refine q_field (k := 0) rfl rfl rfl rfl Try.underlying118 rfl Try.sizeOf31 rfl ?_
  refine q_load_c (j := 0) rfl rfl rfl rfl Try.isAgg31 (by with_reducible (repeat (first | exact Z0 | apply Z1))) (by first | rfl | exact (Nat.add_zero _).symm) (by rfl) ?_
  refine q_len rfl rfl rfl rfl Try.underlying31 ?_
  refine q_move rfl rfl rfl rfl ?_
  refine r_done ?_
  refine s_keep [0, 15, 16, 17, 32, 33, 34] (e' := [(0, _), (15, _), (16, _), (17, _), (32, _), (33, _), (34, _)]) rfl ?_
  refine k_then_n ?_
  refine c_block ?_
  refine c_loop2 (α := Nat) (fun (i : Nat) => i ≤ dl.length) (fun (i : Nat) => [(34, .int .i64 ((i : Nat) : Int))]) (fun (i : Nat) => [cells b 0 [.slice re_a ((pd cur dl.length).length) re_c], own 1 encU re_a re_c (jnI cur dl i)]) (fun (i : Nat) => dl.length - i) [0, 15, 16, 17, 32, 33] (er := [(0, _), (15, _), (16, _), (17, _), (32, _), (33, _)]) rfl (0) ?_ (by exact ⟨rfl, trivial⟩) (by (try dsimp only); rw [jnI_zero]; (repeat ((with_reducible apply Z2); focus (first | (with_reducible (repeat (first | exact Z0 | apply Z1)); done) | (repeat (first | exact Z0 | apply Z1))))); exact Z3) ?_
  · exact Nat.zero_le _
  rintro i hle_i
  try simp only [List.cons_append, List.nil_append]
  have hjl : (jnI cur dl i).length = max cur.length dl.length := jnI_len _ _ _
  have hjp := pd_len cur dl.length
  refine c_seq ?_
  refine c_plain (.q 0 (.done)) (by kernel_rfl) ?_
  refine q_int rfl rfl rfl rfl rfl (b_lss _ _ _ _) ?_
  refine r_done ?_
  refine k_then_n ?_
  refine c_seq ?_
  refine c_cond_p rfl (fun hli => ?_) (fun hli => ?_)
  ·
   obtain ⟨y, hy⟩ := get_lt (l := dl) (i := i) (by omega)
   have hji : (jnI cur dl i)[i]? = some (cur.getD i 0) := by rw [jnI_get (by omega), if_neg (by omega)]
   refine c_skip ?_
   refine k_then_n ?_
   refine c_seq ?_
   refine c_block ?_
   refine c_seq ?_
   refine c_plain (.q 0 (.q 1 (.q 2 (.q 3 (.q 4 (.done)))))) (by kernel_rfl) ?_
   refine q_move rfl rfl rfl rfl ?_
   refine q_idxO (sz := 0) (k := i) (enc := encU) (xs := dl) rfl rfl rfl rfl rfl Try.underlying31 Try.sizeOf35 hy (by first | rfl | omega) (by omega) (by with_reducible (repeat (first | exact Z0 | apply Z1))) ?_
   intro ib37 io37 ha37 hl37 hc37
   refine q_load_O (v := (.int .u64 y)) (j := 0) (k' := i) (enc := encU) (off := io37) rfl rfl rfl rfl Try.isAgg35 ha37 encU_len hy (by with_reducible (repeat (first | exact Z0 | apply Z1))) (by first | rfl | exact (Nat.add_zero _).symm | omega) (by rfl) ?_
   refine q_assign rfl rfl rfl rfl ?_
   refine q_assign rfl rfl rfl rfl ?_
   refine r_done ?_
   refine s_keep [0, 7, 8, 15, 16, 17, 32, 33, 34] (e' := [(0, _), (7, _), (8, _), (15, _), (16, _), (17, _), (32, _), (33, _), (34, _)]) rfl ?_
   refine k_then_n ?_
   refine c_draw rfl (.q 0 (.q 1 (.q 2 (.q 3 (.q 4 (.q 5 (.q 6 (.q 7 (.q 8 (.q 9 (.q 10 (.q 11 (.q 12 (.q 13 (.q 14 ((.l 15 [] (.done)))))))))))))))))) (by kernel_rfl) ?_
   refine q_move rfl rfl rfl rfl ?_
   refine q_nil_p rfl rfl rfl rfl ?_
   refine q_field (k := 0) rfl rfl rfl rfl Try.underlying118 rfl Try.sizeOf31 rfl ?_
   refine q_load_c (j := 0) rfl rfl rfl rfl Try.isAgg31 (by with_reducible (repeat (first | exact Z0 | apply Z1))) (by first | rfl | exact (Nat.add_zero _).symm) (by rfl) ?_
   refine q_move rfl rfl rfl rfl ?_
   refine q_move rfl rfl rfl rfl ?_
   refine q_nil_p rfl rfl rfl rfl ?_
   refine q_field (k := 0) rfl rfl rfl rfl Try.underlying118 rfl Try.sizeOf31 rfl ?_
   refine q_load_c (j := 0) rfl rfl rfl rfl Try.isAgg31 (by with_reducible (repeat (first | exact Z0 | apply Z1))) (by first | rfl | exact (Nat.add_zero _).symm) (by rfl) ?_
   refine q_move rfl rfl rfl rfl ?_
   refine q_idxO (sz := 0) (k := i) (enc := encU) (xs := (jnI cur dl i)) rfl rfl rfl rfl rfl Try.underlying31 Try.sizeOf35 hji (by first | rfl | omega) (by omega) (by with_reducible (repeat (first | exact Z0 | apply Z1))) ?_
   intro ib49 io49 ha49 hl49 hc49
   refine q_load_O (v := (.int .u64 (cur.getD i 0))) (j := 0) (k' := i) (enc := encU) (off := io49) rfl rfl rfl rfl Try.isAgg35 ha49 encU_len hji (by with_reducible (repeat (first | exact Z0 | apply Z1))) (by first | rfl | exact (Nat.add_zero _).symm | omega) (by rfl) ?_
   refine q_move rfl rfl rfl rfl ?_
   refine q_max rfl rfl rfl rfl rfl ?_
   refine q_idxO (sz := 0) (k := i) (enc := encU) (xs := (jnI cur dl i)) rfl rfl rfl rfl rfl Try.underlying31 Try.sizeOf35 hji (by first | rfl | omega) (by omega) (by with_reducible (repeat (first | exact Z0 | apply Z1))) ?_
   intro ib53 io53 ha53 hl53 hc53
   refine l_store_O (j := 0) (k := i) (q := (max (cur.getD i 0) y)) (enc := encU) (off := io53) rfl rfl rfl rfl Try.sizeOf35 (us := [_]) rfl rfl rfl ha53 encU_len hji (by with_reducible (repeat (first | exact Z0 | apply Z1))) (by first | rfl | exact (Nat.add_zero _).symm | omega) (by first | decide | exact Nat.le_of_ble_eq_true rfl) (by rfl) ?_
   refine ag_nil ?_
   refine r_done ?_
   refine s_keep [0, 15, 16, 17, 32, 33, 34] (e' := [(0, _), (15, _), (16, _), (17, _), (32, _), (33, _), (34, _)]) rfl ?_
   refine k_blk_n ?_
   refine k_then_n ?_
   refine c_plain (.q 0 (.q 1 (.done))) (by kernel_rfl) ?_
   refine q_int rfl rfl rfl rfl rfl (b_add' _ (by exact fits_i64 (by omega) (by omega))) ?_
   refine q_move rfl rfl rfl rfl ?_
   refine r_done ?_
   refine k_then_n ?_
   rw [jnI_next hy]
   refine loop_next (x := i) (i + 1) ?_ ?_ ?_ ?_
   · exact by show i + 1 ≤ dl.length; omega
   · show dl.length - (i + 1) < dl.length - i; omega
   · exact ⟨rfl, rfl, rfl, rfl, rfl, rfl, rfl, trivial⟩
   · (try simp only [List.cons_append, List.nil_append]); (repeat ((with_reducible apply Z2); focus (first | (with_reducible (repeat (first | exact Z0 | apply Z1)); done) | (repeat (first | exact Z0 | apply Z1))))); (repeat (first | exact Z3 | exact Takes.self | refine takes_drop2 ?_))
  ·
   refine c_exit ?_
   refine k_then_exit ?_
   refine k_then_exit ?_
   refine k_blk_here ?_
   refine k_blk_n ?_
   refine k_then_n ?_
   refine c_plain (.q 0 (.q 1 (.done))) (by kernel_rfl) ?_
   refine q_int rfl rfl rfl rfl rfl (b_add' _ (by exact fits_i64 (by omega) (by omega))) ?_
   refine q_move rfl rfl rfl rfl ?_
   refine r_done ?_
   refine s_keep [0, 15, 16, 17] (e' := [(0, _), (15, _), (16, _), (17, _)]) rfl ?_
   refine k_then_n ?_
   have hnx : jnA l (os.take (k + 1)) = jn cur dl := by rw [jnA_next hx, ← hcur]
   have hje : jnI cur dl i = jnA l (os.take (k + 1)) := by rw [hnx]; exact jnI_end hcv (by omega)
   have hjl2 : (pd cur dl.length).length = (jnA l (os.take (k + 1))).length := by rw [hnx, pd_len, jn_len]
   refine s_take (A := own 1 encU re_a re_c (jnI cur dl i)) (by first | (with_reducible (repeat (first | exact Z0 | apply Z1)); done) | (repeat (first | exact Z0 | apply Z1))) ?_
   refine s_heap (Γ' := own 1 encU re_a re_c (jnA l (os.take (k + 1))) :: _) (fun _ h => (by rw [← hje]; exact h)) ?_
   refine s_take (A := cells b 0 [.slice re_a ((pd cur dl.length).length) re_c]) (by first | (with_reducible (repeat (first | exact Z0 | apply Z1)); done) | (repeat (first | exact Z0 | apply Z1))) ?_
   refine s_heap (Γ' := cells b 0 [.slice re_a ((jnA l (os.take (k + 1))).length) re_c] :: _) (fun _ h => (by rw [← hjl2]; exact h)) ?_
   refine s_heap (fun _ h => Bun.fold ((by (repeat ((with_reducible apply Z2); focus (first | (with_reducible (repeat (first | exact Z0 | apply Z1)); done) | (repeat (first | exact Z0 | apply Z1))))); exact Z3 : Takes _ [cells d 0 [.slice da dl.length dc], own 1 encU da dc dl] _) _ h)) ?_
   refine s_big_put (f := kf) (L := M) (i := j) (y := (d, da, dc, dl)) (by (repeat ((with_reducible apply Z2); focus (first | (with_reducible (repeat (first | exact Z0 | apply Z1)); done) | (repeat (first | exact Z0 | apply Z1))))); exact Z3) (List.getElem?_eq_some_iff.1 hj).1 ?_
   rw [set_same hj]
   refine loop_next (x := (k, ja, jc)) ((k + 1, re_a, re_c)) ?_ ?_ ?_ ?_
   · try dsimp only
     exact ⟨by omega, by rw [hnx]; exact jn_cv hcv hxcv⟩
   · show m - (k + 1) < m - k; omega
   · exact ⟨rfl, rfl, rfl, rfl, trivial⟩
   · (try simp only [List.cons_append, List.nil_append]); (repeat ((with_reducible apply Z2); focus (first | (with_reducible (repeat (first | exact Z0 | apply Z1)); done) | (repeat (first | exact Z0 | apply Z1))))); (repeat (first | exact Z3 | exact Takes.self | refine takes_drop2 ?_))
 ·
  refine c_exit ?_
  refine k_then_exit ?_
  refine k_then_exit ?_
  refine k_blk_here ?_
  refine k_then_n ?_
  refine c_seq ?_
  refine c_plain (.q 0 (.done)) (by kernel_rfl) ?_
  refine q_assign rfl rfl rfl rfl ?_
  refine r_done ?_
  refine s_keep [4] (e' := [(4, _)]) rfl ?_
  refine k_then_n ?_
  refine c_ret ?_
  obtain rfl : k = m := by omega
  rw [List.take_of_length_le (by omega)]
  refine ret1 rfl rfl ((ja, jc)) (by first | rfl | (first | rfl | (congr 1; done) | (congr 1 <;> first | rfl | omega | (simp; done) | (simp; omega)))) (by trivial) ?_
  (repeat ((with_reducible apply Z2); focus (first | (with_reducible (repeat (first | exact Z0 | apply Z1)); done) | (repeat (first | exact Z0 | apply Z1))))); (repeat (first | exact Z3 | exact Takes.self | refine takes_drop2 ?_))

theorem over_spec (ao : Option Addr) (n c : Nat) : Spec Try.prog 61 [.slice ao n c] [] (fun (r : Nat) => .func (.func 77) #[] #[.pointer (some ⟨r, 0, none⟩)]) (fun r => True) (fun r => [cells r 0 [.slice ao n c]]) := by
 refine spec_mk (n := 4) Try.func61 rfl rfl rfl ?_
 intro Γ w0
 simp only [argE, List.cons_append, List.nil_append, Nat.zero_add, Nat.reduceAdd]
 refine c_seq ?_
 refine c_plain ((.l 0 [] (.q 1 (.done)))) (by kernel_rfl) ?_
 refine l_box rfl rfl rfl rfl (us := [_]) rfl ?_
 intro b1
 refine ag_nil ?_
 refine q_assign rfl rfl rfl rfl ?_
 refine r_done ?_
 refine k_then_n ?_
 refine c_seq ?_
 refine c_plain (.q 0 (.q 1 (.done))) (by kernel_rfl) ?_
 refine q_func rfl rfl rfl rfl rfl ?_
 refine q_assign rfl rfl rfl rfl ?_
 refine r_done ?_
 refine k_then_n ?_
 refine c_ret ?_
 refine ret1 rfl rfl (b1) (by first | rfl | (first | rfl | (congr 1; done) | (congr 1 <;> first | rfl | omega | (simp; done) | (simp; omega)))) (by trivial) ?_
 (repeat ((with_reducible apply Z2); focus (first | (with_reducible (repeat (first | exact Z0 | apply Z1)); done) | (repeat (first | exact Z0 | apply Z1))))); (repeat (first | exact Z3 | exact Takes.self | refine takes_drop2 ?_))

theorem over1_spec {σ : Type} (l : List Int) (ao : Option Addr) (n c bx : Nat) (A : HProp) (hn : l.length = n) (hr : RdS A ao (l.flatMap encU)) (hb : n ≤ 4000000000) (yf : Value) (JL : Option Code → HProp) (J : σ → HProp) (I : Nat → σ → Prop) (Fin : σ → Code → Prop)
    (hy : ∀ i x s, l[i]? = some x → x ≠ 0 → I i s → CallF Try.prog yf [.int .i64 ((i : Nat) : Int), .int .u64 x] [JL none, J s, A] (fun (r : σ × Option Code) => .bool r.2.isNone) (fun r => (r.2 = none → I (i + 1) r.1) ∧ (∀ c, r.2 = some c → Fin r.1 c)) (fun r => [JL r.2, J r.1, A]))
    (hz : ∀ i s, l[i]? = some 0 → I i s → I (i + 1) s) (s0 : σ) (h0 : I 0 s0) : Spec Try.prog 77 [yf, .pointer (some ⟨bx, 0, none⟩)] [JL none, J s0, A, cells bx 0 [.slice ao n c]] (fun (r : σ × Option Code) => .tuple #[]) (fun r => (r.2 = none ∧ I n r.1) ∨ ∃ c, r.2 = some c ∧ Fin r.1 c) (fun r => [JL r.2, J r.1, A, cells bx 0 [.slice ao n c]]) := by
 refine spec_mk (n := 22) Try.func77 rfl rfl rfl ?_
 intro Γ w0
 simp only [argE, List.cons_append, List.nil_append, Nat.zero_add, Nat.reduceAdd]
 refine c_seq ?_
 refine c_plain (.q 0 (.q 1 (.q 2 (.done)))) (by kernel_rfl) ?_
 refine q_load_c (j := 0) rfl rfl rfl rfl Try.isAgg31 (by with_reducible (repeat (first | exact Z0 | apply Z1))) (by first | rfl | exact (Nat.add_zero _).symm) (by rfl) ?_
 refine q_len rfl rfl rfl rfl Try.underlying31 ?_
 refine q_move rfl rfl rfl rfl ?_
 refine r_done ?_
 refine k_then_n ?_
 refine c_block ?_
 refine c_loop2 (α := Nat × σ) (fun (x_ : Nat × σ) => match x_ with | (i, s) => i ≤ n ∧ (I i s)) (fun (x_ : Nat × σ) => match x_ with | (i, s) => [(7, .int .i64 ((i : Nat) : Int))]) (fun (x_ : Nat × σ) => match x_ with | (i, s) => [JL none, J s]) (fun (x_ : Nat × σ) => match x_ with | (i, s) => n - i) [0, 5, 6] (er := [(0, _), (5, _), (6, _)]) rfl (0, s0) ?_ (by exact ⟨rfl, trivial⟩) (by (try dsimp only); (try simp only [Nat.add_zero, Nat.zero_add]); (repeat ((with_reducible apply Z2); focus (first | (with_reducible (repeat (first | exact Z0 | apply Z1)); done) | (repeat (first | exact Z0 | apply Z1))))); exact Z3) ?_
 · exact ⟨Nat.zero_le _, h0⟩
 rintro ⟨i, s⟩ ⟨hle_i, hI⟩
 try simp only [List.cons_append, List.nil_append]
 refine c_seq ?_
 refine c_plain (.q 0 (.done)) (by kernel_rfl) ?_
 refine q_int rfl rfl rfl rfl rfl (b_lss _ _ _ _) ?_
 refine r_done ?_
 refine k_then_n ?_
 refine c_seq ?_
 refine c_cond_p rfl (fun hlt => ?_) (fun hlt => ?_)
 ·
  refine c_skip ?_
  refine k_then_n ?_
  refine c_seq ?_
  refine c_block ?_
  refine c_seq ?_
  refine c_plain (.q 0 (.q 1 (.q 2 (.q 3 (.q 4 (.done)))))) (by kernel_rfl) ?_
  refine q_move rfl rfl rfl rfl ?_
  obtain ⟨x, hx⟩ := get_lt (l := l) (i := i) (by first | omega | (simp; done) | (simp; omega))
  refine q_idxR (sz := 0) (k := i) rfl rfl rfl rfl rfl Try.underlying31 Try.sizeOf35 (hr) hx encU_len (by first | rfl | omega) (by omega) ?_
  intro ib10 io10 _ hd10
  refine q_load rfl rfl rfl rfl Try.isAgg35 (by with_reducible (repeat (first | exact Z0 | apply Z1))) (hd10 0 (.int .u64 x) rfl) ?_
  refine q_assign rfl rfl rfl rfl ?_
  refine q_assign rfl rfl rfl rfl ?_
  refine r_done ?_
  refine s_keep [0, 3, 4, 5, 6, 7] (e' := [(0, _), (3, _), (4, _), (5, _), (6, _), (7, _)]) rfl ?_
  refine k_then_n ?_
  refine c_seq ?_
  refine c_plain (.q 0 (.q 1 (.q 2 (.q 3 (.q 4 (.q 5 ((.l 6 [] (.q 7 (.q 8 (.done))))))))))) (by kernel_rfl) ?_
  refine q_move rfl rfl rfl rfl ?_
  refine q_int rfl rfl rfl rfl rfl (b_neq _ _ _ _) ?_
  refine q_move rfl rfl rfl rfl ?_
  refine s_bool_p 14 rfl (fun hxz => ?_) (fun hxz => ?_)
  ·
   refine q_move rfl rfl rfl rfl ?_
   refine q_move rfl rfl rfl rfl ?_
   refine q_move rfl rfl rfl rfl ?_
   refine l_callF rfl rfl rfl rfl rfl (hy i x s hx hxz hI) (by (repeat ((with_reducible apply Z2); focus (first | (with_reducible (repeat (first | exact Z0 | apply Z1)); done) | (repeat (first | exact Z0 | apply Z1))))); exact Z3) ?_
   rintro ⟨s2, p⟩ hr2
   try simp only [List.cons_append, List.nil_append]
   refine ag_nil ?_
   refine q_not rfl rfl rfl rfl ?_
   refine q_pick_t rfl rfl rfl rfl rfl ?_
   refine r_done ?_
   refine s_keep [0, 5, 6, 7, 15, 16, 17, 18, 19, 20] (e' := [(0, _), (5, _), (6, _), (7, _), (15, _), (16, _), (17, _), (18, _), (19, _), (20, _)]) rfl ?_
   refine k_then_n ?_
   refine c_cond rfl (fun hp => ?_) (fun hp => ?_)
   ·
    try simp only [Bool.and_eq_true, Bool.or_eq_true, Bool.not_eq_true', Bool.not_eq_false', Bool.and_eq_false_iff, Bool.or_eq_false_iff, decide_eq_true_eq, decide_eq_false_iff_not] at hp
    obtain ⟨c_, rfl⟩ : ∃ c, p = some c := by
      cases p with
      | none => simp at hp
      | some c => exact ⟨c, rfl⟩
    refine c_ret ?_
    refine k_blk_ret ?_
    refine k_then_ret ?_
    refine k_then_ret ?_
    refine k_blk_ret ?_
    refine ret0 rfl ((s2, some c_)) (by first | rfl | (first | rfl | (congr 1; done) | (congr 1 <;> first | rfl | omega | (simp; done) | (simp; omega)))) (by exact .inr ⟨c_, rfl, hr2.2 c_ rfl⟩) ?_
    (repeat ((with_reducible apply Z2); focus (first | (with_reducible (repeat (first | exact Z0 | apply Z1)); done) | (repeat (first | exact Z0 | apply Z1))))); (repeat (first | exact Z3 | exact Takes.self | refine takes_drop2 ?_))
   ·
    try simp only [Bool.and_eq_true, Bool.or_eq_true, Bool.not_eq_true', Bool.not_eq_false', Bool.and_eq_false_iff, Bool.or_eq_false_iff, decide_eq_true_eq, decide_eq_false_iff_not] at hp
    obtain rfl : p = none := by
      cases p with
      | none => rfl
      | some c => simp at hp
    refine c_skip ?_
    refine k_blk_n ?_
    refine k_then_n ?_
    refine c_plain (.q 0 (.q 1 (.done))) (by kernel_rfl) ?_
    refine q_int rfl rfl rfl rfl rfl (b_add' _ (by exact fits_i64 (by omega) (by omega))) ?_
    refine q_move rfl rfl rfl rfl ?_
    refine r_done ?_
    refine k_then_n ?_
    refine loop_next (x := (i, s)) ((i + 1, s2)) ?_ ?_ ?_ ?_
    · try dsimp only
      exact ⟨by omega, hr2.1 rfl⟩
    · show n - (i + 1) < n - i; omega
    · exact ⟨rfl, rfl, rfl, rfl, trivial⟩
    · (try simp only [List.cons_append, List.nil_append]); (repeat ((with_reducible apply Z2); focus (first | (with_reducible (repeat (first | exact Z0 | apply Z1)); done) | (repeat (first | exact Z0 | apply Z1))))); (repeat (first | exact Z3 | exact Takes.self | refine takes_drop2 ?_))
  ·
   refine q_skip rfl rfl rfl rfl ?_
   refine q_skip rfl rfl rfl rfl ?_
   refine q_skip rfl rfl rfl rfl ?_
   refine l_skip rfl rfl rfl rfl ?_
   refine q_skip rfl rfl rfl rfl ?_
   refine q_pick_f rfl rfl rfl rfl rfl ?_
   refine r_done ?_
   refine s_keep [0, 5, 6, 7, 15, 16, 17, 18, 19, 20] (e' := [(0, _), (5, _), (6, _), (7, _), (15, _), (16, _), (17, _), (18, _), (19, _), (20, _)]) rfl ?_
   refine k_then_n ?_
   refine c_cond_f rfl ?_
   refine c_skip ?_
   refine k_blk_n ?_
   refine k_then_n ?_
   refine c_plain (.q 0 (.q 1 (.done))) (by kernel_rfl) ?_
   refine q_int rfl rfl rfl rfl rfl (b_add' _ (by exact fits_i64 (by omega) (by omega))) ?_
   refine q_move rfl rfl rfl rfl ?_
   refine r_done ?_
   refine k_then_n ?_
   refine loop_next (x := (i, s)) ((i + 1, s)) ?_ ?_ ?_ ?_
   · try dsimp only
     exact ⟨by omega, hz i s (by rw [hx]; congr 1; omega) hI⟩
   · show n - (i + 1) < n - i; omega
   · exact ⟨rfl, rfl, rfl, rfl, trivial⟩
   · (try simp only [List.cons_append, List.nil_append]); (repeat ((with_reducible apply Z2); focus (first | (with_reducible (repeat (first | exact Z0 | apply Z1)); done) | (repeat (first | exact Z0 | apply Z1))))); (repeat (first | exact Z3 | exact Takes.self | refine takes_drop2 ?_))
 ·
  refine c_exit ?_
  refine k_then_exit ?_
  refine k_then_exit ?_
  refine k_blk_here ?_
  refine ret_end ?_
  refine ret0 rfl ((s, none)) (by first | rfl | (first | rfl | (congr 1; done) | (congr 1 <;> first | rfl | omega | (simp; done) | (simp; omega)))) (by exact .inl ⟨rfl, (show i = n by omega) ▸ hI⟩) ?_
  (repeat ((with_reducible apply Z2); focus (first | (with_reducible (repeat (first | exact Z0 | apply Z1)); done) | (repeat (first | exact Z0 | apply Z1))))); (repeat (first | exact Z3 | exact Takes.self | refine takes_drop2 ?_))

theorem leq_spec (b b2 : Nat) (l m : List Int) (ao ao2 : Option Addr) (n cap n2 cap2 : Nat) (hn : l.length = n) (hn2 : m.length = n2) (hlr : CV l) (hmr : CV m) : Spec Try.prog 45 [.pointer (some ⟨b, 0, none⟩), .pointer (some ⟨b2, 0, none⟩)] [cells b 0 [.slice ao n cap], own 1 encU ao cap l, cells b2 0 [.slice ao2 n2 cap2], own 1 encU ao2 cap2 m] (fun (_ : Unit) => .bool (decide (LeqL l m))) (fun _ => True) (fun _ => [cells b 0 [.slice ao n cap], own 1 encU ao cap l, cells b2 0 [.slice ao2 n2 cap2], own 1 encU ao2 cap2 m]) := by
 refine spec_mkM (n := 42) Try.func45 rfl rfl rfl ?_
 intro Γ w0
 simp only [argE, List.cons_append, List.nil_append, Nat.zero_add, Nat.reduceAdd]
 have hlr1 := hlr.len
 have hmr1 := hmr.len
 refine c_seq ?_
 refine c_plain ((.l 0 [] ((.l 1 [] (.done))))) (by kernel_rfl) ?_
 refine l_box rfl rfl rfl rfl (us := [_]) rfl ?_
 intro b3
 refine ag_nil ?_
 refine l_alloc rfl rfl rfl Try.zeroValue4 (zs := [.bool false]) rfl ?_
 intro b4
 refine ag_nil ?_
 refine r_done ?_
 refine k_then_n ?_
 refine c_seq ?_
 refine c_seq ?_
 refine c_draw rfl (.q 0 (.q 1 (.q 2 (.q 3 (.q 4 (.q 5 (.q 6 (.q 7 (.q 8 (.q 9 (.q 10 (.q 11 (.q 12 (.q 13 (.q 14 (.q 15 (.q 16 (.q 17 (.q 18 (.done)))))))))))))))))))) (by kernel_rfl) ?_
 refine q_move rfl rfl rfl rfl ?_
 refine q_eq_nil rfl rfl rfl rfl Try.underlying82 ?_
 refine s_eq 8 rfl (v' := .bool false) rfl ?_
 refine q_move rfl rfl rfl rfl ?_
 refine q_load_c (j := 0) rfl rfl rfl rfl Try.isAgg82 (by with_reducible (repeat (first | exact Z0 | apply Z1))) (by first | rfl | exact (Nat.add_zero _).symm) (by rfl) ?_
 refine q_eq_nil rfl rfl rfl rfl Try.underlying82 ?_
 refine s_eq 11 rfl (v' := .bool false) rfl ?_
 refine q_pick_f rfl rfl rfl rfl rfl ?_
 refine q_move rfl rfl rfl rfl ?_
 refine q_move rfl rfl rfl rfl ?_
 refine q_nil_p rfl rfl rfl rfl ?_
 refine q_field (k := 0) rfl rfl rfl rfl Try.underlying118 rfl Try.sizeOf31 rfl ?_
 refine q_load_c (j := 0) rfl rfl rfl rfl Try.isAgg31 (by with_reducible (repeat (first | exact Z0 | apply Z1))) (by first | rfl | exact (Nat.add_zero _).symm) (by rfl) ?_
 refine q_len rfl rfl rfl rfl Try.underlying31 ?_
 refine q_load_c (j := 0) rfl rfl rfl rfl Try.isAgg82 (by with_reducible (repeat (first | exact Z0 | apply Z1))) (by first | rfl | exact (Nat.add_zero _).symm) (by rfl) ?_
 refine q_nil_p rfl rfl rfl rfl ?_
 refine q_field (k := 0) rfl rfl rfl rfl Try.underlying118 rfl Try.sizeOf31 rfl ?_
 refine q_load_c (j := 0) rfl rfl rfl rfl Try.isAgg31 (by with_reducible (repeat (first | exact Z0 | apply Z1))) (by first | rfl | exact (Nat.add_zero _).symm) (by rfl) ?_
 refine q_len rfl rfl rfl rfl Try.underlying31 ?_
 refine q_int rfl rfl rfl rfl rfl (b_gtr _ _ _ _) ?_
 refine q_pick_f rfl rfl rfl rfl rfl ?_
 refine r_done ?_
 refine s_keep [0, 3, 4, 25] (e' := [(0, _), (3, _), (4, _), (25, _)]) rfl ?_
 refine k_then_n ?_
 refine c_cond_p rfl (fun hlen => ?_) (fun hlen => ?_)
 ·
  have hnl : ¬ LeqL l m := fun h => by have := h.1; omega
  refine c_seq ?_
  refine c_plain ((.l 0 [] (.done))) (by kernel_rfl) ?_
  refine l_store (j := 0) rfl rfl rfl rfl Try.sizeOf4 (us := [_]) rfl rfl rfl (by with_reducible (repeat (first | exact Z0 | apply Z1))) (by first | rfl | exact (Nat.add_zero _).symm) (by first | decide | (simp; done) | omega) ?_
  simp only [setL, List.set]
  refine ag_nil ?_
  refine r_done ?_
  refine k_then_n ?_
  refine c_ret ?_
  refine k_then_ret ?_
  refine rm_ret ?_
  refine rm_done (us := [_]) rfl ⟨rv_cell1 rfl Try.isAgg4 (by with_reducible (repeat (first | exact Z0 | apply Z1))) (j := 0) rfl rfl, trivial⟩ (()) (by rw [decide_eq_false hnl]; rfl) (by trivial) ?_
  (repeat ((with_reducible apply Z2); focus (first | (with_reducible (repeat (first | exact Z0 | apply Z1)); done) | (repeat (first | exact Z0 | apply Z1))))); (repeat (first | exact Z3 | exact Takes.self | refine takes_drop2 ?_))
 ·
  refine c_skip ?_
  refine k_then_n ?_
  refine c_seq ?_
  refine c_seq ?_
  refine c_plain (.q 0 (.q 1 (.q 2 (.q 3 ((.l 4 [] (.done))))))) (by kernel_rfl) ?_
  refine q_move rfl rfl rfl rfl ?_
  refine q_nil_p rfl rfl rfl rfl ?_
  refine q_field (k := 0) rfl rfl rfl rfl Try.underlying118 rfl Try.sizeOf31 rfl ?_
  refine q_load_c (j := 0) rfl rfl rfl rfl Try.isAgg31 (by with_reducible (repeat (first | exact Z0 | apply Z1))) (by first | rfl | exact (Nat.add_zero _).symm) (by rfl) ?_
  have sp_1 := over_spec ao n cap
  refine l_call rfl rfl rfl rfl rfl rfl Try.call61 (sp_1) (by (repeat ((with_reducible apply Z2); focus (first | (with_reducible (repeat (first | exact Z0 | apply Z1)); done) | (repeat (first | exact Z0 | apply Z1))))); exact Z3) ?_
  rintro bx -
  try simp only [List.cons_append, List.nil_append]
  refine ag_nil ?_
  refine r_done ?_
  refine s_keep [3, 4, 30] (e' := [(3, _), (4, _), (30, _)]) rfl ?_
  refine k_then_n ?_
  refine c_block ?_
  refine s_take (A := own 1 encU ao cap l) (by with_reducible (repeat (first | exact Z0 | apply Z1))) ?_
  refine own_fc fun hp1 hp2 hp3 => ?_
  refine s_heap (fun _ h => Bun.fold ((by (repeat ((with_reducible apply Z2); focus (first | (with_reducible (repeat (first | exact Z0 | apply Z1)); done) | (repeat (first | exact Z0 | apply Z1))))); exact Z3 : Takes _ [cells b3 0 [.pointer (some ⟨b2, 0, none⟩)], cells b2 0 [.slice ao2 n2 cap2], own 1 encU ao2 cap2 m, cells b4 0 [.bool false]] _) _ h)) ?_
  refine c_rangeF _ rfl Try.call77 (fun lp => over1_spec (σ := Unit) l ao n cap bx (own 1 encU ao cap l) hn (rds_own encU_len (fun h => (hp2 h).1) hp3) (by omega) (yv lp) (LoopJ lp _ _ _ _ _) (fun _ => Bun [cells b3 0 [.pointer (some ⟨b2, 0, none⟩)], cells b2 0 [.slice ao2 n2 cap2], own 1 encU ao2 cap2 m, cells b4 0 [.bool false]]) (fun i _ => ∀ j, j < i → l.getD j 0 ≤ m.getD j 0) (fun _ c => c = .ret ∧ ¬ LeqL l m) (fun i x s hx hxz hI => callF_yield rfl (by decide) (by decide) (fun Γ w0 => ?_)) (fun i s hx hI j hj => if h : j < i then hI j h else by obtain rfl : j = i := (by omega); rw [getD_mem hx]; exact (g_rng hmr.rng (by decide) j).1) () (fun j h => by omega)) (by (repeat ((with_reducible apply Z2); focus (first | (with_reducible (repeat (first | exact Z0 | apply Z1)); done) | (repeat (first | exact Z0 | apply Z1))))); exact Z3) ?_
  ·
   try simp only [zipE, List.cons_append, List.nil_append]
   refine s_take (A := Bun [cells b3 0 [.pointer (some ⟨b2, 0, none⟩)], cells b2 0 [.slice ao2 n2 cap2], own 1 encU ao2 cap2 m, cells b4 0 [.bool false]]) (by with_reducible (repeat (first | exact Z0 | apply Z1))) ?_
   refine s_bun ?_
   try simp only [List.cons_append, List.nil_append]
   have hil : i < l.length := (List.getElem?_eq_some_iff.1 hx).1
   obtain ⟨y, hy⟩ := get_lt (l := m) (i := i) (by omega)
   refine c_seq ?_
   refine c_plain (.q 0 (.done)) (by kernel_rfl) ?_
   refine q_assign rfl rfl rfl rfl ?_
   refine r_done ?_
   refine k_then_n ?_
   refine c_plain (.q 0 (.done)) (by kernel_rfl) ?_
   refine q_assign rfl rfl rfl rfl ?_
   refine r_done ?_
   refine k_then_n ?_
   refine k_begin (by with_reducible (repeat (first | exact Z0 | apply Z1))) ?_
   refine c_block ?_
   refine c_seq ?_
   refine c_plain (.q 0 (.q 1 (.q 2 (.q 3 (.q 4 (.q 5 (.q 6 (.q 7 (.q 8 (.done)))))))))) (by kernel_rfl) ?_
   refine q_move rfl rfl rfl rfl ?_
   refine q_load_c (j := 0) rfl rfl rfl rfl Try.isAgg82 (by with_reducible (repeat (first | exact Z0 | apply Z1))) (by first | rfl | exact (Nat.add_zero _).symm) (by rfl) ?_
   refine q_nil_p rfl rfl rfl rfl ?_
   refine q_field (k := 0) rfl rfl rfl rfl Try.underlying118 rfl Try.sizeOf31 rfl ?_
   refine q_load_c (j := 0) rfl rfl rfl rfl Try.isAgg31 (by with_reducible (repeat (first | exact Z0 | apply Z1))) (by first | rfl | exact (Nat.add_zero _).symm) (by rfl) ?_
   refine q_move rfl rfl rfl rfl ?_
   refine q_idxO (sz := 0) (k := i) (enc := encU) (xs := m) rfl rfl rfl rfl rfl Try.underlying31 Try.sizeOf35 hy (by first | rfl | omega) (by omega) (by with_reducible (repeat (first | exact Z0 | apply Z1))) ?_
   intro ib39 io39 ha39 hl39 hc39
   refine q_load_O (v := (.int .u64 y)) (j := 0) (k' := i) (enc := encU) (off := io39) rfl rfl rfl rfl Try.isAgg35 ha39 encU_len hy (by with_reducible (repeat (first | exact Z0 | apply Z1))) (by first | rfl | exact (Nat.add_zero _).symm | omega) (by rfl) ?_
   refine q_int rfl rfl rfl rfl rfl (b_gtr _ _ _ _) ?_
   refine r_done ?_
   refine s_keep [4, 41] (e' := [(4, _), (41, _)]) rfl ?_
   refine k_then_n ?_
   refine c_cond_p rfl (fun hgt => ?_) (fun hgt => ?_)
   ·
    refine c_seq ?_
    refine c_plain ((.l 0 [] (.done))) (by kernel_rfl) ?_
    refine l_store (j := 0) rfl rfl rfl rfl Try.sizeOf4 (us := [_]) rfl rfl rfl (by with_reducible (repeat (first | exact Z0 | apply Z1))) (by first | rfl | exact (Nat.add_zero _).symm) (by first | decide | (simp; done) | omega) ?_
    simp only [setL, List.set]
    refine ag_nil ?_
    refine r_done ?_
    refine k_then_n ?_
    refine c_ret ?_
    refine k_blk_ret ?_
    refine s_heap (fun _ h => Bun.fold ((by (repeat ((with_reducible apply Z2); focus (first | (with_reducible (repeat (first | exact Z0 | apply Z1)); done) | (repeat (first | exact Z0 | apply Z1))))); exact Z3 : Takes _ [cells b3 0 [.pointer (some ⟨b2, 0, none⟩)], cells b2 0 [.slice ao2 n2 cap2], own 1 encU ao2 cap2 m, cells b4 0 [.bool false]] _) _ h)) ?_
    refine rr_ret (((), some .ret)) (by rfl) (by exact ⟨fun h => (by cases h), fun c hc => (by cases hc; exact ⟨rfl, fun h => (by have := h.2 i hil; rw [getD_mem hx, getD_mem hy] at this; omega)⟩)⟩) (by with_reducible (repeat (first | exact Z0 | apply Z1))) ?_
    (try simp only [List.cons_append, List.nil_append]); (repeat ((with_reducible apply Z2); focus (first | (with_reducible (repeat (first | exact Z0 | apply Z1)); done) | (repeat (first | exact Z0 | apply Z1))))); (repeat (first | exact Z3 | exact Takes.self | refine takes_drop2 ?_))
   ·
    refine c_skip ?_
    refine k_blk_n ?_
    refine s_heap (fun _ h => Bun.fold ((by (repeat ((with_reducible apply Z2); focus (first | (with_reducible (repeat (first | exact Z0 | apply Z1)); done) | (repeat (first | exact Z0 | apply Z1))))); exact Z3 : Takes _ [cells b3 0 [.pointer (some ⟨b2, 0, none⟩)], cells b2 0 [.slice ao2 n2 cap2], own 1 encU ao2 cap2 m, cells b4 0 [.bool false]] _) _ h)) ?_
    refine rr_n (((), none)) (by rfl) (by exact ⟨fun _ j hj => (by
        by_cases h : j < i
        · exact hI j h
        · obtain rfl : j = i := (by omega)
          rw [getD_mem hx, getD_mem hy]; omega), fun c hc => (by cases hc)⟩) (by with_reducible (repeat (first | exact Z0 | apply Z1))) ?_
    (try simp only [List.cons_append, List.nil_append]); (repeat ((with_reducible apply Z2); focus (first | (with_reducible (repeat (first | exact Z0 | apply Z1)); done) | (repeat (first | exact Z0 | apply Z1))))); (repeat (first | exact Z3 | exact Takes.self | refine takes_drop2 ?_))
  rintro ⟨⟨⟩, p1⟩ (⟨h1, h2⟩ | ⟨c_, h1, h2⟩) blk_2
  try simp only [List.cons_append, List.nil_append]
  ·
   simp only at h1 h2
   subst h1
   have hle : LeqL l m := ⟨by omega, fun j hj => h2 j (by omega)⟩
   show Le _ _
   try simp only [List.cons_append, List.nil_append]
   refine s_take (A := Bun [cells b3 0 [.pointer (some ⟨b2, 0, none⟩)], cells b2 0 [.slice ao2 n2 cap2], own 1 encU ao2 cap2 m, cells b4 0 [.bool false]]) (by with_reducible (repeat (first | exact Z0 | apply Z1))) ?_
   refine s_bun ?_
   try simp only [List.cons_append, List.nil_append]
   refine k_blk_n ?_
   refine k_then_n ?_
   refine c_seq ?_
   refine c_plain ((.l 0 [] (.done))) (by kernel_rfl) ?_
   refine l_store (j := 0) rfl rfl rfl rfl Try.sizeOf4 (us := [_]) rfl rfl rfl (by with_reducible (repeat (first | exact Z0 | apply Z1))) (by first | rfl | exact (Nat.add_zero _).symm) (by first | decide | (simp; done) | omega) ?_
   simp only [setL, List.set]
   refine ag_nil ?_
   refine r_done ?_
   refine k_then_n ?_
   refine c_ret ?_
   refine rm_ret ?_
   refine rm_mark (blk := blk_2) (by with_reducible (repeat (first | exact Z0 | apply Z1))) ?_
   refine rm_done (us := [_]) rfl ⟨rv_cell1 rfl Try.isAgg4 (by with_reducible (repeat (first | exact Z0 | apply Z1))) (j := 0) rfl rfl, trivial⟩ (()) (by rw [decide_eq_true hle]; rfl) (by trivial) ?_
   (repeat ((with_reducible apply Z2); focus (first | (with_reducible (repeat (first | exact Z0 | apply Z1)); done) | (repeat (first | exact Z0 | apply Z1))))); (repeat (first | exact Z3 | exact Takes.self | refine takes_drop2 ?_))
  ·
   simp only at h1 h2
   obtain ⟨hc1, hnl⟩ := h2
   subst hc1
   subst h1
   show Le _ _
   try simp only [List.cons_append, List.nil_append]
   refine s_take (A := Bun [cells b3 0 [.pointer (some ⟨b2, 0, none⟩)], cells b2 0 [.slice ao2 n2 cap2], own 1 encU ao2 cap2 m, cells b4 0 [.bool false]]) (by with_reducible (repeat (first | exact Z0 | apply Z1))) ?_
   refine s_bun ?_
   try simp only [List.cons_append, List.nil_append]
   refine c_ret ?_
   refine k_blk_ret ?_
   refine k_then_ret ?_
   refine rm_ret ?_
   refine rm_mark (blk := blk_2) (by with_reducible (repeat (first | exact Z0 | apply Z1))) ?_
   refine rm_done (us := [_]) rfl ⟨rv_cell1 rfl Try.isAgg4 (by with_reducible (repeat (first | exact Z0 | apply Z1))) (j := 0) rfl rfl, trivial⟩ (()) (by rw [decide_eq_false hnl]; rfl) (by trivial) ?_
   (repeat ((with_reducible apply Z2); focus (first | (with_reducible (repeat (first | exact Z0 | apply Z1)); done) | (repeat (first | exact Z0 | apply Z1))))); (repeat (first | exact Z3 | exact Takes.self | refine takes_drop2 ?_))

/-- How two vectors stand. -/
def agn (l m : List Int) : Int := if LeqL l m then (if LeqL m l then 1 else 2) else (if LeqL m l then 3 else 4)


theorem list_spec (b : Nat) (l : List Int) (ao : Option Addr) (n cap : Nat) (hn : l.length = n) (hb : n ≤ 4000000000) : Spec Try.prog 39 [.pointer (some ⟨b, 0, none⟩)] [cells b 0 [.slice ao n cap], own 1 encU ao cap l] (fun (r : Option Addr × Nat) => .slice r.1 n r.2) (fun r => True) (fun r => [cells b 0 [.slice ao n cap], own 1 encU ao cap l, own 1 encU r.1 r.2 l]) := by
 refine spec_mk (n := 10) Try.func39 rfl rfl rfl ?_
 intro Γ w0
 simp only [argE, List.cons_append, List.nil_append, Nat.zero_add, Nat.reduceAdd]
 refine c_seq ?_
 refine c_plain (.q 0 (.done)) (by kernel_rfl) ?_
 refine q_assign rfl rfl rfl rfl ?_
 refine r_done ?_
 refine k_then_n ?_
 refine c_seq ?_
 refine c_seq ?_
 refine c_plain (.q 0 (.q 1 (.done))) (by kernel_rfl) ?_
 refine q_move rfl rfl rfl rfl ?_
 refine q_eq_nil rfl rfl rfl rfl Try.underlying82 ?_
 refine s_eq 4 rfl (v' := .bool false) rfl ?_
 refine r_done ?_
 refine k_then_n ?_
 refine c_cond_f rfl ?_
 refine c_skip ?_
 refine k_then_n ?_
 refine c_seq ?_
 refine c_plain (.q 0 (.q 1 (.q 2 (.q 3 ((.l 4 [] (.q 5 (.done)))))))) (by kernel_rfl) ?_
 refine q_move rfl rfl rfl rfl ?_
 refine q_nil_p rfl rfl rfl rfl ?_
 refine q_field (k := 0) rfl rfl rfl rfl Try.underlying118 rfl Try.sizeOf31 rfl ?_
 refine q_load_c (j := 0) rfl rfl rfl rfl Try.isAgg31 (by with_reducible (repeat (first | exact Z0 | apply Z1))) (by first | rfl | exact (Nat.add_zero _).symm) (by rfl) ?_
 refine s_take (A := own 1 encU ao cap l) (by with_reducible (repeat (first | exact Z0 | apply Z1))) ?_
 refine own_fc fun f_1a f_1b f_1c => ?_
 have sp_2 := clone_spec l ao n cap (own 1 encU ao cap l) (by first | rfl | assumption | omega | (simp; done) | (simp; omega)) (rds_own encU_len (fun h => (f_1b h).1) f_1c) (by omega)
 refine l_call rfl rfl rfl rfl rfl rfl Try.call55 (sp_2) (by (repeat ((with_reducible apply Z2); focus (first | (with_reducible (repeat (first | exact Z0 | apply Z1)); done) | (repeat (first | exact Z0 | apply Z1))))); exact Z3) ?_
 rintro ⟨qa, qc⟩ -
 try simp only [List.cons_append, List.nil_append]
 refine ag_nil ?_
 refine q_assign rfl rfl rfl rfl ?_
 refine r_done ?_
 refine s_keep [2] (e' := [(2, _)]) rfl ?_
 refine k_then_n ?_
 refine c_ret ?_
 refine ret1 rfl rfl ((qa, qc)) (by first | rfl | (first | rfl | (congr 1; done) | (congr 1 <;> first | rfl | omega | (simp; done) | (simp; omega)))) (by trivial) ?_
 (repeat ((with_reducible apply Z2); focus (first | (with_reducible (repeat (first | exact Z0 | apply Z1)); done) | (repeat (first | exact Z0 | apply Z1))))); (repeat (first | exact Z3 | exact Takes.self | refine takes_drop2 ?_))


end Go.Ab.Vc
