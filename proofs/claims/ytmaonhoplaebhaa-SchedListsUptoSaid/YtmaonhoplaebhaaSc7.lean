/- Package sched's laws: lists apart. -/
import Derived.Test.YtmaonhoplaebhaaSc6
import Derived.Test.YtmaonhoplaebhaaEngN
set_option linter.unusedVariables false
set_option linter.unusedSimpArgs false
set_option maxRecDepth 100000
namespace Go.Ab.Sc
open Go Go.Proofs Go.Ab
abbrev encHW : LstA Int → List Value := encH
theorem encHW_len : ∀ x, (encHW x).length = 1 := fun _ => rfl
theorem encHW_one : ∀ x, (encHW x).all Value.oneCell' = true := fun _ => rfl
def wm (i k : Nat) : Int := 16777216 * ((i : Int) % 200) + (k : Int)
def wv (i k : Nat) : Int := 16777216 * ((i : Int) % 200) + 8388608 + (k : Int)
theorem apart_spec (T : List (LstA Int)) (bo : Option Addr) (m c : Nat) (A : HProp) (hr : RdS A bo (T.flatMap encHW)) (hm : T.length = m) (hb : m ≤ 4000000) (hb2 : ∀ x ∈ T, x.2.2.length ≤ 100000000) : Spec Try.prog 14 [.slice bo m c] [A, bigS (owA 1 encW) T] (fun (_ : Unit) => .bool true) (fun _ => True) (fun _ => [A]) := by
  refine spec_mk (n := 131) Try.func14 rfl rfl rfl ?_
  intro Γ w0
  simp only [argE, List.cons_append, List.nil_append, Nat.zero_add, Nat.reduceAdd]
  refine c_seq ?_
  refine c_plain (.q 0 (.done)) (by kernel_rfl) ?_
  refine q_assign rfl rfl rfl rfl ?_
  refine r_done ?_
  refine k_then_n ?_
  refine c_seq ?_
  refine c_seq ?_
  refine c_plain (.q 0 (.done)) (by kernel_rfl) ?_
  refine q_assign rfl rfl rfl rfl ?_
  refine r_done ?_
  refine k_then_n ?_
  refine c_block ?_
  refine c_loop2 (α := Nat × List (LstA Int)) (fun (x_ : Nat × List (LstA Int)) => match x_ with | (i, U) => i ≤ m ∧ (WIA wm T U i)) (fun (x_ : Nat × List (LstA Int)) => match x_ with | (i, U) => [(3, .int .i64 ((i : Nat) : Int))]) (fun (x_ : Nat × List (LstA Int)) => match x_ with | (i, U) => [bigS (owA 1 encW) U]) (fun (x_ : Nat × List (LstA Int)) => match x_ with | (i, U) => m - i) [0] (er := [(0, _)]) rfl (0, T) ?_ (by exact ⟨rfl, trivial⟩) (by (try dsimp only); (try simp only [Nat.add_zero, Nat.zero_add]); (repeat ((with_reducible apply Takes.cons); focus (first | (with_reducible (repeat (first | exact Take.here | apply Take.there)); done) | (repeat (first | exact Take.here | apply Take.there))))); exact Takes.nil) ?_
  · exact ⟨Nat.zero_le _, wia_start _ T⟩
  rintro ⟨i, U⟩ ⟨hle_i, hW⟩
  try simp only [List.cons_append, List.nil_append]
  refine c_seq ?_
  refine c_seq ?_
  refine c_plain (.q 0 (.q 1 (.q 2 (.q 3 (.done))))) (by kernel_rfl) ?_
  refine q_move rfl rfl rfl rfl ?_
  refine q_move rfl rfl rfl rfl ?_
  refine q_len rfl rfl rfl rfl Try.underlying23 ?_
  refine q_int rfl rfl rfl rfl rfl (b_lss _ _ _ _) ?_
  refine r_done ?_
  refine k_then_n ?_
  refine c_cond_p rfl (fun hlt => ?_) (fun hlt => ?_)
  · skip
    obtain ⟨x, hx⟩ := get_lt (l := T) (i := i) (by omega)
    obtain ⟨a1, c1, x3⟩ := x
    have hxb : x3.length ≤ 100000000 := hb2 _ (List.mem_of_getElem? hx)
    obtain ⟨y, hy⟩ := get_lt (l := U) (i := i) (by have := hW.len; omega)
    obtain ⟨a2, c2, y3⟩ := y
    obtain ⟨hs1, hs2, hs3, hs4⟩ := hW.same i _ _ hx hy
    simp only at hs1 hs2 hs3 hs4
    subst hs1 hs2
    refine c_skip ?_
    refine k_then_n ?_
    refine c_seq ?_
    refine c_block ?_
    refine c_seq ?_
    refine c_plain (.q 0 (.done)) (by kernel_rfl) ?_
    refine q_assign rfl rfl rfl rfl ?_
    refine r_done ?_
    refine s_keep [0, 3, 4] (e' := [(0, _), (3, _), (4, _)]) rfl ?_
    refine k_then_n ?_
    refine c_block ?_
    refine s_big_take (f := owA 1 encW) (L := U) (by with_reducible (repeat (first | exact Take.here | apply Take.there))) hy ?_
    refine c_loop2 (α := Nat × List Int) (fun (x_ : Nat × List Int) => match x_ with | (k, l) => k ≤ x3.length ∧ (l.length = x3.length) ∧ (∀ q, q < k → l[q]? = some (wm i q))) (fun (x_ : Nat × List Int) => match x_ with | (k, l) => [(4, .int .i64 ((k : Nat) : Int))]) (fun (x_ : Nat × List Int) => match x_ with | (k, l) => [own 1 encW a2 c2 l]) (fun (x_ : Nat × List Int) => match x_ with | (k, l) => x3.length - k) [0, 3] (er := [(0, _), (3, _)]) rfl (0, y3) ?_ (by exact ⟨rfl, trivial⟩) (by exact Takes.cons Take.here Takes.nil) ?_
    · exact ⟨Nat.zero_le _, hs3, fun q hq => by omega⟩
    rintro ⟨k, l⟩ ⟨hle_k, hll, hlq⟩
    try simp only [List.cons_append, List.nil_append]
    refine c_seq ?_
    refine c_seq ?_
    refine c_plain (.q 0 (.q 1 (.q 2 (.q 3 (.q 4 (.q 5 (.q 6 (.done)))))))) (by kernel_rfl) ?_
    refine q_move rfl rfl rfl rfl ?_
    refine q_move rfl rfl rfl rfl ?_
    refine q_move rfl rfl rfl rfl ?_
    refine q_idxR (sz := 0) (k := i) rfl rfl rfl rfl rfl Try.underlying23 Try.sizeOf24 (hr) hx encHW_len (by first | rfl | omega) (by omega) ?_
    intro ib22 io22 _ hd22
    refine q_load rfl rfl rfl rfl Try.isAgg24 (by with_reducible (repeat (first | exact Take.here | apply Take.there))) (hd22 0 (.slice a2 x3.length c2) rfl) ?_
    refine q_len rfl rfl rfl rfl Try.underlying24 ?_
    refine q_int rfl rfl rfl rfl rfl (b_lss _ _ _ _) ?_
    refine r_done ?_
    refine s_keep [0, 3, 4, 25] (e' := [(0, _), (3, _), (4, _), (25, _)]) rfl ?_
    refine k_then_n ?_
    refine c_cond_p rfl (fun hlk => ?_) (fun hlk => ?_)
    · skip
      refine c_skip ?_
      refine k_then_n ?_
      refine c_seq ?_
      refine c_block ?_
      refine c_plain (.q 0 (.q 1 (.q 2 (.q 3 (.q 4 (.q 5 (.q 6 (.q 7 (.q 8 (.q 9 (.q 10 (.q 11 ((.l 12 [] (.done))))))))))))))) (by kernel_rfl) ?_
      refine q_move rfl rfl rfl rfl ?_
      refine q_move rfl rfl rfl rfl ?_
      refine q_idxR (sz := 0) (k := i) rfl rfl rfl rfl rfl Try.underlying23 Try.sizeOf24 (hr) hx encHW_len (by first | rfl | omega) (by omega) ?_
      intro ib30 io30 _ hd30
      refine q_load rfl rfl rfl rfl Try.isAgg24 (by with_reducible (repeat (first | exact Take.here | apply Take.there))) (hd30 0 (.slice a2 x3.length c2) rfl) ?_
      refine q_move rfl rfl rfl rfl ?_
      refine q_move rfl rfl rfl rfl ?_
      refine q_int rfl rfl rfl rfl rfl (b_rem _ (by omega) (by omega)) ?_
      refine q_int rfl rfl rfl rfl rfl (b_mul' _ (by (first | exact fits_i64 (by omega) (by omega) | exact fits_u64 (by omega) (by omega) | exact fits_u32 (by omega) (by omega) | exact fits_u8 (by omega) (by omega)))) ?_
      refine q_move rfl rfl rfl rfl ?_
      refine q_int rfl rfl rfl rfl rfl (b_add' _ (by (first | exact fits_i64 (by omega) (by omega) | exact fits_u64 (by omega) (by omega) | exact fits_u32 (by omega) (by omega) | exact fits_u8 (by omega) (by omega)))) ?_
      refine q_conv' rfl rfl rfl rfl Try.underlying25 Try.underlying3 (by (first | exact fits_i64 (by omega) (by omega) | exact fits_u64 (by omega) (by omega) | exact fits_u32 (by omega) (by omega) | exact fits_u8 (by omega) (by omega))) ?_
      obtain ⟨z, hz⟩ := get_lt (l := l) (i := k) (by first | omega | (simp; done) | (simp; omega))
      refine q_idxO (sz := 0) (k := k) (enc := encW) (xs := l) rfl rfl rfl rfl rfl Try.underlying24 Try.sizeOf25 hz (by first | rfl | omega) (by omega) (by with_reducible (repeat (first | exact Take.here | apply Take.there))) ?_
      intro ib39 io39 ha39 hl39 hc39
      refine l_store_O (j := 0) (k := k) (q := ((16777216 * (((i : Nat) : Int) % 200)) + ((k : Nat) : Int))) (enc := encW) (off := io39) rfl rfl rfl rfl Try.sizeOf25 (us := [_]) rfl rfl rfl ha39 encW_len hz (by with_reducible (repeat (first | exact Take.here | apply Take.there))) (by first | rfl | exact (Nat.add_zero _).symm | omega) (by first | decide | exact Nat.le_of_ble_eq_true rfl) (by rfl) ?_
      refine ag_nil ?_
      refine r_done ?_
      refine s_keep [0, 3, 4] (e' := [(0, _), (3, _), (4, _)]) rfl ?_
      refine k_blk_n ?_
      refine k_then_n ?_
      refine c_plain (.q 0 (.q 1 (.q 2 (.done)))) (by kernel_rfl) ?_
      refine q_move rfl rfl rfl rfl ?_
      refine q_int rfl rfl rfl rfl rfl (b_add' _ (by (first | exact fits_i64 (by omega) (by omega) | exact fits_u64 (by omega) (by omega) | exact fits_u32 (by omega) (by omega) | exact fits_u8 (by omega) (by omega)))) ?_
      refine q_assign rfl rfl rfl rfl ?_
      refine r_done ?_
      refine k_then_n ?_
      refine loop_next (x := (k, l)) ((k + 1, l.set k (wm i k))) ?_ ?_ ?_ ?_
      · try dsimp only
        exact ⟨by omega, by rw [List.length_set]; exact hll, fun q hq => by
            by_cases hqk : q = k
            · subst hqk; rw [List.getElem?_set_self (by omega)]
            · rw [List.getElem?_set_ne (Ne.symm hqk)]; exact hlq q (by omega)⟩
      · show x3.length - (k + 1) < x3.length - k; omega
      · exact ⟨rfl, rfl, rfl, trivial⟩
      · (try simp only [List.cons_append, List.nil_append]); (repeat ((with_reducible apply Takes.cons); focus (first | (with_reducible (repeat (first | exact Take.here | apply Take.there)); done) | (repeat (first | exact Take.here | apply Take.there))))); (repeat (first | exact Takes.nil | exact Takes.self | refine takes_drop2 ?_))
    · skip
      refine c_exit ?_
      refine k_then_exit ?_
      refine k_then_exit ?_
      refine k_blk_here ?_
      refine k_blk_n ?_
      refine k_then_n ?_
      refine c_plain (.q 0 (.q 1 (.q 2 (.done)))) (by kernel_rfl) ?_
      refine q_move rfl rfl rfl rfl ?_
      refine q_int rfl rfl rfl rfl rfl (b_add' _ (by (first | exact fits_i64 (by omega) (by omega) | exact fits_u64 (by omega) (by omega) | exact fits_u32 (by omega) (by omega) | exact fits_u8 (by omega) (by omega)))) ?_
      refine q_assign rfl rfl rfl rfl ?_
      refine r_done ?_
      refine s_keep [0, 3] (e' := [(0, _), (3, _)]) rfl ?_
      refine k_then_n ?_
      obtain rfl : k = x3.length := by omega
      refine s_big_put (f := owA 1 encW) (L := U) (i := i) (y := (a2, c2, l)) (by (repeat ((with_reducible apply Takes.cons); focus (first | (with_reducible (repeat (first | exact Take.here | apply Take.there)); done) | (repeat (first | exact Take.here | apply Take.there))))); exact Takes.nil) (List.getElem?_eq_some_iff.1 hy).1 ?_
      refine loop_next (x := (i, U)) ((i + 1, U.set i (a2, c2, l))) ?_ ?_ ?_ ?_
      · try dsimp only
        exact ⟨by omega, wia_next hW hx hy l (mks_of hll fun q hq => hlq q (by omega))⟩
      · show m - (i + 1) < m - i; omega
      · exact ⟨rfl, rfl, trivial⟩
      · (try simp only [List.cons_append, List.nil_append]); (repeat ((with_reducible apply Takes.cons); focus (first | (with_reducible (repeat (first | exact Take.here | apply Take.there)); done) | (repeat (first | exact Take.here | apply Take.there))))); (repeat (first | exact Takes.nil | exact Takes.self | refine takes_drop2 ?_))
  · skip
    refine c_exit ?_
    refine k_then_exit ?_
    refine k_then_exit ?_
    refine k_blk_here ?_
    refine k_then_n ?_
    refine c_seq ?_
    refine c_plain (.q 0 (.done)) (by kernel_rfl) ?_
    refine q_assign rfl rfl rfl rfl ?_
    refine r_done ?_
    refine s_keep [0, 5] (e' := [(0, _), (5, _)]) rfl ?_
    refine k_then_n ?_
    refine c_seq ?_
    refine c_seq ?_
    refine c_plain (.q 0 (.done)) (by kernel_rfl) ?_
    refine q_assign rfl rfl rfl rfl ?_
    refine r_done ?_
    refine k_then_n ?_
    refine c_block ?_
    refine s_heap (fun _ h => own_nil (sz := 1) (enc := encHW) h) ?_
    obtain rfl : m = i := by omega
    refine s_big_nil (f := f2A 1 encW) ?_
    refine c_loop2 (α := Nat × List (PLA Int) × Option Addr × Nat) (fun (x_ : Nat × List (PLA Int) × Option Addr × Nat) => match x_ with | (j, M, am, cm) => j ≤ m ∧ (MOA wm wv 40 T M j)) (fun (x_ : Nat × List (PLA Int) × Option Addr × Nat) => match x_ with | (j, M, am, cm) => [(5, .slice am ((M.map (·.2)).length) cm), (6, .int .i64 ((j : Nat) : Int))]) (fun (x_ : Nat × List (PLA Int) × Option Addr × Nat) => match x_ with | (j, M, am, cm) => [bigS (f2A 1 encW) M, bigS (owA 1 encW) (U.drop j), own 1 encHW am cm (M.map (·.2))]) (fun (x_ : Nat × List (PLA Int) × Option Addr × Nat) => match x_ with | (j, M, am, cm) => m - j) [0] (er := [(0, _)]) rfl (0, [], none, 0) ?_ (by exact ⟨rfl, rfl, trivial⟩) (by dsimp only; rw [List.drop_zero, List.map_nil]; (repeat ((with_reducible apply Takes.cons); focus (first | (with_reducible (repeat (first | exact Take.here | apply Take.there)); done) | (repeat (first | exact Take.here | apply Take.there))))); exact Takes.nil) ?_
    · exact ⟨Nat.zero_le _, ⟨rfl, fun j x p _ h => by simp at h⟩⟩
    rintro ⟨j, M, am, cm⟩ ⟨hle_j, hM⟩
    try simp only [List.cons_append, List.nil_append]
    have hml := hM.len
    have hmm : (M.map (·.2)).length = M.length := List.length_map _
    refine c_seq ?_
    refine c_seq ?_
    refine c_plain (.q 0 (.q 1 (.q 2 (.q 3 (.done))))) (by kernel_rfl) ?_
    refine q_move rfl rfl rfl rfl ?_
    refine q_move rfl rfl rfl rfl ?_
    refine q_len rfl rfl rfl rfl Try.underlying23 ?_
    refine q_int rfl rfl rfl rfl rfl (b_lss _ _ _ _) ?_
    refine r_done ?_
    refine k_then_n ?_
    refine c_cond_p rfl (fun hlj => ?_) (fun hlj => ?_)
    · skip
      obtain ⟨x, hx⟩ := get_lt (l := T) (i := j) (by omega)
      obtain ⟨a1, c1, x3⟩ := x
      have hxb : x3.length ≤ 100000000 := hb2 _ (List.mem_of_getElem? hx)
      obtain ⟨y, hy⟩ := get_lt (l := U) (i := j) (by have := hW.len; omega)
      obtain ⟨a2, c2, y3⟩ := y
      obtain ⟨hs1, hs2, hs3, hs4⟩ := hW.same j _ _ hx hy
      simp only at hs1 hs2 hs3 hs4
      subst hs1 hs2
      obtain rfl := hs4 (by omega)
      refine c_skip ?_
      refine k_then_n ?_
      refine c_seq ?_
      refine c_block ?_
      refine c_seq ?_
      refine c_plain (.q 0 (.q 1 (.q 2 (.q 3 (.q 4 (.done)))))) (by kernel_rfl) ?_
      refine q_move rfl rfl rfl rfl ?_
      refine q_move rfl rfl rfl rfl ?_
      refine q_idxR (sz := 0) (k := j) rfl rfl rfl rfl rfl Try.underlying23 Try.sizeOf24 (hr) hx encHW_len (by first | rfl | omega) (by omega) ?_
      intro ib48 io48 _ hd48
      refine q_load rfl rfl rfl rfl Try.isAgg24 (by with_reducible (repeat (first | exact Take.here | apply Take.there))) (hd48 0 (.slice a2 x3.length c2) rfl) ?_
      refine q_assign rfl rfl rfl rfl ?_
      refine r_done ?_
      refine s_keep [0, 5, 6, 7] (e' := [(0, _), (5, _), (6, _), (7, _)]) rfl ?_
      refine k_then_n ?_
      refine c_seq ?_
      refine c_seq ?_
      refine c_plain (.q 0 (.done)) (by kernel_rfl) ?_
      refine q_assign rfl rfl rfl rfl ?_
      refine r_done ?_
      refine k_then_n ?_
      refine c_block ?_
      refine s_big_take (f := owA 1 encW) (L := U.drop j) (i := 0) (x := (a2, c2, mks (wm j) x3.length)) (by with_reducible (repeat (first | exact Take.here | apply Take.there))) (by rw [List.getElem?_drop]; exact hy) ?_
      refine s_heap (fun _ h => app2_start h) ?_
      refine c_loop2 (α := Nat × Option Addr × Nat) (fun (x_ : Nat × Option Addr × Nat) => match x_ with | (k, an, cn) => k ≤ 40 ∧ True) (fun (x_ : Nat × Option Addr × Nat) => match x_ with | (k, an, cn) => [(7, .slice an (x3.length + k) cn), (8, .int .i64 ((k : Nat) : Int))]) (fun (x_ : Nat × Option Addr × Nat) => match x_ with | (k, an, cn) => [app2 1 encW a2 c2 (mks (wm j) x3.length) an cn (mks (wm j) x3.length ++ mks (wv j) k)]) (fun (x_ : Nat × Option Addr × Nat) => match x_ with | (k, an, cn) => 40 - k) [0, 5, 6] (er := [(0, _), (5, _), (6, _)]) rfl (0, a2, c2) ?_ (by exact ⟨rfl, rfl, trivial⟩) (by dsimp only; rw [show mks (wv j) 0 = [] from rfl, List.append_nil]; exact Takes.cons Take.here Takes.nil) ?_
      · exact ⟨Nat.zero_le _, trivial⟩
      rintro ⟨k, an, cn⟩ ⟨hle_k, hc_⟩
      try simp only [List.cons_append, List.nil_append]
      refine c_seq ?_
      refine c_seq ?_
      refine c_plain (.q 0 (.q 1 (.done))) (by kernel_rfl) ?_
      refine q_move rfl rfl rfl rfl ?_
      refine q_int rfl rfl rfl rfl rfl (b_lss _ _ _ _) ?_
      refine r_done ?_
      refine k_then_n ?_
      refine c_cond_p rfl (fun hlk => ?_) (fun hlk => ?_)
      · skip
        refine c_skip ?_
        refine k_then_n ?_
        refine c_seq ?_
        refine c_block ?_
        refine c_plain (.q 0 (.q 1 (.q 2 (.q 3 (.q 4 (.q 5 (.q 6 (.q 7 ((.l 8 [] ((.l 9 [] (.q 10 (.done)))))))))))))) (by kernel_rfl) ?_
        refine q_move rfl rfl rfl rfl ?_
        refine q_move rfl rfl rfl rfl ?_
        refine q_int rfl rfl rfl rfl rfl (b_rem _ (by omega) (by omega)) ?_
        refine q_int rfl rfl rfl rfl rfl (b_mul' _ (by (first | exact fits_i64 (by omega) (by omega) | exact fits_u64 (by omega) (by omega) | exact fits_u32 (by omega) (by omega) | exact fits_u8 (by omega) (by omega)))) ?_
        refine q_int rfl rfl rfl rfl rfl (b_add' _ (by (first | exact fits_i64 (by omega) (by omega) | exact fits_u64 (by omega) (by omega) | exact fits_u32 (by omega) (by omega) | exact fits_u8 (by omega) (by omega)))) ?_
        refine q_move rfl rfl rfl rfl ?_
        refine q_int rfl rfl rfl rfl rfl (b_add' _ (by (first | exact fits_i64 (by omega) (by omega) | exact fits_u64 (by omega) (by omega) | exact fits_u32 (by omega) (by omega) | exact fits_u8 (by omega) (by omega)))) ?_
        refine q_conv' rfl rfl rfl rfl Try.underlying25 Try.underlying3 (by (first | exact fits_i64 (by omega) (by omega) | exact fits_u64 (by omega) (by omega) | exact fits_u32 (by omega) (by omega) | exact fits_u8 (by omega) (by omega))) ?_
        refine l_buildSlice rfl rfl rfl rfl (run_build1 (us := [_]) Try.underlying24 Try.sizeOf25 rfl Try.zeroValue25 rfl rfl rfl) ?_
        intro b62
        refine ag_nil ?_
        refine l_appendA (sz := 1) rfl rfl rfl rfl rfl Try.underlying24 Try.typeInfo25 rfl rfl rfl (by decide) (by with_reducible (repeat (first | exact Take.here | apply Take.there))) (by with_reducible (repeat (first | exact Take.here | apply Take.there))) (by rw [List.length_append, mks_len, mks_len]) (ys := [wv j k]) (rds_some rdn_cells) (by rfl) (by rfl) encW_len encW_one (by omega) (by show _ * 4 ≤ _; omega) (mks_take _ _ _) ?_
        intro an2 cn2
        refine ag_nil ?_
        refine q_assign rfl rfl rfl rfl ?_
        refine r_done ?_
        refine s_keep [0, 5, 6, 7, 8] (e' := [(0, _), (5, _), (6, _), (7, _), (8, _)]) rfl ?_
        refine k_blk_n ?_
        refine k_then_n ?_
        refine c_plain (.q 0 (.q 1 (.q 2 (.done)))) (by kernel_rfl) ?_
        refine q_move rfl rfl rfl rfl ?_
        refine q_int rfl rfl rfl rfl rfl (b_add' _ (by (first | exact fits_i64 (by omega) (by omega) | exact fits_u64 (by omega) (by omega) | exact fits_u32 (by omega) (by omega) | exact fits_u8 (by omega) (by omega)))) ?_
        refine q_assign rfl rfl rfl rfl ?_
        refine r_done ?_
        refine k_then_n ?_
        rw [List.append_assoc, mks_next]
        refine s_eq 7 rfl (v' := .slice an2 (x3.length + (k + 1)) cn2) (by first | rfl | (congr 1; done) | (congr 1 <;> first | rfl | omega | (simp; done) | (simp; omega))) ?_
        refine loop_next (x := (k, an, cn)) ((k + 1, an2, cn2)) ?_ ?_ ?_ ?_
        · try dsimp only
          exact ⟨by omega, trivial⟩
        · show 40 - (k + 1) < 40 - k; omega
        · exact ⟨rfl, rfl, rfl, rfl, rfl, trivial⟩
        · (try simp only [List.cons_append, List.nil_append]); (repeat ((with_reducible apply Takes.cons); focus (first | (with_reducible (repeat (first | exact Take.here | apply Take.there)); done) | (repeat (first | exact Take.here | apply Take.there))))); (repeat (first | exact Takes.nil | exact Takes.self | refine takes_drop2 ?_))
      · skip
        refine c_exit ?_
        refine k_then_exit ?_
        refine k_then_exit ?_
        refine k_blk_here ?_
        refine k_then_n ?_
        refine c_plain (.q 0 (.q 1 ((.l 2 [] ((.l 3 [] (.q 4 (.done)))))))) (by kernel_rfl) ?_
        refine q_move rfl rfl rfl rfl ?_
        refine q_move rfl rfl rfl rfl ?_
        refine l_buildSlice rfl rfl rfl rfl (run_build1 (us := [_]) Try.underlying23 Try.sizeOf24 rfl Try.zeroValue24 rfl rfl rfl) ?_
        intro b66
        refine ag_nil ?_
        refine l_append (sz := 1) (enc := encHW) (xs := (M.map (·.2))) rfl rfl rfl rfl rfl Try.underlying23 Try.typeInfo24 rfl rfl rfl (by decide) (by with_reducible (repeat (first | exact Take.here | apply Take.there))) (by with_reducible (repeat (first | exact Take.here | apply Take.there))) (by first | rfl | omega | (simp; done) | (simp; omega)) (ys := [(an, cn, mks (wm j) x3.length ++ mks (wv j) 40)]) (rds_some rdn_cells) (by simp [encHW, encH, mks_len]; omega) (by first | rfl | omega) (encHW_len) (encHW_one) (by omega) (by show _ * 24 ≤ _; omega) ?_
        intro ao67 cp67
        refine ag_nil ?_
        refine q_assign rfl rfl rfl rfl ?_
        refine r_done ?_
        refine s_keep [0, 5, 6] (e' := [(0, _), (5, _), (6, _)]) rfl ?_
        refine k_blk_n ?_
        refine k_then_n ?_
        refine c_plain (.q 0 (.q 1 (.q 2 (.done)))) (by kernel_rfl) ?_
        refine q_move rfl rfl rfl rfl ?_
        refine q_int rfl rfl rfl rfl rfl (b_add' _ (by (first | exact fits_i64 (by omega) (by omega) | exact fits_u64 (by omega) (by omega) | exact fits_u32 (by omega) (by omega) | exact fits_u8 (by omega) (by omega)))) ?_
        refine q_assign rfl rfl rfl rfl ?_
        refine r_done ?_
        refine k_then_n ?_
        obtain rfl : k = 40 := by omega
        refine s_big_push (f := f2A 1 encW) (L := M) (x := ((a2, c2, mks (wm j) x3.length), (an, cn, mks (wm j) x3.length ++ mks (wv j) 40))) (by (repeat ((with_reducible apply Takes.cons); focus (first | (with_reducible (repeat (first | exact Take.here | apply Take.there)); done) | (repeat (first | exact Take.here | apply Take.there))))); exact Takes.nil) ?_
        rw [List.eraseIdx_zero, List.tail_drop, show M.map (·.2) ++ [(an, cn, mks (wm j) x3.length ++ mks (wv j) 40)] = (M ++ [((a2, c2, mks (wm j) x3.length), (an, cn, mks (wm j) x3.length ++ mks (wv j) 40))]).map (·.2) from by simp]
        refine s_eq 5 rfl (v' := .slice ao67 ((M ++ [((a2, c2, mks (wm j) x3.length), (an, cn, mks (wm j) x3.length ++ mks (wv j) 40))]).map (·.2)).length cp67) (by simp) ?_
        refine s_eq 5 rfl (v' := .slice ao67 (((M ++ [((a2, c2, mks (wm j) x3.length), (an, cn, mks (wm j) x3.length ++ mks (wv j) 40))]).map (·.2)).length) cp67) (by first | rfl | (congr 1; done) | (congr 1 <;> first | rfl | omega | (simp; done) | (simp; omega))) ?_
        refine loop_next (x := (j, M, am, cm)) ((j + 1, M ++ [((a2, c2, mks (wm j) x3.length), (an, cn, mks (wm j) x3.length ++ mks (wv j) 40))], ao67, cp67)) ?_ ?_ ?_ ?_
        · try dsimp only
          exact ⟨by omega, moa_next hM hx rfl rfl⟩
        · show m - (j + 1) < m - j; omega
        · exact ⟨rfl, rfl, rfl, trivial⟩
        · (try simp only [List.cons_append, List.nil_append]); (repeat ((with_reducible apply Takes.cons); focus (first | (with_reducible (repeat (first | exact Take.here | apply Take.there)); done) | (repeat (first | exact Take.here | apply Take.there))))); (repeat (first | exact Takes.nil | exact Takes.self | refine takes_drop2 ?_))
    · skip
      refine c_exit ?_
      refine k_then_exit ?_
      refine k_then_exit ?_
      refine k_blk_here ?_
      refine k_then_n ?_
      refine c_seq ?_
      refine c_seq ?_
      refine c_plain (.q 0 (.done)) (by kernel_rfl) ?_
      refine q_assign rfl rfl rfl rfl ?_
      refine r_done ?_
      refine s_keep [0, 5, 9] (e' := [(0, _), (5, _), (9, _)]) rfl ?_
      refine k_then_n ?_
      refine c_block ?_
      obtain rfl : m = j := by omega
      refine c_loop2 (α := Nat) (fun (p : Nat) => p ≤ m) (fun (p : Nat) => [(9, .int .i64 ((p : Nat) : Int))]) (fun (p : Nat) => []) (fun (p : Nat) => m - p) [0, 5] (er := [(0, _), (5, _)]) rfl (0) ?_ (by exact ⟨rfl, trivial⟩) (by (try dsimp only); (try simp only [Nat.add_zero, Nat.zero_add]); (repeat ((with_reducible apply Takes.cons); focus (first | (with_reducible (repeat (first | exact Take.here | apply Take.there)); done) | (repeat (first | exact Take.here | apply Take.there))))); exact Takes.nil) ?_
      · exact Nat.zero_le _
      rintro p hle_p
      try simp only [List.cons_append, List.nil_append]
      have hml := hM.len
      have hmm : (M.map (·.2)).length = M.length := List.length_map _
      refine c_seq ?_
      refine c_seq ?_
      refine c_plain (.q 0 (.q 1 (.q 2 (.q 3 (.done))))) (by kernel_rfl) ?_
      refine q_move rfl rfl rfl rfl ?_
      refine q_move rfl rfl rfl rfl ?_
      refine q_len rfl rfl rfl rfl Try.underlying23 ?_
      refine q_int rfl rfl rfl rfl rfl (b_lss _ _ _ _) ?_
      refine r_done ?_
      refine k_then_n ?_
      refine c_cond_p rfl (fun hlp => ?_) (fun hlp => ?_)
      · skip
        rw [List.length_map] at hlp
        obtain ⟨x, hx⟩ := get_lt (l := T) (i := p) (by omega)
        obtain ⟨y, hy⟩ := get_lt (l := M) (i := p) (by omega)
        obtain ⟨a2, c2, x3⟩ := x
        obtain ⟨⟨b1, b2, b3⟩, ⟨an, cn, l2⟩⟩ := y
        obtain ⟨hs1, hs2⟩ := hM.at_ p _ _ hx hy
        simp only [Prod.mk.injEq] at hs1 hs2
        obtain ⟨rfl, rfl, rfl⟩ := hs1
        subst hs2
        have hxb : x3.length ≤ 100000000 := hb2 _ (List.mem_of_getElem? hx)
        have hyM := List.mem_of_getElem? hy
        have hyp : (M.map (·.2))[p]? = some (an, cn, mks (wm p) x3.length ++ mks (wv p) 40) := by rw [List.getElem?_map, hy]; rfl
        have hll : (mks (wm p) x3.length ++ mks (wv p) 40).length = x3.length + 40 := by rw [List.length_append, mks_len, mks_len]
        refine s_f2A (M := M) (by with_reducible (repeat (first | exact Take.here | apply Take.there))) hy (mks_take _ _ _) fun hfx => ?_
        refine c_skip ?_
        refine k_then_n ?_
        refine c_seq ?_
        refine c_block ?_
        refine c_seq ?_
        refine c_plain (.q 0 (.q 1 (.q 2 (.q 3 (.q 4 (.q 5 (.done))))))) (by kernel_rfl) ?_
        refine q_move rfl rfl rfl rfl ?_
        refine q_move rfl rfl rfl rfl ?_
        refine q_idxR (sz := 0) (k := p) rfl rfl rfl rfl rfl Try.underlying23 Try.sizeOf24 (hr) hx encHW_len (by first | rfl | omega) (by omega) ?_
        intro ib76 io76 _ hd76
        refine q_load rfl rfl rfl rfl Try.isAgg24 (by with_reducible (repeat (first | exact Take.here | apply Take.there))) (hd76 0 (.slice b1 x3.length b2) rfl) ?_
        refine q_len rfl rfl rfl rfl Try.underlying24 ?_
        refine q_assign rfl rfl rfl rfl ?_
        refine r_done ?_
        refine s_keep [0, 5, 9, 10] (e' := [(0, _), (5, _), (9, _), (10, _)]) rfl ?_
        refine k_then_n ?_
        refine c_seq ?_
        refine c_plain (.q 0 (.done)) (by kernel_rfl) ?_
        refine q_assign rfl rfl rfl rfl ?_
        refine r_done ?_
        refine k_then_n ?_
        refine c_block ?_
        refine c_loop2 (α := Nat) (fun (k : Nat) => k ≤ x3.length + 40) (fun (k : Nat) => [(11, .int .i64 ((k : Nat) : Int))]) (fun (k : Nat) => []) (fun (k : Nat) => x3.length + 40 - k) [0, 5, 9, 10] (er := [(0, _), (5, _), (9, _), (10, _)]) rfl (0) ?_ (by exact ⟨rfl, trivial⟩) (by (try dsimp only); (try simp only [Nat.add_zero, Nat.zero_add]); (repeat ((with_reducible apply Takes.cons); focus (first | (with_reducible (repeat (first | exact Take.here | apply Take.there)); done) | (repeat (first | exact Take.here | apply Take.there))))); exact Takes.nil) ?_
        · exact Nat.zero_le _
        rintro k hle_k
        try simp only [List.cons_append, List.nil_append]
        refine c_seq ?_
        refine c_seq ?_
        refine c_plain (.q 0 (.q 1 (.q 2 (.q 3 (.q 4 (.q 5 (.q 6 (.done)))))))) (by kernel_rfl) ?_
        refine q_move rfl rfl rfl rfl ?_
        refine q_move rfl rfl rfl rfl ?_
        refine q_move rfl rfl rfl rfl ?_
        refine q_idxO (sz := 0) (k := p) (enc := encHW) (xs := (M.map (·.2))) rfl rfl rfl rfl rfl Try.underlying23 Try.sizeOf24 hyp (by first | rfl | omega) (by omega) (by with_reducible (repeat (first | exact Take.here | apply Take.there))) ?_
        intro ib82 io82 ha82 hl82 hc82
        refine q_load_O (v := (.slice an ((mks (wm p) x3.length ++ mks (wv p) 40).length) cn)) (j := 0) (k' := p) (enc := encHW) (off := io82) rfl rfl rfl rfl Try.isAgg24 ha82 encHW_len hyp (by with_reducible (repeat (first | exact Take.here | apply Take.there))) (by first | rfl | exact (Nat.add_zero _).symm | omega) (by rfl) ?_
        refine q_len rfl rfl rfl rfl Try.underlying24 ?_
        refine q_int rfl rfl rfl rfl rfl (b_lss _ _ _ _) ?_
        refine r_done ?_
        refine s_keep [0, 5, 9, 10, 11, 85] (e' := [(0, _), (5, _), (9, _), (10, _), (11, _), (85, _)]) rfl ?_
        refine k_then_n ?_
        refine c_cond_p rfl (fun hlk => ?_) (fun hlk => ?_)
        · skip
          have hlk : k < x3.length + 40 := by
            have h1 := hlk
            omega
          refine c_skip ?_
          refine k_then_n ?_
          refine c_seq ?_
          refine c_block ?_
          refine c_seq ?_
          refine c_plain (.q 0 (.q 1 (.q 2 (.q 3 (.q 4 (.q 5 (.q 6 (.done)))))))) (by kernel_rfl) ?_
          refine q_move rfl rfl rfl rfl ?_
          refine q_int rfl rfl rfl rfl rfl (b_rem _ (by omega) (by omega)) ?_
          refine q_int rfl rfl rfl rfl rfl (b_mul' _ (by (first | exact fits_i64 (by omega) (by omega) | exact fits_u64 (by omega) (by omega) | exact fits_u32 (by omega) (by omega) | exact fits_u8 (by omega) (by omega)))) ?_
          refine q_move rfl rfl rfl rfl ?_
          refine q_int rfl rfl rfl rfl rfl (b_add' _ (by (first | exact fits_i64 (by omega) (by omega) | exact fits_u64 (by omega) (by omega) | exact fits_u32 (by omega) (by omega) | exact fits_u8 (by omega) (by omega)))) ?_
          refine q_conv' rfl rfl rfl rfl Try.underlying25 Try.underlying3 (by (first | exact fits_i64 (by omega) (by omega) | exact fits_u64 (by omega) (by omega) | exact fits_u32 (by omega) (by omega) | exact fits_u8 (by omega) (by omega))) ?_
          refine q_assign rfl rfl rfl rfl ?_
          refine r_done ?_
          refine s_keep [0, 5, 9, 10, 11, 12] (e' := [(0, _), (5, _), (9, _), (10, _), (11, _), (12, _)]) rfl ?_
          refine k_then_n ?_
          refine c_seq ?_
          refine c_seq ?_
          refine c_plain (.q 0 (.q 1 (.q 2 (.done)))) (by kernel_rfl) ?_
          refine q_move rfl rfl rfl rfl ?_
          refine q_move rfl rfl rfl rfl ?_
          refine q_int rfl rfl rfl rfl rfl (b_geq _ _ _ _) ?_
          refine r_done ?_
          refine k_then_n ?_
          refine c_cond_p rfl (fun hkm => ?_) (fun hkm => ?_)
          · skip
            refine c_plain (.q 0 (.q 1 (.q 2 (.q 3 (.q 4 (.q 5 (.q 6 (.q 7 (.q 8 (.q 9 (.done))))))))))) (by kernel_rfl) ?_
            refine q_move rfl rfl rfl rfl ?_
            refine q_int rfl rfl rfl rfl rfl (b_rem _ (by omega) (by omega)) ?_
            refine q_int rfl rfl rfl rfl rfl (b_mul' _ (by (first | exact fits_i64 (by omega) (by omega) | exact fits_u64 (by omega) (by omega) | exact fits_u32 (by omega) (by omega) | exact fits_u8 (by omega) (by omega)))) ?_
            refine q_int rfl rfl rfl rfl rfl (b_add' _ (by (first | exact fits_i64 (by omega) (by omega) | exact fits_u64 (by omega) (by omega) | exact fits_u32 (by omega) (by omega) | exact fits_u8 (by omega) (by omega)))) ?_
            refine q_move rfl rfl rfl rfl ?_
            refine q_int rfl rfl rfl rfl rfl (b_add' _ (by (first | exact fits_i64 (by omega) (by omega) | exact fits_u64 (by omega) (by omega) | exact fits_u32 (by omega) (by omega) | exact fits_u8 (by omega) (by omega)))) ?_
            refine q_move rfl rfl rfl rfl ?_
            refine q_int rfl rfl rfl rfl rfl (b_sub' _ (by (first | exact fits_i64 (by omega) (by omega) | exact fits_u64 (by omega) (by omega) | exact fits_u32 (by omega) (by omega) | exact fits_u8 (by omega) (by omega)))) ?_
            refine q_conv' rfl rfl rfl rfl Try.underlying25 Try.underlying3 (by (first | exact fits_i64 (by omega) (by omega) | exact fits_u64 (by omega) (by omega) | exact fits_u32 (by omega) (by omega) | exact fits_u8 (by omega) (by omega))) ?_
            refine q_assign rfl rfl rfl rfl ?_
            refine r_done ?_
            refine s_keep [0, 5, 9, 10, 11, 12] (e' := [(0, _), (5, _), (9, _), (10, _), (11, _), (12, _)]) rfl ?_
            refine k_then_n ?_
            refine c_seq ?_
            refine c_plain (.q 0 (.q 1 (.q 2 (.q 3 (.q 4 (.q 5 (.q 6 (.q 7 (.q 8 (.q 9 (.q 10 (.q 11 (.q 12 (.q 13 (.q 14 (.q 15 (.q 16 (.q 17 (.q 18 (.q 19 (.q 20 (.q 21 (.q 22 (.q 23 (.q 24 (.done)))))))))))))))))))))))))) (by kernel_rfl) ?_
            refine q_move rfl rfl rfl rfl ?_
            refine q_move rfl rfl rfl rfl ?_
            refine q_idxO (sz := 0) (k := p) (enc := encHW) (xs := (M.map (·.2))) rfl rfl rfl rfl rfl Try.underlying23 Try.sizeOf24 hyp (by first | rfl | omega) (by omega) (by with_reducible (repeat (first | exact Take.here | apply Take.there))) ?_
            intro ib108 io108 ha108 hl108 hc108
            refine q_load_O (v := (.slice an ((mks (wm p) x3.length ++ mks (wv p) 40).length) cn)) (j := 0) (k' := p) (enc := encHW) (off := io108) rfl rfl rfl rfl Try.isAgg24 ha108 encHW_len hyp (by with_reducible (repeat (first | exact Take.here | apply Take.there))) (by first | rfl | exact (Nat.add_zero _).symm | omega) (by rfl) ?_
            refine q_move rfl rfl rfl rfl ?_
            refine q_idxR (sz := 0) (k := k) rfl rfl rfl rfl rfl Try.underlying24 Try.sizeOf25 (rds_big (f := f2A 1 encW) hyM (rds_app2_l encW_len hfx.1.1 hfx.1.2)) (mk2_hi (f := wm p) (g := wv p) (n := x3.length) (m := 40) (k := k) (by omega) (by omega)) encW_len (by first | rfl | omega) (by omega) ?_
            intro ib111 io111 _ hd111
            refine q_load rfl rfl rfl rfl Try.isAgg25 (by with_reducible (repeat (first | exact Take.here | apply Take.there))) (hd111 0 (.int .u32 (wv p (k - x3.length))) rfl) ?_
            refine q_move rfl rfl rfl rfl ?_
            refine q_int rfl rfl rfl rfl rfl (b_neq _ _ _ _) ?_
            refine q_move rfl rfl rfl rfl ?_
            refine s_bool_p 115 rfl (fun hg => by exfalso; first | omega | (apply hg; first | rfl | (simp only [wm, wv]; omega))) (fun hg => ?_)
            refine q_move rfl rfl rfl rfl ?_
            refine q_move rfl rfl rfl rfl ?_
            refine q_int rfl rfl rfl rfl rfl (b_lss _ _ _ _) ?_
            refine q_move rfl rfl rfl rfl ?_
            refine s_bool_p 119 rfl (fun hg2 => ?_) (fun hg2 => ?_)
            · skip
              refine q_move rfl rfl rfl rfl ?_
              refine q_move rfl rfl rfl rfl ?_
              refine q_idxR (sz := 0) (k := p) rfl rfl rfl rfl rfl Try.underlying23 Try.sizeOf24 (hr) hx encHW_len (by first | rfl | omega) (by omega) ?_
              intro ib122 io122 _ hd122
              refine q_load rfl rfl rfl rfl Try.isAgg24 (by with_reducible (repeat (first | exact Take.here | apply Take.there))) (hd122 0 (.slice b1 x3.length b2) rfl) ?_
              refine q_move rfl rfl rfl rfl ?_
              obtain ⟨e_1, he_1⟩ := get_lt (l := (mks (wm p) x3.length)) (i := k) (by first | omega | (simp; done) | (simp; omega))
              refine q_idxR (sz := 0) (k := k) rfl rfl rfl rfl rfl Try.underlying24 Try.sizeOf25 (rds_big (f := f2A 1 encW) hyM (rds_app2_r encW_len (mks_take _ _ _) hfx.2.1 hfx.2.2)) he_1 encW_len (by first | rfl | omega) (by omega) ?_
              intro ib125 io125 _ hd125
              refine q_load rfl rfl rfl rfl Try.isAgg25 (by with_reducible (repeat (first | exact Take.here | apply Take.there))) (hd125 0 (.int .u32 e_1) rfl) ?_
              refine q_move rfl rfl rfl rfl ?_
              refine q_int rfl rfl rfl rfl rfl (b_neq _ _ _ _) ?_
              refine q_pick_t rfl rfl rfl rfl rfl ?_
              refine q_pick_f rfl rfl rfl rfl rfl ?_
              refine r_done ?_
              refine s_keep [0, 5, 9, 10, 11, 116, 117, 118, 119, 120, 121, 122, 123, 124, 125, 126, 127, 128, 129, 130] (e' := [(0, _), (5, _), (9, _), (10, _), (11, _), (116, _), (117, _), (118, _), (119, _), (120, _), (121, _), (122, _), (123, _), (124, _), (125, _), (126, _), (127, _), (128, _), (129, _), (130, _)]) rfl ?_
              refine k_then_n ?_
              refine c_cond_p rfl (fun hg => by exfalso; first | omega | (apply hg; first | rfl | (simp only [wm, wv]; omega))) (fun hg => ?_)
              refine c_skip ?_
              refine k_blk_n ?_
              refine k_then_n ?_
              refine c_plain (.q 0 (.q 1 (.q 2 (.done)))) (by kernel_rfl) ?_
              refine q_move rfl rfl rfl rfl ?_
              refine q_int rfl rfl rfl rfl rfl (b_add' _ (by (first | exact fits_i64 (by omega) (by omega) | exact fits_u64 (by omega) (by omega) | exact fits_u32 (by omega) (by omega) | exact fits_u8 (by omega) (by omega)))) ?_
              refine q_assign rfl rfl rfl rfl ?_
              refine r_done ?_
              refine k_then_n ?_
              refine loop_next (x := k) (k + 1) ?_ ?_ ?_ ?_
              · exact by show k + 1 ≤ x3.length + 40; omega
              · show x3.length + 40 - (k + 1) < x3.length + 40 - k; omega
              · exact ⟨rfl, rfl, rfl, rfl, rfl, trivial⟩
              · (try simp only [List.cons_append, List.nil_append]); (repeat ((with_reducible apply Takes.cons); focus (first | (with_reducible (repeat (first | exact Take.here | apply Take.there)); done) | (repeat (first | exact Take.here | apply Take.there))))); (repeat (first | exact Takes.nil | exact Takes.self | refine takes_drop2 ?_))
            · skip
              refine q_skip rfl rfl rfl rfl ?_
              refine q_skip rfl rfl rfl rfl ?_
              refine q_skip rfl rfl rfl rfl ?_
              refine q_skip rfl rfl rfl rfl ?_
              refine q_skip rfl rfl rfl rfl ?_
              refine q_skip rfl rfl rfl rfl ?_
              refine q_skip rfl rfl rfl rfl ?_
              refine q_skip rfl rfl rfl rfl ?_
              refine q_skip rfl rfl rfl rfl ?_
              refine q_pick_f rfl rfl rfl rfl rfl ?_
              refine q_pick_f rfl rfl rfl rfl rfl ?_
              refine r_done ?_
              refine s_keep [0, 5, 9, 10, 11, 116, 117, 118, 119, 120, 121, 122, 123, 124, 125, 126, 127, 128, 129, 130] (e' := [(0, _), (5, _), (9, _), (10, _), (11, _), (116, _), (117, _), (118, _), (119, _), (120, _), (121, _), (122, _), (123, _), (124, _), (125, _), (126, _), (127, _), (128, _), (129, _), (130, _)]) rfl ?_
              refine k_then_n ?_
              refine c_cond_f rfl ?_
              refine c_skip ?_
              refine k_blk_n ?_
              refine k_then_n ?_
              refine c_plain (.q 0 (.q 1 (.q 2 (.done)))) (by kernel_rfl) ?_
              refine q_move rfl rfl rfl rfl ?_
              refine q_int rfl rfl rfl rfl rfl (b_add' _ (by (first | exact fits_i64 (by omega) (by omega) | exact fits_u64 (by omega) (by omega) | exact fits_u32 (by omega) (by omega) | exact fits_u8 (by omega) (by omega)))) ?_
              refine q_assign rfl rfl rfl rfl ?_
              refine r_done ?_
              refine k_then_n ?_
              refine loop_next (x := k) (k + 1) ?_ ?_ ?_ ?_
              · exact by show k + 1 ≤ x3.length + 40; omega
              · show x3.length + 40 - (k + 1) < x3.length + 40 - k; omega
              · exact ⟨rfl, rfl, rfl, rfl, rfl, trivial⟩
              · (try simp only [List.cons_append, List.nil_append]); (repeat ((with_reducible apply Takes.cons); focus (first | (with_reducible (repeat (first | exact Take.here | apply Take.there)); done) | (repeat (first | exact Take.here | apply Take.there))))); (repeat (first | exact Takes.nil | exact Takes.self | refine takes_drop2 ?_))
          · skip
            refine c_skip ?_
            refine k_then_n ?_
            refine c_seq ?_
            refine c_plain (.q 0 (.q 1 (.q 2 (.q 3 (.q 4 (.q 5 (.q 6 (.q 7 (.q 8 (.q 9 (.q 10 (.q 11 (.q 12 (.q 13 (.q 14 (.q 15 (.q 16 (.q 17 (.q 18 (.q 19 (.q 20 (.q 21 (.q 22 (.q 23 (.q 24 (.done)))))))))))))))))))))))))) (by kernel_rfl) ?_
            refine q_move rfl rfl rfl rfl ?_
            refine q_move rfl rfl rfl rfl ?_
            refine q_idxO (sz := 0) (k := p) (enc := encHW) (xs := (M.map (·.2))) rfl rfl rfl rfl rfl Try.underlying23 Try.sizeOf24 hyp (by first | rfl | omega) (by omega) (by with_reducible (repeat (first | exact Take.here | apply Take.there))) ?_
            intro ib108 io108 ha108 hl108 hc108
            refine q_load_O (v := (.slice an ((mks (wm p) x3.length ++ mks (wv p) 40).length) cn)) (j := 0) (k' := p) (enc := encHW) (off := io108) rfl rfl rfl rfl Try.isAgg24 ha108 encHW_len hyp (by with_reducible (repeat (first | exact Take.here | apply Take.there))) (by first | rfl | exact (Nat.add_zero _).symm | omega) (by rfl) ?_
            refine q_move rfl rfl rfl rfl ?_
            refine q_idxR (sz := 0) (k := k) rfl rfl rfl rfl rfl Try.underlying24 Try.sizeOf25 (rds_big (f := f2A 1 encW) hyM (rds_app2_l encW_len hfx.1.1 hfx.1.2)) (mk2_lo (f := wm p) (g := wv p) (n := x3.length) (m := 40) (k := k) (by omega)) encW_len (by first | rfl | omega) (by omega) ?_
            intro ib111 io111 _ hd111
            refine q_load rfl rfl rfl rfl Try.isAgg25 (by with_reducible (repeat (first | exact Take.here | apply Take.there))) (hd111 0 (.int .u32 (wm p k)) rfl) ?_
            refine q_move rfl rfl rfl rfl ?_
            refine q_int rfl rfl rfl rfl rfl (b_neq _ _ _ _) ?_
            refine q_move rfl rfl rfl rfl ?_
            refine s_bool_p 115 rfl (fun hg => by exfalso; first | omega | (apply hg; first | rfl | (simp only [wm, wv]; omega))) (fun hg => ?_)
            refine q_move rfl rfl rfl rfl ?_
            refine q_move rfl rfl rfl rfl ?_
            refine q_int rfl rfl rfl rfl rfl (b_lss _ _ _ _) ?_
            refine q_move rfl rfl rfl rfl ?_
            refine s_bool_p 119 rfl (fun hg2 => ?_) (fun hg2 => ?_)
            · skip
              refine q_move rfl rfl rfl rfl ?_
              refine q_move rfl rfl rfl rfl ?_
              refine q_idxR (sz := 0) (k := p) rfl rfl rfl rfl rfl Try.underlying23 Try.sizeOf24 (hr) hx encHW_len (by first | rfl | omega) (by omega) ?_
              intro ib122 io122 _ hd122
              refine q_load rfl rfl rfl rfl Try.isAgg24 (by with_reducible (repeat (first | exact Take.here | apply Take.there))) (hd122 0 (.slice b1 x3.length b2) rfl) ?_
              refine q_move rfl rfl rfl rfl ?_
              refine q_idxR (sz := 0) (k := k) rfl rfl rfl rfl rfl Try.underlying24 Try.sizeOf25 (rds_big (f := f2A 1 encW) hyM (rds_app2_r encW_len (mks_take _ _ _) hfx.2.1 hfx.2.2)) (mks_get (wm p) (n := x3.length) (k := k) (by omega)) encW_len (by first | rfl | omega) (by omega) ?_
              intro ib125 io125 _ hd125
              refine q_load rfl rfl rfl rfl Try.isAgg25 (by with_reducible (repeat (first | exact Take.here | apply Take.there))) (hd125 0 (.int .u32 (wm p k)) rfl) ?_
              refine q_move rfl rfl rfl rfl ?_
              refine q_int rfl rfl rfl rfl rfl (b_neq _ _ _ _) ?_
              refine q_pick_t rfl rfl rfl rfl rfl ?_
              refine q_pick_f rfl rfl rfl rfl rfl ?_
              refine r_done ?_
              refine s_keep [0, 5, 9, 10, 11, 116, 117, 118, 119, 120, 121, 122, 123, 124, 125, 126, 127, 128, 129, 130] (e' := [(0, _), (5, _), (9, _), (10, _), (11, _), (116, _), (117, _), (118, _), (119, _), (120, _), (121, _), (122, _), (123, _), (124, _), (125, _), (126, _), (127, _), (128, _), (129, _), (130, _)]) rfl ?_
              refine k_then_n ?_
              refine c_cond_p rfl (fun hg => by exfalso; first | omega | (apply hg; first | rfl | (simp only [wm, wv]; omega))) (fun hg => ?_)
              refine c_skip ?_
              refine k_blk_n ?_
              refine k_then_n ?_
              refine c_plain (.q 0 (.q 1 (.q 2 (.done)))) (by kernel_rfl) ?_
              refine q_move rfl rfl rfl rfl ?_
              refine q_int rfl rfl rfl rfl rfl (b_add' _ (by (first | exact fits_i64 (by omega) (by omega) | exact fits_u64 (by omega) (by omega) | exact fits_u32 (by omega) (by omega) | exact fits_u8 (by omega) (by omega)))) ?_
              refine q_assign rfl rfl rfl rfl ?_
              refine r_done ?_
              refine k_then_n ?_
              refine loop_next (x := k) (k + 1) ?_ ?_ ?_ ?_
              · exact by show k + 1 ≤ x3.length + 40; omega
              · show x3.length + 40 - (k + 1) < x3.length + 40 - k; omega
              · exact ⟨rfl, rfl, rfl, rfl, rfl, trivial⟩
              · (try simp only [List.cons_append, List.nil_append]); (repeat ((with_reducible apply Takes.cons); focus (first | (with_reducible (repeat (first | exact Take.here | apply Take.there)); done) | (repeat (first | exact Take.here | apply Take.there))))); (repeat (first | exact Takes.nil | exact Takes.self | refine takes_drop2 ?_))
            · skip
              refine q_skip rfl rfl rfl rfl ?_
              refine q_skip rfl rfl rfl rfl ?_
              refine q_skip rfl rfl rfl rfl ?_
              refine q_skip rfl rfl rfl rfl ?_
              refine q_skip rfl rfl rfl rfl ?_
              refine q_skip rfl rfl rfl rfl ?_
              refine q_skip rfl rfl rfl rfl ?_
              refine q_skip rfl rfl rfl rfl ?_
              refine q_skip rfl rfl rfl rfl ?_
              refine q_pick_f rfl rfl rfl rfl rfl ?_
              refine q_pick_f rfl rfl rfl rfl rfl ?_
              refine r_done ?_
              refine s_keep [0, 5, 9, 10, 11, 116, 117, 118, 119, 120, 121, 122, 123, 124, 125, 126, 127, 128, 129, 130] (e' := [(0, _), (5, _), (9, _), (10, _), (11, _), (116, _), (117, _), (118, _), (119, _), (120, _), (121, _), (122, _), (123, _), (124, _), (125, _), (126, _), (127, _), (128, _), (129, _), (130, _)]) rfl ?_
              refine k_then_n ?_
              refine c_cond_f rfl ?_
              refine c_skip ?_
              refine k_blk_n ?_
              refine k_then_n ?_
              refine c_plain (.q 0 (.q 1 (.q 2 (.done)))) (by kernel_rfl) ?_
              refine q_move rfl rfl rfl rfl ?_
              refine q_int rfl rfl rfl rfl rfl (b_add' _ (by (first | exact fits_i64 (by omega) (by omega) | exact fits_u64 (by omega) (by omega) | exact fits_u32 (by omega) (by omega) | exact fits_u8 (by omega) (by omega)))) ?_
              refine q_assign rfl rfl rfl rfl ?_
              refine r_done ?_
              refine k_then_n ?_
              refine loop_next (x := k) (k + 1) ?_ ?_ ?_ ?_
              · exact by show k + 1 ≤ x3.length + 40; omega
              · show x3.length + 40 - (k + 1) < x3.length + 40 - k; omega
              · exact ⟨rfl, rfl, rfl, rfl, rfl, trivial⟩
              · (try simp only [List.cons_append, List.nil_append]); (repeat ((with_reducible apply Takes.cons); focus (first | (with_reducible (repeat (first | exact Take.here | apply Take.there)); done) | (repeat (first | exact Take.here | apply Take.there))))); (repeat (first | exact Takes.nil | exact Takes.self | refine takes_drop2 ?_))
        · skip
          refine c_exit ?_
          refine k_then_exit ?_
          refine k_then_exit ?_
          refine k_blk_here ?_
          refine k_blk_n ?_
          refine k_then_n ?_
          refine c_plain (.q 0 (.q 1 (.q 2 (.done)))) (by kernel_rfl) ?_
          refine q_move rfl rfl rfl rfl ?_
          refine q_int rfl rfl rfl rfl rfl (b_add' _ (by (first | exact fits_i64 (by omega) (by omega) | exact fits_u64 (by omega) (by omega) | exact fits_u32 (by omega) (by omega) | exact fits_u8 (by omega) (by omega)))) ?_
          refine q_assign rfl rfl rfl rfl ?_
          refine r_done ?_
          refine s_keep [0, 5, 9] (e' := [(0, _), (5, _), (9, _)]) rfl ?_
          refine k_then_n ?_
          refine loop_next (x := p) (p + 1) ?_ ?_ ?_ ?_
          · exact by show p + 1 ≤ m; omega
          · show m - (p + 1) < m - p; omega
          · exact ⟨rfl, rfl, rfl, trivial⟩
          · (try simp only [List.cons_append, List.nil_append]); (repeat ((with_reducible apply Takes.cons); focus (first | (with_reducible (repeat (first | exact Take.here | apply Take.there)); done) | (repeat (first | exact Take.here | apply Take.there))))); (repeat (first | exact Takes.nil | exact Takes.self | refine takes_drop2 ?_))
      · skip
        refine c_exit ?_
        refine k_then_exit ?_
        refine k_then_exit ?_
        refine k_blk_here ?_
        refine k_then_n ?_
        refine c_seq ?_
        refine c_plain (.q 0 (.done)) (by kernel_rfl) ?_
        refine q_assign rfl rfl rfl rfl ?_
        refine r_done ?_
        refine s_keep [2] (e' := [(2, _)]) rfl ?_
        refine k_then_n ?_
        refine c_ret ?_
        refine ret1 rfl rfl (()) (by first | rfl | (first | rfl | (congr 1; done) | (congr 1 <;> first | rfl | omega | (simp; done) | (simp; omega)))) (by trivial) ?_
        (repeat ((with_reducible apply Takes.cons); focus (first | (with_reducible (repeat (first | exact Take.here | apply Take.there)); done) | (repeat (first | exact Take.here | apply Take.there))))); (repeat (first | exact Takes.nil | exact Takes.self | refine takes_drop2 ?_))
end Go.Ab.Sc
