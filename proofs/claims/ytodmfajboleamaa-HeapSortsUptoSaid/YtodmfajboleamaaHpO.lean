/- apart: what its code answers. -/
import Derived.Test.YtodmfajboleamaaHpR2
import Derived.Test.YtodmfajboleamaaEngK
set_option linter.unusedVariables false
set_option linter.unusedSimpArgs false
set_option maxRecDepth 100000
namespace Go.Ab.HpT
open Go Go.Proofs Go.Ab
/-- The marks of list i. -/
def wm (i n : Nat) : List Th := (List.range n).map fun (k : Nat) => (-1 - (i : Int), ((k : Nat) : Int))
theorem wm_len (i n : Nat) : (wm i n).length = n := by simp [wm]
theorem wm_get {i n k : Nat} (h : k < n) : (wm i n)[k]? = some (-1 - (i : Int), (k : Int)) := by simp [wm, h]
theorem wm_of {i n : Nat} {l : List Th} (hl : l.length = n) (h : ∀ q, q < n → l[q]? = some (-1 - (i : Int), (q : Int))) : l = wm i n := by
  apply List.ext_getElem?
  intro q
  by_cases hq : q < n
  · rw [h q hq, wm_get hq]
  · rw [List.getElem?_eq_none (by omega), List.getElem?_eq_none (by rw [wm_len]; omega)]
abbrev ow (x : Lst) : HProp := own 2 encT x.1 x.2.1 x.2.2
/-- The lists after i of them are written full. -/
structure WI (T U : List Lst) (i : Nat) : Prop where
  len : U.length = T.length
  same : ∀ (j : Nat) (x y : Lst), T[j]? = some x → U[j]? = some y → y.1 = x.1 ∧ y.2.1 = x.2.1 ∧ y.2.2.length = x.2.2.length ∧ (j < i → y.2.2 = wm j x.2.2.length)
theorem wi_start (T : List Lst) : WI T T 0 := ⟨rfl, fun j x y h1 h2 => by rw [h1] at h2; cases h2; exact ⟨rfl, rfl, rfl, fun h => by omega⟩⟩
theorem wi_next {T U : List Lst} {i : Nat} {x y : Lst} (h : WI T U i) (hx : T[i]? = some x) (hy : U[i]? = some y) (l : List Th) (hl : l = wm i x.2.2.length) : WI T (U.set i (y.1, y.2.1, l)) (i + 1) := by
  have hi : i < U.length := (List.getElem?_eq_some_iff.1 hy).1
  refine ⟨by rw [List.length_set]; exact h.len, fun j a b ha hb => ?_⟩
  by_cases hji : j = i
  · subst hji
    rw [List.getElem?_set_self hi] at hb; cases hb
    rw [hx] at ha; cases ha
    obtain ⟨h1, h2, h3, -⟩ := h.same j _ _ hx hy
    exact ⟨h1, h2, by rw [hl, wm_len], fun _ => hl⟩
  · rw [List.getElem?_set_ne (Ne.symm hji)] at hb
    obtain ⟨h1, h2, h3, h4⟩ := h.same j a b ha hb
    exact ⟨h1, h2, h3, fun hj => h4 (by omega)⟩
/-- The second marks. -/
def wv (i k : Nat) : List Th := (List.range k).map fun (q : Nat) => (-1 - (i : Int), -1 - ((q : Nat) : Int))
theorem wv_len (i k : Nat) : (wv i k).length = k := by simp [wv]
theorem wv_next (i k : Nat) : wv i k ++ [(-1 - (i : Int), -1 - (k : Int))] = wv i (k + 1) := by simp [wv, List.range_succ]
abbrev PL := Lst × Lst
abbrev f2 (p : PL) : HProp := app2 2 encT p.1.1 p.1.2.1 p.1.2.2 p.2.1 p.2.2.1 p.2.2.2
theorem s_f2 {w0 : World} {ds : List Deferred} {n : Nat} {e : Env} {Γ Γ' : List HProp} {X : Act → World → Prop} {M : List PL} {p : Nat} {x : PL} (tk : Take Γ (bigS f2 M) Γ') (hx : M[p]? = some x) (hpre : x.2.2.2.take x.1.2.2.length = x.1.2.2)
    (k : ((x.2.1 = none → x.2.2.2 = []) ∧ (x.2.1 ≠ none → ∃ b off, x.2.1 = some ⟨b, off, none⟩)) ∧ ((x.1.1 = none → x.1.2.2 = []) ∧ (x.1.1 ≠ none → ∃ b off, x.1.1 = some ⟨b, off, none⟩)) → Le (St w0 ds n e Γ) X) : Le (St w0 ds n e Γ) X :=
  s_know (fun h s => app2_facts hpre (big_take (f := f2) hx (tk h s))) k
theorem wmv_lo {p n k : Nat} (h : k < n) : (wm p n ++ wv p 40)[k]? = some (-1 - (p : Int), (k : Int)) := by
  rw [List.getElem?_append_left (by rw [wm_len]; exact h), wm_get h]
theorem wmv_hi {p n k : Nat} (h : n ≤ k) (h2 : k < n + 40) : (wm p n ++ wv p 40)[k]? = some (-1 - (p : Int), (n : Int) - 1 - (k : Int)) := by
  rw [List.getElem?_append_right (by rw [wm_len]; exact h), wm_len]
  have : k - n < 40 := by omega
  simp only [wv, List.getElem?_map, List.getElem?_range this, Option.map_some]
  congr 2; omega
theorem encS_one : ∀ x, (encS x).all Value.oneCell' = true := fun _ => rfl
/-- What has been grown. -/
structure MO (T : List Lst) (M : List PL) (i : Nat) : Prop where
  len : M.length = i
  at_ : ∀ (j : Nat) (x : Lst) (p : PL), T[j]? = some x → M[j]? = some p → p.1 = (x.1, x.2.1, wm j x.2.2.length) ∧ p.2.2.2 = wm j x.2.2.length ++ wv j 40
theorem mo_next {T : List Lst} {M : List PL} {i : Nat} {x : Lst} {p : PL} (h : MO T M i) (hx : T[i]? = some x) (h1 : p.1 = (x.1, x.2.1, wm i x.2.2.length)) (h2 : p.2.2.2 = wm i x.2.2.length ++ wv i 40) : MO T (M ++ [p]) (i + 1) := by
  refine ⟨by rw [List.length_append, h.len]; rfl, fun j y q hy hq => ?_⟩
  by_cases hj : j < i
  · rw [List.getElem?_append_left (by rw [h.len]; exact hj)] at hq
    exact h.at_ j y q hy hq
  · rw [List.getElem?_append_right (by rw [h.len]; omega), h.len] at hq
    obtain rfl : j = i := by
      rcases Nat.lt_or_ge (j - i) 1 with h3 | h3
      · omega
      · rw [List.getElem?_eq_none (by simpa using h3)] at hq; cases hq
    simp at hq; subst hq
    rw [hx] at hy; cases hy
    exact ⟨h1, h2⟩
theorem apart_spec (T : List Lst) (bo : Option Addr) (m c : Nat) (A : HProp) (hr : RdS A bo (T.flatMap encS)) (hm : T.length = m) (hb : m ≤ 40000000) (hb2 : ∀ x ∈ T, x.2.2.length ≤ 4000000000000) : Spec Try.prog 31 [.slice bo m c] [A, bigS ow T] (fun (_ : Unit) => .bool true) (fun _ => True) (fun _ => [A]) := by
  refine spec_mk (n := 126) Try.func31 rfl rfl rfl ?_
  intro Γ w0
  simp only [argE, List.cons_append, List.nil_append, Nat.zero_add, Nat.reduceAdd]
  refine c_seq ?_
  refine c_plain (.q 0 (.done)) (by kernel_rfl) ?_
  refine q_assign rfl rfl rfl rfl ?_
  refine r_done ?_
  refine k_then_n ?_
  refine c_seq ?_
  refine c_seq ?_
  refine c_plain (.q 0 (.done)) (by kernel_rfl) ?_
  refine q_assign rfl rfl rfl rfl ?_
  refine r_done ?_
  refine k_then_n ?_
  refine c_block ?_
  refine s_eq 3 rfl (v' := .int .i64 ((0 : Nat) : Int)) rfl ?_
  refine c_loop2 (α := Nat × List Lst) (fun (x_ : Nat × List Lst) => match x_ with | (i, U) => i ≤ m ∧ WI T U i) (fun (x_ : Nat × List Lst) => match x_ with | (i, U) => [(3, .int .i64 ((i : Nat) : Int))]) (fun (x_ : Nat × List Lst) => match x_ with | (i, U) => [bigS ow U]) (fun (x_ : Nat × List Lst) => match x_ with | (i, U) => m - i) [0] (er := [(0, _)]) rfl ((0, T)) ?_ (by exact ⟨rfl, trivial⟩) (by (try simp only [Nat.add_zero, Nat.zero_add]); (repeat (with_reducible apply Takes.cons; focus (with_reducible (repeat (first | exact Take.here | apply Take.there))))); exact Takes.nil) ?_
  · exact ⟨Nat.zero_le _, wi_start T⟩
  rintro ⟨i, U⟩ ⟨hi, hW⟩
  try simp only [List.cons_append, List.nil_append]
  refine c_seq ?_
  refine c_seq ?_
  refine c_plain (.q 0 (.q 1 (.q 2 (.q 3 (.done))))) (by kernel_rfl) ?_
  refine q_move rfl rfl rfl rfl ?_
  refine q_move rfl rfl rfl rfl ?_
  refine q_len rfl rfl rfl rfl Try.underlying56 ?_
  refine q_int rfl rfl rfl rfl rfl (b_lss _ _ _ _) ?_
  refine r_done ?_
  refine k_then_n ?_
  refine c_cond_p rfl (fun hlt => ?_) (fun hlt => ?_)
  · skip
    obtain ⟨x, hx⟩ := get_lt (l := T) (i := i) (by omega)
    obtain ⟨y, hy⟩ := get_lt (l := U) (i := i) (by have := hW.len; omega)
    obtain ⟨a1, c1, x3⟩ := x
    obtain ⟨a2, c2, y3⟩ := y
    obtain ⟨hs1, hs2, hs3, -⟩ := hW.same i _ _ hx hy
    simp only at hs1 hs2 hs3
    subst hs1 hs2
    have hxb : x3.length ≤ 4000000000000 := hb2 _ (List.mem_of_getElem? hx)
    obtain ⟨vb, vo, rfl, hrn⟩ := rds_get hr encS_len hx
    refine c_skip ?_
    refine k_then_n ?_
    refine c_seq ?_
    refine c_block ?_
    refine c_seq ?_
    refine c_plain (.q 0 (.done)) (by kernel_rfl) ?_
    refine q_assign rfl rfl rfl rfl ?_
    refine r_done ?_
    refine s_keep [0, 3, 4] (e' := [(0, _), (3, _), (4, _)]) rfl ?_
    refine k_then_n ?_
    refine c_block ?_
    refine s_eq 4 rfl (v' := .int .i64 ((0 : Nat) : Int)) rfl ?_
    refine s_big_take (f := ow) (L := U) (by with_reducible (repeat (first | exact Take.here | apply Take.there))) hy ?_
    refine c_loop2 (α := Nat × List Th) (fun (x_ : Nat × List Th) => match x_ with | (k, l) => k ≤ x3.length ∧ l.length = x3.length ∧ ∀ q, q < k → l[q]? = some (-1 - (i : Int), (q : Int))) (fun (x_ : Nat × List Th) => match x_ with | (k, l) => [(4, .int .i64 ((k : Nat) : Int))]) (fun (x_ : Nat × List Th) => match x_ with | (k, l) => [own 2 encT a2 c2 l]) (fun (x_ : Nat × List Th) => match x_ with | (k, l) => x3.length - k) [0, 3] (er := [(0, _), (3, _)]) rfl ((0, y3)) ?_ (by exact ⟨rfl, trivial⟩) (by exact Takes.cons Take.here Takes.nil) ?_
    · exact ⟨Nat.zero_le _, hs3, fun q hq => by omega⟩
    rintro ⟨k, l⟩ ⟨hk, hll, hlq⟩
    try simp only [List.cons_append, List.nil_append]
    refine c_seq ?_
    refine c_seq ?_
    refine c_plain (.q 0 (.q 1 (.q 2 (.q 3 (.q 4 (.q 5 (.q 6 (.done)))))))) (by kernel_rfl) ?_
    refine q_move rfl rfl rfl rfl ?_
    refine q_move rfl rfl rfl rfl ?_
    refine q_move rfl rfl rfl rfl ?_
    refine q_idx1 rfl rfl rfl rfl rfl Try.underlying56 Try.sizeOf49 (k := i) (by first | rfl | omega) (by omega) (by exact ⟨_, _, rfl⟩) ?_
    intro ib1 io2 hx; cases hx
    refine q_load rfl rfl rfl rfl Try.isAgg49 (by with_reducible (repeat (first | exact Take.here | apply Take.there))) (rd_flat1 (v := .slice a2 x3.length c2) hrn encS_len hx rfl) ?_
    refine q_len rfl rfl rfl rfl Try.underlying49 ?_
    refine q_int rfl rfl rfl rfl rfl (b_lss _ _ _ _) ?_
    refine r_done ?_
    refine s_keep [0, 3, 4, 25] (e' := [(0, _), (3, _), (4, _), (25, _)]) rfl ?_
    refine k_then_n ?_
    refine c_cond_p rfl (fun hlk => ?_) (fun hlk => ?_)
    · skip
      obtain ⟨z, hz⟩ := get_lt (l := l) (i := k) (by omega)
      refine c_skip ?_
      refine k_then_n ?_
      refine c_seq ?_
      refine c_block ?_
      refine c_plain (.q 0 (.q 1 (.q 2 (.q 3 (.q 4 (.q 5 (.q 6 (.q 7 (.q 8 (.q 9 ((.l 10 [] (.done))))))))))))) (by kernel_rfl) ?_
      refine q_move rfl rfl rfl rfl ?_
      refine q_move rfl rfl rfl rfl ?_
      refine q_idx1 rfl rfl rfl rfl rfl Try.underlying56 Try.sizeOf49 (k := i) (by first | rfl | omega) (by omega) (by exact ⟨_, _, rfl⟩) ?_
      intro ib3 io4 hx; cases hx
      refine q_load rfl rfl rfl rfl Try.isAgg49 (by with_reducible (repeat (first | exact Take.here | apply Take.there))) (rd_flat1 (v := .slice a2 x3.length c2) hrn encS_len hx rfl) ?_
      refine q_move rfl rfl rfl rfl ?_
      refine q_move rfl rfl rfl rfl ?_
      refine q_int rfl rfl rfl rfl rfl (b_sub' _ (by (first | exact fits_i64 (by omega) (by omega) | exact fits_u64 (by omega) (by omega) | exact fits_u32 (by omega) (by omega) | exact fits_u8 (by omega) (by omega)))) ?_
      refine q_move rfl rfl rfl rfl ?_
      refine q_build rfl rfl rfl rfl (vs := [_, _]) (run_buildS Try.underlying28 Try.zeroValue28 (ps := [(0, 1), (1, 1)]) ⟨rfl, Try.sizeOf3, rfl, Try.sizeOf3, trivial⟩ rfl) ?_
      refine own_some (by with_reducible (repeat (first | exact Take.here | apply Take.there))) hz fun ib io hao hil hcap => ?_
      subst hao
      refine q_idx rfl rfl rfl rfl rfl Try.underlying49 Try.sizeOf28 (k := k) (by first | rfl | omega) (by omega) (by exact ⟨_, _, rfl⟩) ?_
      intro ib5 io6 hx; cases hx
      refine l_storeO rfl rfl rfl rfl Try.sizeOf28 (us := [_, _]) rfl rfl rfl (encT_len) (by with_reducible (repeat (first | exact Take.here | apply Take.there))) (j := 0) (by first | rfl | exact (Nat.add_zero _).symm) (by exact hz) (by first | decide | exact Nat.le_of_ble_eq_true rfl) (q := (-1 - (i : Int), (k : Int))) (by rfl) (k := k) ?_
      refine ag_nil ?_
      refine r_done ?_
      refine s_keep [0, 3, 4] (e' := [(0, _), (3, _), (4, _)]) rfl ?_
      refine k_blk_n ?_
      refine k_then_n ?_
      refine c_plain (.q 0 (.q 1 (.q 2 (.done)))) (by kernel_rfl) ?_
      refine q_move rfl rfl rfl rfl ?_
      refine q_int rfl rfl rfl rfl rfl (b_add' _ (by (first | exact fits_i64 (by omega) (by omega) | exact fits_u64 (by omega) (by omega) | exact fits_u32 (by omega) (by omega) | exact fits_u8 (by omega) (by omega)))) ?_
      refine q_assign rfl rfl rfl rfl ?_
      refine r_done ?_
      refine k_then_n ?_
      refine loop_next (x := (k, l)) ((k + 1, l.set k (-1 - (i : Int), (k : Int)))) ?_ ?_ ?_ ?_
      · exact ⟨by omega, by rw [List.length_set]; exact hll, fun q hq => by
  by_cases hqk : q = k
  · subst hqk; rw [List.getElem?_set_self (by omega)]
  · rw [List.getElem?_set_ne (Ne.symm hqk)]; exact hlq q (by omega)⟩
      · show x3.length - (k + 1) < x3.length - k; omega
      · exact ⟨rfl, rfl, rfl, trivial⟩
      · (try simp only [List.cons_append, List.nil_append]); (repeat (with_reducible apply Takes.cons; focus (with_reducible (repeat (first | exact Take.here | apply Take.there))))); (repeat (first | exact Takes.nil | exact Takes.self | refine takes_drop2 ?_))
    · skip
      refine c_exit ?_
      refine k_then_exit ?_
      refine k_then_exit ?_
      refine k_blk_here ?_
      refine k_blk_n ?_
      refine k_then_n ?_
      refine c_plain (.q 0 (.q 1 (.q 2 (.done)))) (by kernel_rfl) ?_
      refine q_move rfl rfl rfl rfl ?_
      refine q_int rfl rfl rfl rfl rfl (b_add' _ (by (first | exact fits_i64 (by omega) (by omega) | exact fits_u64 (by omega) (by omega) | exact fits_u32 (by omega) (by omega) | exact fits_u8 (by omega) (by omega)))) ?_
      refine q_assign rfl rfl rfl rfl ?_
      refine r_done ?_
      refine s_keep [0, 3] (e' := [(0, _), (3, _)]) rfl ?_
      refine k_then_n ?_
      refine s_big_put (f := ow) (L := U) (i := i) (y := (a2, c2, l)) (by (repeat (with_reducible apply Takes.cons; focus (with_reducible (repeat (first | exact Take.here | apply Take.there))))); exact Takes.nil) (List.getElem?_eq_some_iff.1 hy).1 ?_
      refine loop_next (x := (i, U)) ((i + 1, U.set i (a2, c2, l))) ?_ ?_ ?_ ?_
      · exact ⟨by omega, wi_next hW hx hy l (wm_of hll fun q hq => hlq q (by have hq2 : q < x3.length := hq; omega))⟩
      · show m - (i + 1) < m - i; omega
      · exact ⟨rfl, rfl, trivial⟩
      · (try simp only [List.cons_append, List.nil_append]); (repeat (with_reducible apply Takes.cons; focus (with_reducible (repeat (first | exact Take.here | apply Take.there))))); (repeat (first | exact Takes.nil | exact Takes.self | refine takes_drop2 ?_))
  · skip
    obtain rfl : i = m := by omega
    refine c_exit ?_
    refine k_then_exit ?_
    refine k_then_exit ?_
    refine k_blk_here ?_
    refine k_then_n ?_
    refine c_seq ?_
    refine c_plain (.q 0 (.done)) (by kernel_rfl) ?_
    refine q_assign rfl rfl rfl rfl ?_
    refine r_done ?_
    refine s_keep [0, 5] (e' := [(0, _), (5, _)]) rfl ?_
    refine k_then_n ?_
    refine c_seq ?_
    refine c_seq ?_
    refine c_plain (.q 0 (.done)) (by kernel_rfl) ?_
    refine q_assign rfl rfl rfl rfl ?_
    refine r_done ?_
    refine k_then_n ?_
    refine c_block ?_
    refine s_eq 6 rfl (v' := .int .i64 ((0 : Nat) : Int)) rfl ?_
    refine s_heap (fun _ h => own_nil (sz := 1) (enc := encS) h) ?_
    refine s_big_nil (f := f2) ?_
    refine c_loop2 (α := Nat × List PL × Option Addr × Nat) (fun (x_ : Nat × List PL × Option Addr × Nat) => match x_ with | (j, M, am, cm) => j ≤ i ∧ MO T M j) (fun (x_ : Nat × List PL × Option Addr × Nat) => match x_ with | (j, M, am, cm) => [(5, .slice am (M.map (·.2)).length cm), (6, .int .i64 ((j : Nat) : Int))]) (fun (x_ : Nat × List PL × Option Addr × Nat) => match x_ with | (j, M, am, cm) => [bigS f2 M, bigS ow (U.drop j), own 1 encS am cm (M.map (·.2))]) (fun (x_ : Nat × List PL × Option Addr × Nat) => match x_ with | (j, M, am, cm) => i - j) [0] (er := [(0, _)]) rfl ((0, [], none, 0)) ?_ (by exact ⟨rfl, rfl, trivial⟩) (by dsimp only; rw [List.drop_zero, List.map_nil]; (repeat (with_reducible apply Takes.cons; focus (with_reducible (repeat (first | exact Take.here | apply Take.there))))); exact Takes.nil) ?_
    · exact ⟨Nat.zero_le _, rfl, fun j x p _ h => by simp at h⟩
    rintro ⟨j, M, am, cm⟩ ⟨hj, hM⟩
    try simp only [List.cons_append, List.nil_append]
    have hml := hM.len
    refine c_seq ?_
    refine c_seq ?_
    refine c_plain (.q 0 (.q 1 (.q 2 (.q 3 (.done))))) (by kernel_rfl) ?_
    refine q_move rfl rfl rfl rfl ?_
    refine q_move rfl rfl rfl rfl ?_
    refine q_len rfl rfl rfl rfl Try.underlying56 ?_
    refine q_int rfl rfl rfl rfl rfl (b_lss _ _ _ _) ?_
    refine r_done ?_
    refine k_then_n ?_
    refine c_cond_p rfl (fun hlj => ?_) (fun hlj => ?_)
    · skip
      obtain ⟨x, hx⟩ := get_lt (l := T) (i := j) (by omega)
      obtain ⟨y, hy⟩ := get_lt (l := U) (i := j) (by have := hW.len; omega)
      obtain ⟨a1, c1, x3⟩ := x
      obtain ⟨a2, c2, y3⟩ := y
      obtain ⟨hs1, hs2, hs3, hs4⟩ := hW.same j _ _ hx hy
      simp only at hs1 hs2 hs3 hs4
      subst hs1 hs2
      obtain rfl := hs4 (by omega)
      have hxb : x3.length ≤ 4000000000000 := hb2 _ (List.mem_of_getElem? hx)
      obtain ⟨vb, vo, rfl, hrn⟩ := rds_get hr encS_len hx
      refine c_skip ?_
      refine k_then_n ?_
      refine c_seq ?_
      refine c_block ?_
      refine c_seq ?_
      refine c_plain (.q 0 (.q 1 (.q 2 (.q 3 (.q 4 (.done)))))) (by kernel_rfl) ?_
      refine q_move rfl rfl rfl rfl ?_
      refine q_move rfl rfl rfl rfl ?_
      refine q_idx1 rfl rfl rfl rfl rfl Try.underlying56 Try.sizeOf49 (k := j) (by first | rfl | omega) (by omega) (by exact ⟨_, _, rfl⟩) ?_
      intro ib7 io8 hx; cases hx
      refine q_load rfl rfl rfl rfl Try.isAgg49 (by with_reducible (repeat (first | exact Take.here | apply Take.there))) (rd_flat1 (v := .slice a2 x3.length c2) hrn encS_len hx rfl) ?_
      refine q_assign rfl rfl rfl rfl ?_
      refine r_done ?_
      refine s_keep [0, 5, 6, 7] (e' := [(0, _), (5, _), (6, _), (7, _)]) rfl ?_
      refine k_then_n ?_
      refine c_seq ?_
      refine c_seq ?_
      refine c_plain (.q 0 (.done)) (by kernel_rfl) ?_
      refine q_assign rfl rfl rfl rfl ?_
      refine r_done ?_
      refine k_then_n ?_
      refine c_block ?_
      refine s_eq 8 rfl (v' := .int .i64 ((0 : Nat) : Int)) rfl ?_
      refine s_big_take (f := ow) (L := U.drop j) (i := 0) (x := (a2, c2, wm j x3.length)) (by with_reducible (repeat (first | exact Take.here | apply Take.there))) (by rw [List.getElem?_drop]; exact hy) ?_
      refine s_heap (fun _ h => app2_start h) ?_
      refine c_loop2 (α := Nat × Option Addr × Nat) (fun (x_ : Nat × Option Addr × Nat) => match x_ with | (k, an, cn) => k ≤ 40) (fun (x_ : Nat × Option Addr × Nat) => match x_ with | (k, an, cn) => [(7, .slice an (x3.length + k) cn), (8, .int .i64 ((k : Nat) : Int))]) (fun (x_ : Nat × Option Addr × Nat) => match x_ with | (k, an, cn) => [app2 2 encT a2 c2 (wm j x3.length) an cn (wm j x3.length ++ wv j k)]) (fun (x_ : Nat × Option Addr × Nat) => match x_ with | (k, an, cn) => 40 - k) [0, 5, 6] (er := [(0, _), (5, _), (6, _)]) rfl ((0, a2, c2)) ?_ (by exact ⟨rfl, rfl, trivial⟩) (by dsimp only; rw [show wv j 0 = [] from rfl, List.append_nil]; exact Takes.cons Take.here Takes.nil) ?_
      · exact Nat.zero_le _
      rintro ⟨k, an, cn⟩ hk
      try simp only [List.cons_append, List.nil_append]
      refine c_seq ?_
      refine c_seq ?_
      refine c_plain (.q 0 (.q 1 (.done))) (by kernel_rfl) ?_
      refine q_move rfl rfl rfl rfl ?_
      refine q_int rfl rfl rfl rfl rfl (b_lss _ _ _ _) ?_
      refine r_done ?_
      refine k_then_n ?_
      refine c_cond_p rfl (fun hlk => ?_) (fun hlk => ?_)
      · skip
        refine c_skip ?_
        refine k_then_n ?_
        refine c_seq ?_
        refine c_block ?_
        refine c_plain (.q 0 (.q 1 (.q 2 (.q 3 (.q 4 (.q 5 ((.l 6 [] ((.l 7 [] (.q 8 (.done)))))))))))) (by kernel_rfl) ?_
        refine q_move rfl rfl rfl rfl ?_
        refine q_move rfl rfl rfl rfl ?_
        refine q_int rfl rfl rfl rfl rfl (b_sub' _ (by (first | exact fits_i64 (by omega) (by omega) | exact fits_u64 (by omega) (by omega) | exact fits_u32 (by omega) (by omega) | exact fits_u8 (by omega) (by omega)))) ?_
        refine q_move rfl rfl rfl rfl ?_
        refine q_int rfl rfl rfl rfl rfl (b_sub' _ (by (first | exact fits_i64 (by omega) (by omega) | exact fits_u64 (by omega) (by omega) | exact fits_u32 (by omega) (by omega) | exact fits_u8 (by omega) (by omega)))) ?_
        refine q_build rfl rfl rfl rfl (vs := [_, _]) (run_buildS Try.underlying28 Try.zeroValue28 (ps := [(0, 1), (1, 1)]) ⟨rfl, Try.sizeOf3, rfl, Try.sizeOf3, trivial⟩ rfl) ?_
        refine l_buildSlice rfl rfl rfl rfl (run_build1 (us := [_, _]) Try.underlying49 Try.sizeOf28 rfl Try.zeroValue28 rfl rfl rfl) ?_
        intro vq
        refine ag_nil ?_
        refine l_appendA (sz := 2) rfl rfl rfl rfl rfl Try.underlying49 Try.typeInfo28 rfl rfl rfl (by decide) (by with_reducible (repeat (first | exact Take.here | apply Take.there))) (by with_reducible (repeat (first | exact Take.here | apply Take.there))) (by rw [List.length_append, wm_len, wv_len]) (ys := [(-1 - (j : Int), -1 - (k : Int))]) (rds_some rdn_cells) (by rfl) (by rfl) (encT_len) (encT_one) (by omega) (by show _ * 16 ≤ _; omega) (by rw [List.take_left]) ?_
        intro an2 cn2
        refine ag_nil ?_
        refine q_assign rfl rfl rfl rfl ?_
        refine r_done ?_
        refine s_keep [0, 5, 6, 7, 8] (e' := [(0, _), (5, _), (6, _), (7, _), (8, _)]) rfl ?_
        refine k_blk_n ?_
        refine k_then_n ?_
        refine c_plain (.q 0 (.q 1 (.q 2 (.done)))) (by kernel_rfl) ?_
        refine q_move rfl rfl rfl rfl ?_
        refine q_int rfl rfl rfl rfl rfl (b_add' _ (by (first | exact fits_i64 (by omega) (by omega) | exact fits_u64 (by omega) (by omega) | exact fits_u32 (by omega) (by omega) | exact fits_u8 (by omega) (by omega)))) ?_
        refine q_assign rfl rfl rfl rfl ?_
        refine r_done ?_
        refine k_then_n ?_
        rw [List.append_assoc, wv_next]
        refine loop_next (x := (k, an, cn)) ((k + 1, an2, cn2)) ?_ ?_ ?_ ?_
        · show k + 1 ≤ 40; omega
        · show 40 - (k + 1) < 40 - k; omega
        · exact ⟨rfl, rfl, rfl, rfl, rfl, trivial⟩
        · (try simp only [List.cons_append, List.nil_append]); (repeat (with_reducible apply Takes.cons; focus (with_reducible (repeat (first | exact Take.here | apply Take.there))))); (repeat (first | exact Takes.nil | exact Takes.self | refine takes_drop2 ?_))
      · skip
        obtain rfl : k = 40 := by omega
        refine c_exit ?_
        refine k_then_exit ?_
        refine k_then_exit ?_
        refine k_blk_here ?_
        refine k_then_n ?_
        refine c_plain (.q 0 (.q 1 ((.l 2 [] ((.l 3 [] (.q 4 (.done)))))))) (by kernel_rfl) ?_
        refine q_move rfl rfl rfl rfl ?_
        refine q_move rfl rfl rfl rfl ?_
        refine l_buildSlice rfl rfl rfl rfl (run_build1 (us := [_]) Try.underlying56 Try.sizeOf49 rfl Try.zeroValue49 rfl rfl rfl) ?_
        intro vh
        refine ag_nil ?_
        refine l_append (sz := 1) rfl rfl rfl rfl rfl Try.underlying56 Try.typeInfo49 rfl rfl rfl (by decide) (by with_reducible (repeat (first | exact Take.here | apply Take.there))) (by with_reducible (repeat (first | exact Take.here | apply Take.there))) (by rfl) (ys := [(an, cn, wm j x3.length ++ wv j 40)]) (rds_some rdn_cells) (by simp [encS, wm_len, wv_len]) (by rfl) (encS_len) (encS_one) (by rw [List.length_map]; omega) (by show _ * 24 ≤ _; rw [List.length_map]; omega) ?_
        intro am2 cm2
        refine ag_nil ?_
        refine q_assign rfl rfl rfl rfl ?_
        refine r_done ?_
        refine s_keep [0, 5, 6] (e' := [(0, _), (5, _), (6, _)]) rfl ?_
        refine k_blk_n ?_
        refine k_then_n ?_
        refine c_plain (.q 0 (.q 1 (.q 2 (.done)))) (by kernel_rfl) ?_
        refine q_move rfl rfl rfl rfl ?_
        refine q_int rfl rfl rfl rfl rfl (b_add' _ (by (first | exact fits_i64 (by omega) (by omega) | exact fits_u64 (by omega) (by omega) | exact fits_u32 (by omega) (by omega) | exact fits_u8 (by omega) (by omega)))) ?_
        refine q_assign rfl rfl rfl rfl ?_
        refine r_done ?_
        refine k_then_n ?_
        refine s_big_push (f := f2) (L := M) (x := ((a2, c2, wm j x3.length), (an, cn, wm j x3.length ++ wv j 40))) (by (repeat (with_reducible apply Takes.cons; focus (with_reducible (repeat (first | exact Take.here | apply Take.there))))); exact Takes.nil) ?_
        rw [List.eraseIdx_zero, List.tail_drop, show M.map (·.2) ++ [(an, cn, wm j x3.length ++ wv j 40)] = (M ++ [((a2, c2, wm j x3.length), (an, cn, wm j x3.length ++ wv j 40))]).map (·.2) from by simp]
        refine s_eq 5 rfl (v' := .slice am2 ((M ++ [((a2, c2, wm j x3.length), (an, cn, wm j x3.length ++ wv j 40))]).map (·.2)).length cm2) (by simp) ?_
        refine loop_next (x := (j, M, am, cm)) ((j + 1, M ++ [((a2, c2, wm j x3.length), (an, cn, wm j x3.length ++ wv j 40))], am2, cm2)) ?_ ?_ ?_ ?_
        · exact ⟨by omega, mo_next hM hx rfl rfl⟩
        · show i - (j + 1) < i - j; omega
        · exact ⟨rfl, rfl, rfl, trivial⟩
        · (try simp only [List.cons_append, List.nil_append]); (repeat (with_reducible apply Takes.cons; focus (with_reducible (repeat (first | exact Take.here | apply Take.there))))); (repeat (first | exact Takes.nil | exact Takes.self | refine takes_drop2 ?_))
    · skip
      obtain rfl : j = i := by omega
      refine c_exit ?_
      refine k_then_exit ?_
      refine k_then_exit ?_
      refine k_blk_here ?_
      refine k_then_n ?_
      refine c_seq ?_
      refine c_seq ?_
      refine c_plain (.q 0 (.done)) (by kernel_rfl) ?_
      refine q_assign rfl rfl rfl rfl ?_
      refine r_done ?_
      refine s_keep [0, 5, 9] (e' := [(0, _), (5, _), (9, _)]) rfl ?_
      refine k_then_n ?_
      refine c_block ?_
      refine s_eq 9 rfl (v' := .int .i64 ((0 : Nat) : Int)) rfl ?_
      refine c_loop2 (α := Nat) (fun (p : Nat) => p ≤ j) (fun (p : Nat) => [(9, .int .i64 ((p : Nat) : Int))]) (fun (p : Nat) => []) (fun (p : Nat) => j - p) [0, 5] (er := [(0, _), (5, _)]) rfl (0) ?_ (by exact ⟨rfl, trivial⟩) (by (try simp only [Nat.add_zero, Nat.zero_add]); (repeat (with_reducible apply Takes.cons; focus (with_reducible (repeat (first | exact Take.here | apply Take.there))))); exact Takes.nil) ?_
      · exact Nat.zero_le _
      rintro p hp
      try simp only [List.cons_append, List.nil_append]
      have hml := hM.len
      refine c_seq ?_
      refine c_seq ?_
      refine c_plain (.q 0 (.q 1 (.q 2 (.q 3 (.done))))) (by kernel_rfl) ?_
      refine q_move rfl rfl rfl rfl ?_
      refine q_move rfl rfl rfl rfl ?_
      refine q_len rfl rfl rfl rfl Try.underlying56 ?_
      refine q_int rfl rfl rfl rfl rfl (b_lss _ _ _ _) ?_
      refine r_done ?_
      refine k_then_n ?_
      refine c_cond_p rfl (fun hlp => ?_) (fun hlp => ?_)
      · skip
        rw [List.length_map] at hlp
        obtain ⟨x, hx⟩ := get_lt (l := T) (i := p) (by omega)
        obtain ⟨y, hy⟩ := get_lt (l := M) (i := p) (by omega)
        obtain ⟨a2, c2, x3⟩ := x
        obtain ⟨⟨b1, b2, b3⟩, ⟨an, cn, l2⟩⟩ := y
        obtain ⟨hs1, hs2⟩ := hM.at_ p _ _ hx hy
        simp only [Prod.mk.injEq] at hs1 hs2
        obtain ⟨rfl, rfl, rfl⟩ := hs1
        subst hs2
        have hxb : x3.length ≤ 4000000000000 := hb2 _ (List.mem_of_getElem? hx)
        have hyM := List.mem_of_getElem? hy
        have hyp : (M.map (·.2))[p]? = some (an, cn, wm p x3.length ++ wv p 40) := by rw [List.getElem?_map, hy]; rfl
        have hll : (wm p x3.length ++ wv p 40).length = x3.length + 40 := by rw [List.length_append, wm_len, wv_len]
        obtain ⟨vb, vo, rfl, hrn⟩ := rds_get hr encS_len hx
        refine own_some (by with_reducible (repeat (first | exact Take.here | apply Take.there))) hyp fun ib io hao hil hcap => ?_
        subst hao
        refine s_f2 (M := M) (by with_reducible (repeat (first | exact Take.here | apply Take.there))) hy (by show (wm p x3.length ++ wv p 40).take (wm p x3.length).length = wm p x3.length; rw [List.take_left]) fun hfx => ?_
        refine c_skip ?_
        refine k_then_n ?_
        refine c_seq ?_
        refine c_block ?_
        refine c_seq ?_
        refine c_plain (.q 0 (.q 1 (.q 2 (.q 3 (.q 4 (.q 5 (.done))))))) (by kernel_rfl) ?_
        refine q_move rfl rfl rfl rfl ?_
        refine q_move rfl rfl rfl rfl ?_
        refine q_idx1 rfl rfl rfl rfl rfl Try.underlying56 Try.sizeOf49 (k := p) (by first | rfl | omega) (by omega) (by exact ⟨_, _, rfl⟩) ?_
        intro ib15 io16 hx; cases hx
        refine q_load rfl rfl rfl rfl Try.isAgg49 (by with_reducible (repeat (first | exact Take.here | apply Take.there))) (rd_flat1 (v := .slice b1 x3.length b2) hrn encS_len hx rfl) ?_
        refine q_len rfl rfl rfl rfl Try.underlying49 ?_
        refine q_assign rfl rfl rfl rfl ?_
        refine r_done ?_
        refine s_keep [0, 5, 9, 10] (e' := [(0, _), (5, _), (9, _), (10, _)]) rfl ?_
        refine k_then_n ?_
        refine c_seq ?_
        refine c_plain (.q 0 (.done)) (by kernel_rfl) ?_
        refine q_assign rfl rfl rfl rfl ?_
        refine r_done ?_
        refine k_then_n ?_
        refine c_block ?_
        refine s_eq 11 rfl (v' := .int .i64 ((0 : Nat) : Int)) rfl ?_
        refine c_loop2 (α := Nat) (fun (k : Nat) => k ≤ x3.length + 40) (fun (k : Nat) => [(11, .int .i64 ((k : Nat) : Int))]) (fun (k : Nat) => []) (fun (k : Nat) => x3.length + 40 - k) [0, 5, 9, 10] (er := [(0, _), (5, _), (9, _), (10, _)]) rfl (0) ?_ (by exact ⟨rfl, trivial⟩) (by (try simp only [Nat.add_zero, Nat.zero_add]); (repeat (with_reducible apply Takes.cons; focus (with_reducible (repeat (first | exact Take.here | apply Take.there))))); exact Takes.nil) ?_
        · exact Nat.zero_le _
        rintro k hk
        try simp only [List.cons_append, List.nil_append]
        refine c_seq ?_
        refine c_seq ?_
        refine c_plain (.q 0 (.q 1 (.q 2 (.q 3 (.q 4 (.q 5 (.q 6 (.done)))))))) (by kernel_rfl) ?_
        refine q_move rfl rfl rfl rfl ?_
        refine q_move rfl rfl rfl rfl ?_
        refine q_move rfl rfl rfl rfl ?_
        refine q_idx1 rfl rfl rfl rfl rfl Try.underlying56 Try.sizeOf49 (k := p) (by first | rfl | omega) (by omega) (by exact ⟨_, _, rfl⟩) ?_
        intro ib17 io18 hx; cases hx
        refine q_load_o1 rfl rfl rfl rfl Try.isAgg49 (by with_reducible (repeat (first | exact Take.here | apply Take.there))) (encS_len) (by first | rfl | exact (Nat.add_zero _).symm) (by exact hyp) (by rfl) ?_
        refine q_len rfl rfl rfl rfl Try.underlying49 ?_
        refine q_int rfl rfl rfl rfl rfl (b_lss _ _ _ _) ?_
        refine r_done ?_
        refine s_keep [0, 5, 9, 10, 11, 81] (e' := [(0, _), (5, _), (9, _), (10, _), (11, _), (81, _)]) rfl ?_
        refine k_then_n ?_
        refine c_cond_p rfl (fun hlk => ?_) (fun hlk => ?_)
        · skip
          have hlk : k < x3.length + 40 := by
            have h1 := hlk
            rw [show ((an, cn, wm p x3.length ++ wv p 40) : Lst).2.2.length = x3.length + 40 from hll] at h1
            omega
          refine c_skip ?_
          refine k_then_n ?_
          refine c_seq ?_
          refine c_block ?_
          refine c_seq ?_
          refine c_plain (.q 0 (.q 1 (.done))) (by kernel_rfl) ?_
          refine q_move rfl rfl rfl rfl ?_
          refine q_assign rfl rfl rfl rfl ?_
          refine r_done ?_
          refine k_then_n ?_
          refine c_seq ?_
          refine c_seq ?_
          refine c_plain (.q 0 (.q 1 (.q 2 (.done)))) (by kernel_rfl) ?_
          refine q_move rfl rfl rfl rfl ?_
          refine q_move rfl rfl rfl rfl ?_
          refine q_int rfl rfl rfl rfl rfl (b_geq _ _ _ _) ?_
          refine r_done ?_
          refine s_keep [0, 5, 9, 10, 11, 12, 87] (e' := [(0, _), (5, _), (9, _), (10, _), (11, _), (12, _), (87, _)]) rfl ?_
          refine k_then_n ?_
          refine c_cond_p rfl (fun hkm => ?_) (fun hkm => ?_)
          · skip
            have hz : (wm p x3.length ++ wv p 40)[k]? = some (-1 - (p : Int), (x3.length : Int) - 1 - (k : Int)) := wmv_hi (by omega) (by omega)
            obtain ⟨ab, ao_, rfl, hrn2⟩ := rds_get (rds_big (f := f2) hyM (rds_app2_l encT_len hfx.1.1 hfx.1.2)) encT_len hz
            refine c_plain (.q 0 (.q 1 (.q 2 (.q 3 (.q 4 (.done)))))) (by kernel_rfl) ?_
            refine q_move rfl rfl rfl rfl ?_
            refine q_int rfl rfl rfl rfl rfl (b_sub' _ (by (first | exact fits_i64 (by omega) (by omega) | exact fits_u64 (by omega) (by omega) | exact fits_u32 (by omega) (by omega) | exact fits_u8 (by omega) (by omega)))) ?_
            refine q_move rfl rfl rfl rfl ?_
            refine q_int rfl rfl rfl rfl rfl (b_sub' _ (by (first | exact fits_i64 (by omega) (by omega) | exact fits_u64 (by omega) (by omega) | exact fits_u32 (by omega) (by omega) | exact fits_u8 (by omega) (by omega)))) ?_
            refine q_assign rfl rfl rfl rfl ?_
            refine r_done ?_
            refine s_keep [0, 5, 9, 10, 11, 12] (e' := [(0, _), (5, _), (9, _), (10, _), (11, _), (12, _)]) rfl ?_
            refine k_then_n ?_
            refine c_seq ?_
            refine c_draw rfl (.q 0 (.q 1 (.q 2 (.q 3 (.q 4 (.q 5 (.q 6 (.q 7 (.q 8 (.q 9 (.q 10 (.q 11 (.q 12 (.q 13 (.q 14 (.q 15 (.q 16 (.q 17 (.q 18 (.q 19 (.q 20 (.q 21 (.q 22 (.q 23 (.q 24 (.q 25 (.q 26 (.q 27 (.q 28 (.q 29 (.q 30 (.q 31 (.q 32 (.q 33 (.done))))))))))))))))))))))))))))))))))) (by kernel_rfl) ?_
            refine q_move rfl rfl rfl rfl ?_
            refine q_move rfl rfl rfl rfl ?_
            refine q_idx1 rfl rfl rfl rfl rfl Try.underlying56 Try.sizeOf49 (k := p) (by first | rfl | omega) (by omega) (by exact ⟨_, _, rfl⟩) ?_
            intro ib19 io20 hx; cases hx
            refine q_load_o1 rfl rfl rfl rfl Try.isAgg49 (by with_reducible (repeat (first | exact Take.here | apply Take.there))) (encS_len) (by first | rfl | exact (Nat.add_zero _).symm) (by exact hyp) (by rfl) ?_
            refine q_move rfl rfl rfl rfl ?_
            refine q_idx rfl rfl rfl rfl rfl Try.underlying49 Try.sizeOf28 (k := k) (by first | rfl | omega) (by show k < (wm p x3.length ++ wv p 40).length; rw [hll]; omega) (by exact ⟨_, _, rfl⟩) ?_
            intro ib21 io22 hx; cases hx
            refine q_loadN rfl rfl rfl rfl Try.isAgg28 Try.sizeOf28 (by with_reducible (repeat (first | exact Take.here | apply Take.there))) (rdn_sub hrn2 encT_len hz) rfl ?_
            refine q_move rfl rfl rfl rfl ?_
            refine q_int rfl rfl rfl rfl rfl (b_sub' _ (by (first | exact fits_i64 (by omega) (by omega) | exact fits_u64 (by omega) (by omega) | exact fits_u32 (by omega) (by omega) | exact fits_u8 (by omega) (by omega)))) ?_
            refine q_move rfl rfl rfl rfl ?_
            refine q_build rfl rfl rfl rfl (vs := [_, _]) (run_buildS Try.underlying28 Try.zeroValue28 (ps := [(0, 1), (1, 1)]) ⟨rfl, Try.sizeOf3, rfl, Try.sizeOf3, trivial⟩ rfl) ?_
            refine q_neS rfl rfl rfl rfl rfl (by kernel_rfl) (eqc_struct Try.underlying28 (by kernel_rfl) (eqf_cons rfl Try.isAgg3 rfl rfl (eqc_int Try.underlying3) (eqf_last rfl Try.isAgg3 rfl rfl (eqc_int Try.underlying3)))) ?_
            refine s_eq 103 rfl (v' := .bool false) (by simp) ?_
            refine q_move rfl rfl rfl rfl ?_
            refine q_move rfl rfl rfl rfl ?_
            refine q_move rfl rfl rfl rfl ?_
            refine q_int rfl rfl rfl rfl rfl (b_lss _ _ _ _) ?_
            first | refine s_eq 107 rfl (v' := .bool false) (by congr 1; simp only [decide_eq_false_iff_not]; omega) ?_ | refine s_eq 107 rfl (v' := .bool true) (by congr 1; simp only [decide_eq_true_eq]; omega) ?_
            refine q_move rfl rfl rfl rfl ?_
            refine q_skip rfl rfl rfl rfl ?_
            refine q_skip rfl rfl rfl rfl ?_
            refine q_skip rfl rfl rfl rfl ?_
            refine q_skip rfl rfl rfl rfl ?_
            refine q_skip rfl rfl rfl rfl ?_
            refine q_skip rfl rfl rfl rfl ?_
            refine q_skip rfl rfl rfl rfl ?_
            refine q_skip rfl rfl rfl rfl ?_
            refine q_skip rfl rfl rfl rfl ?_
            refine q_skip rfl rfl rfl rfl ?_
            refine q_skip rfl rfl rfl rfl ?_
            refine q_skip rfl rfl rfl rfl ?_
            refine q_skip rfl rfl rfl rfl ?_
            refine q_skip rfl rfl rfl rfl ?_
            refine q_skip rfl rfl rfl rfl ?_
            first | refine q_pick_t rfl rfl rfl rfl rfl ?_ | refine q_pick_f rfl rfl rfl rfl rfl ?_
            first | refine q_pick_t rfl rfl rfl rfl rfl ?_ | refine q_pick_f rfl rfl rfl rfl rfl ?_
            refine r_done ?_
            refine s_keep [0, 5, 9, 10, 11, 105, 106, 107, 108, 109, 110, 111, 112, 113, 114, 115, 116, 117, 118, 119, 120, 121, 122, 123, 124, 125] (e' := [(0, _), (5, _), (9, _), (10, _), (11, _), (105, _), (106, _), (107, _), (108, _), (109, _), (110, _), (111, _), (112, _), (113, _), (114, _), (115, _), (116, _), (117, _), (118, _), (119, _), (120, _), (121, _), (122, _), (123, _), (124, _), (125, _)]) rfl ?_
            refine k_then_n ?_
            refine c_cond_f rfl ?_
            refine c_skip ?_
            refine k_blk_n ?_
            refine k_then_n ?_
            refine c_plain (.q 0 (.q 1 (.q 2 (.done)))) (by kernel_rfl) ?_
            refine q_move rfl rfl rfl rfl ?_
            refine q_int rfl rfl rfl rfl rfl (b_add' _ (by (first | exact fits_i64 (by omega) (by omega) | exact fits_u64 (by omega) (by omega) | exact fits_u32 (by omega) (by omega) | exact fits_u8 (by omega) (by omega)))) ?_
            refine q_assign rfl rfl rfl rfl ?_
            refine r_done ?_
            refine k_then_n ?_
            refine loop_next (x := k) (k + 1) ?_ ?_ ?_ ?_
            · show k + 1 ≤ x3.length + 40; omega
            · show x3.length + 40 - (k + 1) < x3.length + 40 - k; omega
            · exact ⟨rfl, rfl, rfl, rfl, rfl, trivial⟩
            · (try simp only [List.cons_append, List.nil_append]); (repeat (with_reducible apply Takes.cons; focus (with_reducible (repeat (first | exact Take.here | apply Take.there))))); (repeat (first | exact Takes.nil | exact Takes.self | refine takes_drop2 ?_))
          · skip
            have hz : (wm p x3.length ++ wv p 40)[k]? = some (-1 - (p : Int), (k : Int)) := wmv_lo (by omega)
            obtain ⟨ab, ao_, rfl, hrn2⟩ := rds_get (rds_big (f := f2) hyM (rds_app2_l encT_len hfx.1.1 hfx.1.2)) encT_len hz
            refine c_skip ?_
            refine k_then_n ?_
            refine c_seq ?_
            refine c_draw rfl (.q 0 (.q 1 (.q 2 (.q 3 (.q 4 (.q 5 (.q 6 (.q 7 (.q 8 (.q 9 (.q 10 (.q 11 (.q 12 (.q 13 (.q 14 (.q 15 (.q 16 (.q 17 (.q 18 (.q 19 (.q 20 (.q 21 (.q 22 (.q 23 (.q 24 (.q 25 (.q 26 (.q 27 (.q 28 (.q 29 (.q 30 (.q 31 (.q 32 (.q 33 (.done))))))))))))))))))))))))))))))))))) (by kernel_rfl) ?_
            refine q_move rfl rfl rfl rfl ?_
            refine q_move rfl rfl rfl rfl ?_
            refine q_idx1 rfl rfl rfl rfl rfl Try.underlying56 Try.sizeOf49 (k := p) (by first | rfl | omega) (by omega) (by exact ⟨_, _, rfl⟩) ?_
            intro ib23 io24 hx; cases hx
            refine q_load_o1 rfl rfl rfl rfl Try.isAgg49 (by with_reducible (repeat (first | exact Take.here | apply Take.there))) (encS_len) (by first | rfl | exact (Nat.add_zero _).symm) (by exact hyp) (by rfl) ?_
            refine q_move rfl rfl rfl rfl ?_
            refine q_idx rfl rfl rfl rfl rfl Try.underlying49 Try.sizeOf28 (k := k) (by first | rfl | omega) (by show k < (wm p x3.length ++ wv p 40).length; rw [hll]; omega) (by exact ⟨_, _, rfl⟩) ?_
            intro ib25 io26 hx; cases hx
            refine q_loadN rfl rfl rfl rfl Try.isAgg28 Try.sizeOf28 (by with_reducible (repeat (first | exact Take.here | apply Take.there))) (rdn_sub hrn2 encT_len hz) rfl ?_
            refine q_move rfl rfl rfl rfl ?_
            refine q_int rfl rfl rfl rfl rfl (b_sub' _ (by (first | exact fits_i64 (by omega) (by omega) | exact fits_u64 (by omega) (by omega) | exact fits_u32 (by omega) (by omega) | exact fits_u8 (by omega) (by omega)))) ?_
            refine q_move rfl rfl rfl rfl ?_
            refine q_build rfl rfl rfl rfl (vs := [_, _]) (run_buildS Try.underlying28 Try.zeroValue28 (ps := [(0, 1), (1, 1)]) ⟨rfl, Try.sizeOf3, rfl, Try.sizeOf3, trivial⟩ rfl) ?_
            refine q_neS rfl rfl rfl rfl rfl (by kernel_rfl) (eqc_struct Try.underlying28 (by kernel_rfl) (eqf_cons rfl Try.isAgg3 rfl rfl (eqc_int Try.underlying3) (eqf_last rfl Try.isAgg3 rfl rfl (eqc_int Try.underlying3)))) ?_
            refine s_eq 103 rfl (v' := .bool false) (by simp) ?_
            refine q_move rfl rfl rfl rfl ?_
            refine q_move rfl rfl rfl rfl ?_
            refine q_move rfl rfl rfl rfl ?_
            refine q_int rfl rfl rfl rfl rfl (b_lss _ _ _ _) ?_
            first | refine s_eq 107 rfl (v' := .bool false) (by congr 1; simp only [decide_eq_false_iff_not]; omega) ?_ | refine s_eq 107 rfl (v' := .bool true) (by congr 1; simp only [decide_eq_true_eq]; omega) ?_
            refine q_move rfl rfl rfl rfl ?_
            refine q_move rfl rfl rfl rfl ?_
            refine q_move rfl rfl rfl rfl ?_
            refine q_idx1 rfl rfl rfl rfl rfl Try.underlying56 Try.sizeOf49 (k := p) (by first | rfl | omega) (by omega) (by exact ⟨_, _, rfl⟩) ?_
            intro ib27 io28 hx; cases hx
            refine q_load rfl rfl rfl rfl Try.isAgg49 (by with_reducible (repeat (first | exact Take.here | apply Take.there))) (rd_flat1 (v := .slice b1 x3.length b2) hrn encS_len hx rfl) ?_
            have hz1 : (wm p x3.length)[k]? = some (-1 - (p : Int), (k : Int)) := wm_get (by omega)
            obtain ⟨eb, eo, rfl, hrn3⟩ := rds_get (rds_big (f := f2) hyM (rds_app2_r encT_len (by show (wm p x3.length ++ wv p 40).take (wm p x3.length).length = wm p x3.length; rw [List.take_left]) hfx.2.1 hfx.2.2)) encT_len hz1
            refine q_move rfl rfl rfl rfl ?_
            refine q_idx rfl rfl rfl rfl rfl Try.underlying49 Try.sizeOf28 (k := k) (by first | rfl | omega) (by omega) (by exact ⟨_, _, rfl⟩) ?_
            intro ib29 io30 hx; cases hx
            refine q_loadN rfl rfl rfl rfl Try.isAgg28 Try.sizeOf28 (by with_reducible (repeat (first | exact Take.here | apply Take.there))) (rdn_sub hrn3 encT_len hz1) rfl ?_
            refine q_move rfl rfl rfl rfl ?_
            refine q_move rfl rfl rfl rfl ?_
            refine q_idx1 rfl rfl rfl rfl rfl Try.underlying56 Try.sizeOf49 (k := p) (by first | rfl | omega) (by omega) (by exact ⟨_, _, rfl⟩) ?_
            intro ib31 io32 hx; cases hx
            refine q_load_o1 rfl rfl rfl rfl Try.isAgg49 (by with_reducible (repeat (first | exact Take.here | apply Take.there))) (encS_len) (by first | rfl | exact (Nat.add_zero _).symm) (by exact hyp) (by rfl) ?_
            refine q_move rfl rfl rfl rfl ?_
            refine q_idx rfl rfl rfl rfl rfl Try.underlying49 Try.sizeOf28 (k := k) (by first | rfl | omega) (by show k < (wm p x3.length ++ wv p 40).length; rw [hll]; omega) (by exact ⟨_, _, rfl⟩) ?_
            intro ib33 io34 hx; cases hx
            refine q_loadN rfl rfl rfl rfl Try.isAgg28 Try.sizeOf28 (by with_reducible (repeat (first | exact Take.here | apply Take.there))) (rdn_sub hrn2 encT_len hz) rfl ?_
            refine q_neS rfl rfl rfl rfl rfl (by kernel_rfl) (eqc_struct Try.underlying28 (by kernel_rfl) (eqf_cons rfl Try.isAgg3 rfl rfl (eqc_int Try.underlying3) (eqf_last rfl Try.isAgg3 rfl rfl (eqc_int Try.underlying3)))) ?_
            refine s_eq 123 rfl (v' := .bool false) (by simp) ?_
            first | refine q_pick_t rfl rfl rfl rfl rfl ?_ | refine q_pick_f rfl rfl rfl rfl rfl ?_
            first | refine q_pick_t rfl rfl rfl rfl rfl ?_ | refine q_pick_f rfl rfl rfl rfl rfl ?_
            refine r_done ?_
            refine s_keep [0, 5, 9, 10, 11, 105, 106, 107, 108, 109, 110, 111, 112, 113, 114, 115, 116, 117, 118, 119, 120, 121, 122, 123, 124, 125] (e' := [(0, _), (5, _), (9, _), (10, _), (11, _), (105, _), (106, _), (107, _), (108, _), (109, _), (110, _), (111, _), (112, _), (113, _), (114, _), (115, _), (116, _), (117, _), (118, _), (119, _), (120, _), (121, _), (122, _), (123, _), (124, _), (125, _)]) rfl ?_
            refine k_then_n ?_
            refine c_cond_f rfl ?_
            refine c_skip ?_
            refine k_blk_n ?_
            refine k_then_n ?_
            refine c_plain (.q 0 (.q 1 (.q 2 (.done)))) (by kernel_rfl) ?_
            refine q_move rfl rfl rfl rfl ?_
            refine q_int rfl rfl rfl rfl rfl (b_add' _ (by (first | exact fits_i64 (by omega) (by omega) | exact fits_u64 (by omega) (by omega) | exact fits_u32 (by omega) (by omega) | exact fits_u8 (by omega) (by omega)))) ?_
            refine q_assign rfl rfl rfl rfl ?_
            refine r_done ?_
            refine k_then_n ?_
            refine loop_next (x := k) (k + 1) ?_ ?_ ?_ ?_
            · show k + 1 ≤ x3.length + 40; omega
            · show x3.length + 40 - (k + 1) < x3.length + 40 - k; omega
            · exact ⟨rfl, rfl, rfl, rfl, rfl, trivial⟩
            · (try simp only [List.cons_append, List.nil_append]); (repeat (with_reducible apply Takes.cons; focus (with_reducible (repeat (first | exact Take.here | apply Take.there))))); (repeat (first | exact Takes.nil | exact Takes.self | refine takes_drop2 ?_))
        · skip
          refine c_exit ?_
          refine k_then_exit ?_
          refine k_then_exit ?_
          refine k_blk_here ?_
          refine k_blk_n ?_
          refine k_then_n ?_
          refine c_plain (.q 0 (.q 1 (.q 2 (.done)))) (by kernel_rfl) ?_
          refine q_move rfl rfl rfl rfl ?_
          refine q_int rfl rfl rfl rfl rfl (b_add' _ (by (first | exact fits_i64 (by omega) (by omega) | exact fits_u64 (by omega) (by omega) | exact fits_u32 (by omega) (by omega) | exact fits_u8 (by omega) (by omega)))) ?_
          refine q_assign rfl rfl rfl rfl ?_
          refine r_done ?_
          refine s_keep [0, 5, 9] (e' := [(0, _), (5, _), (9, _)]) rfl ?_
          refine k_then_n ?_
          refine loop_next (x := p) (p + 1) ?_ ?_ ?_ ?_
          · show p + 1 ≤ j; omega
          · show j - (p + 1) < j - p; omega
          · exact ⟨rfl, rfl, rfl, trivial⟩
          · (try simp only [List.cons_append, List.nil_append]); (repeat (with_reducible apply Takes.cons; focus (with_reducible (repeat (first | exact Take.here | apply Take.there))))); (repeat (first | exact Takes.nil | exact Takes.self | refine takes_drop2 ?_))
      · skip
        refine c_exit ?_
        refine k_then_exit ?_
        refine k_then_exit ?_
        refine k_blk_here ?_
        refine k_then_n ?_
        refine c_seq ?_
        refine c_plain (.q 0 (.done)) (by kernel_rfl) ?_
        refine q_assign rfl rfl rfl rfl ?_
        refine r_done ?_
        refine s_keep [2] (e' := [(2, _)]) rfl ?_
        refine k_then_n ?_
        refine c_ret ?_
        refine ret1 rfl rfl (()) (by rfl) (by trivial) ?_
        (repeat (with_reducible apply Takes.cons; focus (with_reducible (repeat (first | exact Take.here | apply Take.there))))); (repeat (first | exact Takes.nil | exact Takes.self | refine takes_drop2 ?_))
end Go.Ab.HpT
