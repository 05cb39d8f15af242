/- Package vclock: Meet, Copy, Equal, Get; fit, made, joined. -/
import Derived.Test.YtjoacllimldfkaaVc2
import Derived.Test.YtjoacllimldfkaaEngP
set_option linter.unusedVariables false
set_option linter.unusedSimpArgs false
set_option maxRecDepth 100000
namespace Go.Ab.Vc
open Go Go.Proofs Go.Ab
theorem g_out {l : List Int} {i : Nat} (h : l.length ≤ i) : l.getD i 0 = 0 := by simp only [List.getD_eq_getElem?_getD]; rw [List.getElem?_eq_none h]; rfl
/-- What is met so far, up to thread i. -/
def mtI (l m : List Int) (i : Nat) : List Int := (List.range l.length).map fun k => if k < i then min (l.getD k 0) (m.getD k 0) else l.getD k 0
theorem mtI_len (l m : List Int) (i : Nat) : (mtI l m i).length = l.length := by simp [mtI]
theorem mtI_get {l m : List Int} {i k : Nat} (h : k < l.length) : (mtI l m i)[k]? = some (if k < i then min (l.getD k 0) (m.getD k 0) else l.getD k 0) := by
  simp only [mtI, List.getElem?_map, List.getElem?_range h, Option.map_some]
theorem mtI_zero (l m : List Int) : mtI l m 0 = l := by
  apply List.ext_getElem?
  intro k
  by_cases h : k < l.length
  · obtain ⟨x, hx⟩ := get_lt h
    rw [mtI_get h, if_neg (by omega), hx, getD_mem hx]
  · rw [List.getElem?_eq_none (by rw [mtI_len]; omega), List.getElem?_eq_none (by omega)]
theorem mtI_next {l m : List Int} {i : Nat} (hi : i < l.length) : (mtI l m i).set i (min (l.getD i 0) (m.getD i 0)) = mtI l m (i + 1) := by
  apply List.ext_getElem?
  intro k
  by_cases h : k < l.length
  · by_cases hk : k = i
    · subst hk
      rw [List.getElem?_set_self (by rw [mtI_len]; omega), mtI_get h, if_pos (by omega)]
    · rw [List.getElem?_set_ne (Ne.symm hk), mtI_get h, mtI_get h]
      by_cases h2 : k < i
      · rw [if_pos h2, if_pos (by omega)]
      · rw [if_neg h2, if_neg (by omega)]
  · rw [List.getElem?_eq_none (by rw [List.length_set, mtI_len]; omega), List.getElem?_eq_none (by rw [mtI_len]; omega)]
/-- The meet of two. -/
def mt (l m : List Int) : List Int := tr (mtI l m l.length)
theorem mt_g {l m : List Int} (hl : CV l) (hm : CV m) (i : Nat) : (mt l m).getD i 0 = min (l.getD i 0) (m.getD i 0) := by
  rw [mt, tr_g]
  by_cases h : i < l.length
  · rw [getD_mem (mtI_get h), if_pos h]
  · rw [g_out (by rw [mtI_len]; omega), g_out (l := l) (by omega)]
    have := g_rng hm.rng (by decide) i
    omega
theorem mt_cv {l m : List Int} (hl : CV l) (hm : CV m) : CV (mt l m) := by
  refine tr_cv (by rw [mtI_len]; exact hl.len) fun x hx => ?_
  obtain ⟨i, -, rfl⟩ := List.mem_map.1 hx
  have a := g_rng hl.rng (by decide) i
  have b := g_rng hm.rng (by decide) i
  split <;> omega
def mtA (l : List Int) (os : List K) : List Int := os.foldl (fun l x => mt l x.2.2.2) l
theorem mtA_next {l : List Int} {os : List K} {i : Nat} {x : K} (h : os[i]? = some x) : mtA l (os.take (i + 1)) = mt (mtA l (os.take i)) x.2.2.2 := by
  rw [List.take_add_one, h, mtA, mtA, List.foldl_append]; rfl
theorem leq_iff {l m : List Int} (hl : CV l) (hm : CV m) : LeqL l m ↔ ∀ i, l.getD i 0 ≤ m.getD i 0 := by
  constructor
  · intro h i
    by_cases hi : i < l.length
    · exact h.2 i hi
    · rw [g_out (l := l) (by omega)]; exact (g_rng hm.rng (by decide) i).1
  · intro h
    refine ⟨?_, fun i _ => h i⟩
    rcases Nat.lt_or_ge m.length l.length with h1 | h1
    · rcases hl.tr with e | e
      · rw [e] at h1; exact absurd h1 (by simp)
      · have h2 := h (l.length - 1)
        rw [g_out (l := m) (by omega)] at h2
        have := (g_rng hl.rng (by decide) (l.length - 1)).1
        omega
    · exact h1
/-- The clocks that fit. -/
def fitL (xs : List Int) : List Int := (xs.take 300).map (fun x => x % 281474976710656)
theorem fit_len (xs : List Int) : (fitL xs).length ≤ 300 := by simp [fitL]; omega
theorem fit_rng (xs : List Int) : ∀ x ∈ fitL xs, 0 ≤ x ∧ x ≤ maxC := fun x hx => by
  obtain ⟨y, -, rfl⟩ := List.mem_map.1 hx
  simp only [maxC]; omega
theorem fit_cv (xs : List Int) : CV (tr (fitL xs)) := tr_cv (Nat.le_trans (fit_len xs) (by decide)) (fit_rng xs)
theorem get_spec (b : Nat) (l : List Int) (ao : Option Addr) (n cap : Nat) (hn : l.length = n) (i : Nat) : Spec Try.prog 13 [.pointer (some ⟨b, 0, none⟩), .int .i64 ((i : Nat) : Int)] [cells b 0 [.slice ao n cap], own 1 encU ao cap l] (fun (_ : Unit) => .int .u64 (l.getD i 0)) (fun _ => True) (fun _ => [cells b 0 [.slice ao n cap], own 1 encU ao cap l]) := by
  refine spec_mk (n := 27) Try.func13 rfl rfl rfl ?_
  intro Γ w0
  simp only [argE, List.cons_append, List.nil_append, Nat.zero_add, Nat.reduceAdd]
  refine c_seq ?_
  refine c_plain (.q 0 (.done)) (by kernel_rfl) ?_
  refine q_assign rfl rfl rfl rfl ?_
  refine r_done ?_
  refine k_then_n ?_
  refine c_seq ?_
  refine c_seq ?_
  refine c_plain (.q 0 (.q 1 (.q 2 (.q 3 (.q 4 (.q 5 (.q 6 (.q 7 (.q 8 (.q 9 (.q 10 (.q 11 (.q 12 (.q 13 (.q 14 (.done)))))))))))))))) (by kernel_rfl) ?_
  refine q_move rfl rfl rfl rfl ?_
  refine q_eq_nil rfl rfl rfl rfl Try.underlying25 ?_
  refine s_eq 6 rfl (v' := .bool false) rfl ?_
  refine q_move rfl rfl rfl rfl ?_
  refine q_move rfl rfl rfl rfl ?_
  refine q_int rfl rfl rfl rfl rfl (b_lss _ _ _ _) ?_
  refine q_pick_f rfl rfl rfl rfl rfl ?_
  refine q_move rfl rfl rfl rfl ?_
  refine s_bool_p 11 rfl (fun hg => by exfalso; omega) (fun hg => ?_)
  refine q_move rfl rfl rfl rfl ?_
  refine q_move rfl rfl rfl rfl ?_
  refine q_nil_p rfl rfl rfl rfl ?_
  refine q_field (k := 0) rfl rfl rfl rfl Try.underlying64 rfl Try.sizeOf23 rfl ?_
  refine q_load_c (j := 0) rfl rfl rfl rfl Try.isAgg23 (by with_reducible (repeat (first | exact Take.here | apply Take.there))) (by first | rfl | exact (Nat.add_zero _).symm) (by rfl) ?_
  refine q_len rfl rfl rfl rfl Try.underlying23 ?_
  refine q_int rfl rfl rfl rfl rfl (b_geq _ _ _ _) ?_
  refine q_pick_f rfl rfl rfl rfl rfl ?_
  refine r_done ?_
  refine s_keep [0, 1, 19] (e' := [(0, _), (1, _), (19, _)]) rfl ?_
  refine k_then_n ?_
  refine c_cond_p rfl (fun hge => ?_) (fun hge => ?_)
  · skip
    refine c_seq ?_
    refine c_plain (.q 0 (.done)) (by kernel_rfl) ?_
    refine q_assign rfl rfl rfl rfl ?_
    refine r_done ?_
    refine k_then_n ?_
    refine c_ret ?_
    refine k_then_ret ?_
    refine ret1 rfl rfl (()) (by rw [g_out (by omega)]) (by trivial) ?_
    (repeat ((with_reducible apply Takes.cons); focus (first | (with_reducible (repeat (first | exact Take.here | apply Take.there)); done) | (repeat (first | exact Take.here | apply Take.there))))); (repeat (first | exact Takes.nil | exact Takes.self | refine takes_drop2 ?_))
  · skip
    obtain ⟨x, hx⟩ := get_lt (l := l) (i := i) (by omega)
    refine c_skip ?_
    refine k_then_n ?_
    refine c_seq ?_
    refine c_plain (.q 0 (.q 1 (.q 2 (.q 3 (.q 4 (.q 5 (.q 6 (.q 7 (.done))))))))) (by kernel_rfl) ?_
    refine q_move rfl rfl rfl rfl ?_
    refine q_nil_p rfl rfl rfl rfl ?_
    refine q_field (k := 0) rfl rfl rfl rfl Try.underlying64 rfl Try.sizeOf23 rfl ?_
    refine q_load_c (j := 0) rfl rfl rfl rfl Try.isAgg23 (by with_reducible (repeat (first | exact Take.here | apply Take.there))) (by first | rfl | exact (Nat.add_zero _).symm) (by rfl) ?_
    refine q_move rfl rfl rfl rfl ?_
    refine q_idxO (sz := 0) (k := i) (enc := encU) (xs := l) rfl rfl rfl rfl rfl Try.underlying23 Try.sizeOf30 hx (by first | rfl | omega) (by omega) (by with_reducible (repeat (first | exact Take.here | apply Take.there))) ?_
    intro ib25 io25 ha25 hl25 hc25
    refine q_load_O (v := (.int .u64 x)) (j := 0) (k' := i) (enc := encU) (off := io25) rfl rfl rfl rfl Try.isAgg30 ha25 encU_len hx (by with_reducible (repeat (first | exact Take.here | apply Take.there))) (by first | rfl | exact (Nat.add_zero _).symm | omega) (by rfl) ?_
    refine q_assign rfl rfl rfl rfl ?_
    refine r_done ?_
    refine s_keep [4] (e' := [(4, _)]) rfl ?_
    refine k_then_n ?_
    refine c_ret ?_
    refine ret1 rfl rfl (()) (by rw [getD_mem hx]) (by trivial) ?_
    (repeat ((with_reducible apply Takes.cons); focus (first | (with_reducible (repeat (first | exact Take.here | apply Take.there)); done) | (repeat (first | exact Take.here | apply Take.there))))); (repeat (first | exact Takes.nil | exact Takes.self | refine takes_drop2 ?_))

theorem len_spec (b : Nat) (l : List Int) (ao : Option Addr) (n cap : Nat) (hn : l.length = n) : Spec Try.prog 20 [.pointer (some ⟨b, 0, none⟩)] [cells b 0 [.slice ao n cap], own 1 encU ao cap l] (fun (_ : Unit) => .int .i64 ((n : Nat) : Int)) (fun _ => True) (fun _ => [cells b 0 [.slice ao n cap], own 1 encU ao cap l]) := by
  refine spec_mk (n := 10) Try.func20 rfl rfl rfl ?_
  intro Γ w0
  simp only [argE, List.cons_append, List.nil_append, Nat.zero_add, Nat.reduceAdd]
  refine c_seq ?_
  refine c_plain (.q 0 (.done)) (by kernel_rfl) ?_
  refine q_assign rfl rfl rfl rfl ?_
  refine r_done ?_
  refine k_then_n ?_
  refine c_seq ?_
  refine c_seq ?_
  refine c_plain (.q 0 (.q 1 (.done))) (by kernel_rfl) ?_
  refine q_move rfl rfl rfl rfl ?_
  refine q_eq_nil rfl rfl rfl rfl Try.underlying25 ?_
  refine s_eq 4 rfl (v' := .bool false) rfl ?_
  refine r_done ?_
  refine k_then_n ?_
  refine c_cond_f rfl ?_
  refine c_skip ?_
  refine k_then_n ?_
  refine c_seq ?_
  refine c_plain (.q 0 (.q 1 (.q 2 (.q 3 (.q 4 (.q 5 (.done))))))) (by kernel_rfl) ?_
  refine q_move rfl rfl rfl rfl ?_
  refine q_nil_p rfl rfl rfl rfl ?_
  refine q_field (k := 0) rfl rfl rfl rfl Try.underlying64 rfl Try.sizeOf23 rfl ?_
  refine q_load_c (j := 0) rfl rfl rfl rfl Try.isAgg23 (by with_reducible (repeat (first | exact Take.here | apply Take.there))) (by first | rfl | exact (Nat.add_zero _).symm) (by rfl) ?_
  refine q_len rfl rfl rfl rfl Try.underlying23 ?_
  refine q_assign rfl rfl rfl rfl ?_
  refine r_done ?_
  refine s_keep [2] (e' := [(2, _)]) rfl ?_
  refine k_then_n ?_
  refine c_ret ?_
  refine ret1 rfl rfl (()) (by first | rfl | (first | rfl | (congr 1; done) | (congr 1 <;> first | rfl | omega | (simp; done) | (simp; omega)))) (by trivial) ?_
  (repeat ((with_reducible apply Takes.cons); focus (first | (with_reducible (repeat (first | exact Take.here | apply Take.there)); done) | (repeat (first | exact Take.here | apply Take.there))))); (repeat (first | exact Takes.nil | exact Takes.self | refine takes_drop2 ?_))

theorem at_spec (xs : List Int) (ao : Option Addr) (n c : Nat) (A : HProp) (hn : xs.length = n) (hr : RdS A ao (xs.flatMap encU)) (i : Nat) : Spec Try.prog 14 [.slice ao n c, .int .i64 ((i : Nat) : Int)] [A] (fun (_ : Unit) => .int .u64 (xs.getD i 0)) (fun _ => True) (fun _ => [A]) := by
  refine spec_mk (n := 13) Try.func14 rfl rfl rfl ?_
  intro Γ w0
  simp only [argE, List.cons_append, List.nil_append, Nat.zero_add, Nat.reduceAdd]
  refine c_seq ?_
  refine c_plain (.q 0 (.done)) (by kernel_rfl) ?_
  refine q_assign rfl rfl rfl rfl ?_
  refine r_done ?_
  refine k_then_n ?_
  refine c_seq ?_
  refine c_seq ?_
  refine c_plain (.q 0 (.q 1 (.q 2 (.q 3 (.done))))) (by kernel_rfl) ?_
  refine q_move rfl rfl rfl rfl ?_
  refine q_move rfl rfl rfl rfl ?_
  refine q_len rfl rfl rfl rfl Try.underlying23 ?_
  refine q_int rfl rfl rfl rfl rfl (b_geq _ _ _ _) ?_
  refine r_done ?_
  refine s_keep [0, 1, 8] (e' := [(0, _), (1, _), (8, _)]) rfl ?_
  refine k_then_n ?_
  refine c_cond_p rfl (fun hge => ?_) (fun hge => ?_)
  · skip
    refine c_seq ?_
    refine c_plain (.q 0 (.done)) (by kernel_rfl) ?_
    refine q_assign rfl rfl rfl rfl ?_
    refine r_done ?_
    refine k_then_n ?_
    refine c_ret ?_
    refine k_then_ret ?_
    refine ret1 rfl rfl (()) (by rw [g_out (by omega)]) (by trivial) ?_
    (repeat ((with_reducible apply Takes.cons); focus (first | (with_reducible (repeat (first | exact Take.here | apply Take.there)); done) | (repeat (first | exact Take.here | apply Take.there))))); (repeat (first | exact Takes.nil | exact Takes.self | refine takes_drop2 ?_))
  · skip
    obtain ⟨x, hx⟩ := get_lt (l := xs) (i := i) (by omega)
    refine c_skip ?_
    refine k_then_n ?_
    refine c_seq ?_
    refine c_plain (.q 0 (.q 1 (.q 2 (.q 3 (.q 4 (.done)))))) (by kernel_rfl) ?_
    refine q_move rfl rfl rfl rfl ?_
    refine q_move rfl rfl rfl rfl ?_
    refine q_idxR (sz := 0) (k := i) rfl rfl rfl rfl rfl Try.underlying23 Try.sizeOf30 (hr) hx encU_len (by first | rfl | omega) (by omega) ?_
    intro ib11 io11 _ hd11
    refine q_load rfl rfl rfl rfl Try.isAgg30 (by with_reducible (repeat (first | exact Take.here | apply Take.there))) (hd11 0 (.int .u64 x) rfl) ?_
    refine q_assign rfl rfl rfl rfl ?_
    refine r_done ?_
    refine s_keep [4] (e' := [(4, _)]) rfl ?_
    refine k_then_n ?_
    refine c_ret ?_
    refine ret1 rfl rfl (()) (by rw [getD_mem hx]) (by trivial) ?_
    (repeat ((with_reducible apply Takes.cons); focus (first | (with_reducible (repeat (first | exact Take.here | apply Take.there)); done) | (repeat (first | exact Take.here | apply Take.there))))); (repeat (first | exact Takes.nil | exact Takes.self | refine takes_drop2 ?_))

theorem trimmed_spec (xs : List Int) (ao : Option Addr) (n c : Nat) (A : HProp) (hn : xs.length = n) (hr : RdS A ao (xs.flatMap encU)) (hnc : n ≤ c) (hb : n ≤ 4000000000) : Spec Try.prog 19 [.slice ao n c] [A] (fun (_ : Unit) => .slice ao (tr xs).length c) (fun _ => True) (fun _ => [A]) := by
  refine spec_mk (n := 21) Try.func19 rfl rfl rfl ?_
  intro Γ w0
  simp only [argE, List.cons_append, List.nil_append, Nat.zero_add, Nat.reduceAdd]
  refine c_seq ?_
  refine c_plain (.q 0 (.done)) (by kernel_rfl) ?_
  refine q_assign rfl rfl rfl rfl ?_
  refine r_done ?_
  refine k_then_n ?_
  refine c_seq ?_
  refine c_plain (.q 0 (.q 1 (.q 2 (.done)))) (by kernel_rfl) ?_
  refine q_move rfl rfl rfl rfl ?_
  refine q_len rfl rfl rfl rfl Try.underlying23 ?_
  refine q_assign rfl rfl rfl rfl ?_
  refine r_done ?_
  refine k_then_n ?_
  refine c_seq ?_
  refine c_block ?_
  refine c_loop2 (α := Nat) (fun (k : Nat) => trN xs xs.length = trN xs k ∧ k ≤ n) (fun (k : Nat) => [(3, .int .i64 ((k : Nat) : Int))]) (fun (k : Nat) => []) (fun (k : Nat) => k) [0] (er := [(0, _)]) rfl (n) ?_ (by exact ⟨rfl, trivial⟩) (by (try dsimp only); (try simp only [Nat.add_zero, Nat.zero_add]); (repeat ((with_reducible apply Takes.cons); focus (first | (with_reducible (repeat (first | exact Take.here | apply Take.there)); done) | (repeat (first | exact Take.here | apply Take.there))))); exact Takes.nil) ?_
  · exact ⟨by rw [hn], Nat.le_refl _⟩
  rintro k ⟨hk, hkn⟩
  try simp only [List.cons_append, List.nil_append]
  refine c_seq ?_
  refine c_seq ?_
  refine c_plain (.q 0 (.q 1 (.q 2 (.q 3 (.q 4 (.q 5 (.q 6 (.q 7 (.q 8 (.q 9 (.done))))))))))) (by kernel_rfl) ?_
  refine q_move rfl rfl rfl rfl ?_
  refine q_int rfl rfl rfl rfl rfl (b_gtr _ _ _ _) ?_
  refine q_move rfl rfl rfl rfl ?_
  refine s_bool_p 8 rfl (fun hk0 => ?_) (fun hk0 => ?_)
  · skip
    obtain ⟨k, rfl⟩ : ∃ j, k = j + 1 := ⟨k - 1, by omega⟩
    obtain ⟨x, hx⟩ := get_lt (l := xs) (i := k) (by omega)
    refine q_move rfl rfl rfl rfl ?_
    refine q_move rfl rfl rfl rfl ?_
    refine q_int rfl rfl rfl rfl rfl (b_sub' _ (by (first | exact fits_i64 (by omega) (by omega) | exact fits_u64 (by omega) (by omega) | exact fits_u32 (by omega) (by omega) | exact fits_u8 (by omega) (by omega)))) ?_
    refine s_eq 11 rfl (v' := .int .i64 ((k : Nat) : Int)) (by congr 1; omega) ?_
    refine q_idxR (sz := 0) (k := k) rfl rfl rfl rfl rfl Try.underlying23 Try.sizeOf30 (hr) hx encU_len (by first | rfl | omega) (by omega) ?_
    intro ib12 io12 _ hd12
    refine q_load rfl rfl rfl rfl Try.isAgg30 (by with_reducible (repeat (first | exact Take.here | apply Take.there))) (hd12 0 (.int .u64 x) rfl) ?_
    refine q_int rfl rfl rfl rfl rfl (b_eql _ _ _ _) ?_
    refine q_pick_t rfl rfl rfl rfl rfl ?_
    refine r_done ?_
    refine k_then_n ?_
    refine c_cond_p rfl (fun hz => ?_) (fun hz => ?_)
    · skip
      have hz2 : trN xs (k + 1) = trN xs k := by rw [trN, if_pos (by rw [getD_mem hx]; exact hz)]
      refine c_skip ?_
      refine k_then_n ?_
      refine c_block ?_
      refine c_plain (.q 0 (.q 1 (.q 2 (.done)))) (by kernel_rfl) ?_
      refine q_move rfl rfl rfl rfl ?_
      refine q_int rfl rfl rfl rfl rfl (b_sub' _ (by (first | exact fits_i64 (by omega) (by omega) | exact fits_u64 (by omega) (by omega) | exact fits_u32 (by omega) (by omega) | exact fits_u8 (by omega) (by omega)))) ?_
      refine s_eq 17 rfl (v' := .int .i64 ((k : Nat) : Int)) (by congr 1; omega) ?_
      refine q_assign rfl rfl rfl rfl ?_
      refine r_done ?_
      refine s_keep [0, 3, 9, 10, 11, 12, 13, 14] (e' := [(0, _), (3, _), (9, _), (10, _), (11, _), (12, _), (13, _), (14, _)]) rfl ?_
      refine k_blk_n ?_
      refine k_then_n ?_
      refine loop_next (x := k + 1) (k) ?_ ?_ ?_ ?_
      · exact ⟨by rw [hk, hz2], by omega⟩
      · show k < k + 1; omega
      · exact ⟨rfl, rfl, trivial⟩
      · (try simp only [List.cons_append, List.nil_append]); (repeat ((with_reducible apply Takes.cons); focus (first | (with_reducible (repeat (first | exact Take.here | apply Take.there)); done) | (repeat (first | exact Take.here | apply Take.there))))); (repeat (first | exact Takes.nil | exact Takes.self | refine takes_drop2 ?_))
    · skip
      have hz2 : trN xs (k + 1) = k + 1 := by rw [trN, if_neg (by rw [getD_mem hx]; exact hz)]
      refine c_exit ?_
      refine k_then_exit ?_
      refine k_then_exit ?_
      refine k_blk_here ?_
      refine k_then_n ?_
      refine c_seq ?_
      refine c_plain (.q 0 (.q 1 (.q 2 (.q 3 (.done))))) (by kernel_rfl) ?_
      refine q_move rfl rfl rfl rfl ?_
      refine q_move rfl rfl rfl rfl ?_
      refine q_cut_hi (h' := k + 1) rfl rfl rfl rfl rfl Try.underlying23 Try.sizeOf30 (by first | rfl | omega) (by omega) ?_
      refine q_assign rfl rfl rfl rfl ?_
      refine r_done ?_
      refine s_keep [2] (e' := [(2, _)]) rfl ?_
      refine k_then_n ?_
      refine c_ret ?_
      refine ret1 rfl rfl (()) (by rw [tr_len, hk, hz2]) (by trivial) ?_
      (repeat ((with_reducible apply Takes.cons); focus (first | (with_reducible (repeat (first | exact Take.here | apply Take.there)); done) | (repeat (first | exact Take.here | apply Take.there))))); (repeat (first | exact Takes.nil | exact Takes.self | refine takes_drop2 ?_))
  · skip
    obtain rfl : k = 0 := by omega
    refine q_skip rfl rfl rfl rfl ?_
    refine q_skip rfl rfl rfl rfl ?_
    refine q_skip rfl rfl rfl rfl ?_
    refine q_skip rfl rfl rfl rfl ?_
    refine q_skip rfl rfl rfl rfl ?_
    refine q_skip rfl rfl rfl rfl ?_
    refine q_pick_f rfl rfl rfl rfl rfl ?_
    refine r_done ?_
    refine k_then_n ?_
    refine c_cond_f rfl ?_
    refine c_exit ?_
    refine k_then_exit ?_
    refine k_then_exit ?_
    refine k_blk_here ?_
    refine k_then_n ?_
    refine c_seq ?_
    refine c_plain (.q 0 (.q 1 (.q 2 (.q 3 (.done))))) (by kernel_rfl) ?_
    refine q_move rfl rfl rfl rfl ?_
    refine q_move rfl rfl rfl rfl ?_
    refine q_cut_hi (h' := 0) rfl rfl rfl rfl rfl Try.underlying23 Try.sizeOf30 (by first | rfl | omega) (by omega) ?_
    refine q_assign rfl rfl rfl rfl ?_
    refine r_done ?_
    refine s_keep [2] (e' := [(2, _)]) rfl ?_
    refine k_then_n ?_
    refine c_ret ?_
    refine ret1 rfl rfl (()) (by rw [tr_len, hk]; rfl) (by trivial) ?_
    (repeat ((with_reducible apply Takes.cons); focus (first | (with_reducible (repeat (first | exact Take.here | apply Take.there)); done) | (repeat (first | exact Take.here | apply Take.there))))); (repeat (first | exact Takes.nil | exact Takes.self | refine takes_drop2 ?_))

theorem eq_spec (xs ys : List Int) (ao bo : Option Addr) (n m c d : Nat) (A : HProp) (hn : xs.length = n) (hr : RdS A ao (xs.flatMap encU)) (hm : ys.length = m) (hr2 : RdS A bo (ys.flatMap encU)) (hb : n ≤ 4000000000000) : Spec Try.prog 39 [.slice ao n c, .slice bo m d] [A] (fun (_ : Unit) => .bool (decide (xs = ys))) (fun _ => True) (fun _ => [A]) := by
  refine spec_mk (n := 26) Try.func39 rfl rfl rfl ?_
  intro Γ w0
  simp only [argE, List.cons_append, List.nil_append, Nat.zero_add, Nat.reduceAdd]
  refine c_seq ?_
  refine c_plain (.q 0 (.done)) (by kernel_rfl) ?_
  refine q_assign rfl rfl rfl rfl ?_
  refine r_done ?_
  refine k_then_n ?_
  refine c_seq ?_
  refine c_seq ?_
  refine c_plain (.q 0 (.q 1 (.q 2 (.q 3 (.q 4 (.done)))))) (by kernel_rfl) ?_
  refine q_move rfl rfl rfl rfl ?_
  refine q_len rfl rfl rfl rfl Try.underlying23 ?_
  refine q_move rfl rfl rfl rfl ?_
  refine q_len rfl rfl rfl rfl Try.underlying23 ?_
  refine q_int rfl rfl rfl rfl rfl (b_neq _ _ _ _) ?_
  refine r_done ?_
  refine s_keep [0, 1, 10] (e' := [(0, _), (1, _), (10, _)]) rfl ?_
  refine k_then_n ?_
  refine c_cond_p rfl (fun hne => ?_) (fun hne => ?_)
  · skip
    refine c_seq ?_
    refine c_plain (.q 0 (.done)) (by kernel_rfl) ?_
    refine q_assign rfl rfl rfl rfl ?_
    refine r_done ?_
    refine k_then_n ?_
    refine c_ret ?_
    refine k_then_ret ?_
    refine ret1 rfl rfl (()) (by congr 1; symm; simp only [decide_eq_false_iff_not]; intro e; rw [e] at hn; omega) (by trivial) ?_
    (repeat ((with_reducible apply Takes.cons); focus (first | (with_reducible (repeat (first | exact Take.here | apply Take.there)); done) | (repeat (first | exact Take.here | apply Take.there))))); (repeat (first | exact Takes.nil | exact Takes.self | refine takes_drop2 ?_))
  · skip
    refine c_skip ?_
    refine k_then_n ?_
    refine c_seq ?_
    refine c_seq ?_
    refine c_plain (.q 0 (.q 1 (.q 2 (.done)))) (by kernel_rfl) ?_
    refine q_move rfl rfl rfl rfl ?_
    refine q_len rfl rfl rfl rfl Try.underlying23 ?_
    refine q_move rfl rfl rfl rfl ?_
    refine r_done ?_
    refine k_then_n ?_
    refine c_block ?_
    have hnm : n = m := by omega
    subst hnm
    refine c_loop2 (α := Nat) (fun (i : Nat) => i ≤ n ∧ (xs.take i = ys.take i)) (fun (i : Nat) => [(13, .int .i64 ((i : Nat) : Int))]) (fun (i : Nat) => []) (fun (i : Nat) => n - i) [0, 1, 12] (er := [(0, _), (1, _), (12, _)]) rfl (0) ?_ (by exact ⟨rfl, trivial⟩) (by (try dsimp only); (try simp only [Nat.add_zero, Nat.zero_add]); (repeat ((with_reducible apply Takes.cons); focus (first | (with_reducible (repeat (first | exact Take.here | apply Take.there)); done) | (repeat (first | exact Take.here | apply Take.there))))); exact Takes.nil) ?_
    · exact ⟨Nat.zero_le _, rfl⟩
    rintro i ⟨hle_i, ht⟩
    try simp only [List.cons_append, List.nil_append]
    refine c_seq ?_
    refine c_plain (.q 0 (.done)) (by kernel_rfl) ?_
    refine q_int rfl rfl rfl rfl rfl (b_lss _ _ _ _) ?_
    refine r_done ?_
    refine k_then_n ?_
    refine c_seq ?_
    refine c_cond_p rfl (fun hlt => ?_) (fun hlt => ?_)
    · skip
      refine c_skip ?_
      refine k_then_n ?_
      refine c_seq ?_
      refine c_block ?_
      refine c_seq ?_
      refine c_plain (.q 0 (.q 1 (.done))) (by kernel_rfl) ?_
      refine q_move rfl rfl rfl rfl ?_
      refine q_assign rfl rfl rfl rfl ?_
      refine r_done ?_
      refine k_then_n ?_
      refine c_seq ?_
      refine c_draw rfl (.q 0 (.q 1 (.q 2 (.q 3 (.q 4 (.q 5 (.q 6 (.q 7 (.q 8 (.done)))))))))) (by kernel_rfl) ?_
      refine q_move rfl rfl rfl rfl ?_
      refine q_move rfl rfl rfl rfl ?_
      obtain ⟨x, hx⟩ := get_lt (l := xs) (i := i) (by first | omega | (simp; done) | (simp; omega))
      refine q_idxR (sz := 0) (k := i) rfl rfl rfl rfl rfl Try.underlying23 Try.sizeOf30 (hr) hx encU_len (by first | rfl | omega) (by omega) ?_
      intro ib18 io18 _ hd18
      refine q_load rfl rfl rfl rfl Try.isAgg30 (by with_reducible (repeat (first | exact Take.here | apply Take.there))) (hd18 0 (.int .u64 x) rfl) ?_
      refine q_move rfl rfl rfl rfl ?_
      refine q_move rfl rfl rfl rfl ?_
      obtain ⟨y, hy⟩ := get_lt (l := ys) (i := i) (by first | omega | (simp; done) | (simp; omega))
      refine q_idxR (sz := 0) (k := i) rfl rfl rfl rfl rfl Try.underlying23 Try.sizeOf30 (hr2) hy encU_len (by first | rfl | omega) (by omega) ?_
      intro ib22 io22 _ hd22
      refine q_load rfl rfl rfl rfl Try.isAgg30 (by with_reducible (repeat (first | exact Take.here | apply Take.there))) (hd22 0 (.int .u64 y) rfl) ?_
      refine q_int rfl rfl rfl rfl rfl (b_neq _ _ _ _) ?_
      refine r_done ?_
      refine s_keep [0, 1, 12, 13, 24] (e' := [(0, _), (1, _), (12, _), (13, _), (24, _)]) rfl ?_
      refine k_then_n ?_
      refine c_cond_p rfl (fun hxy => ?_) (fun hxy => ?_)
      · skip
        refine c_seq ?_
        refine c_plain (.q 0 (.done)) (by kernel_rfl) ?_
        refine q_assign rfl rfl rfl rfl ?_
        refine r_done ?_
        refine s_keep [4] (e' := [(4, _)]) rfl ?_
        refine k_then_n ?_
        refine c_ret ?_
        refine k_blk_ret ?_
        refine k_then_ret ?_
        refine k_then_ret ?_
        refine k_blk_ret ?_
        refine k_then_ret ?_
        refine ret1 rfl rfl (()) (by congr 1; symm; simp only [decide_eq_false_iff_not]; intro e; rw [e, hy] at hx; cases hx; exact hxy rfl) (by trivial) ?_
        (repeat ((with_reducible apply Takes.cons); focus (first | (with_reducible (repeat (first | exact Take.here | apply Take.there)); done) | (repeat (first | exact Take.here | apply Take.there))))); (repeat (first | exact Takes.nil | exact Takes.self | refine takes_drop2 ?_))
      · skip
        have hxy : x = y := Classical.byContradiction hxy
        refine c_skip ?_
        refine k_blk_n ?_
        refine k_then_n ?_
        refine c_plain (.q 0 (.q 1 (.done))) (by kernel_rfl) ?_
        refine q_int rfl rfl rfl rfl rfl (b_add' _ (by (first | exact fits_i64 (by omega) (by omega) | exact fits_u64 (by omega) (by omega) | exact fits_u32 (by omega) (by omega) | exact fits_u8 (by omega) (by omega)))) ?_
        refine q_move rfl rfl rfl rfl ?_
        refine r_done ?_
        refine k_then_n ?_
        refine loop_next (x := i) (i + 1) ?_ ?_ ?_ ?_
        · exact ⟨by omega, by rw [List.take_add_one, List.take_add_one, hx, hy, ht, hxy]⟩
        · show n - (i + 1) < n - i; omega
        · exact ⟨rfl, rfl, rfl, rfl, trivial⟩
        · (try simp only [List.cons_append, List.nil_append]); (repeat ((with_reducible apply Takes.cons); focus (first | (with_reducible (repeat (first | exact Take.here | apply Take.there)); done) | (repeat (first | exact Take.here | apply Take.there))))); (repeat (first | exact Takes.nil | exact Takes.self | refine takes_drop2 ?_))
    · skip
      refine c_exit ?_
      refine k_then_exit ?_
      refine k_then_exit ?_
      refine k_blk_here ?_
      refine k_then_n ?_
      refine c_seq ?_
      refine c_plain (.q 0 (.done)) (by kernel_rfl) ?_
      refine q_assign rfl rfl rfl rfl ?_
      refine r_done ?_
      refine s_keep [4] (e' := [(4, _)]) rfl ?_
      refine k_then_n ?_
      refine c_ret ?_
      refine ret1 rfl rfl (()) (by congr 1; symm; simp only [decide_eq_true_eq]; obtain rfl : i = n := (by omega); rw [List.take_of_length_le (by omega), List.take_of_length_le (by omega)] at ht; exact ht) (by trivial) ?_
      (repeat ((with_reducible apply Takes.cons); focus (first | (with_reducible (repeat (first | exact Take.here | apply Take.there)); done) | (repeat (first | exact Take.here | apply Take.there))))); (repeat (first | exact Takes.nil | exact Takes.self | refine takes_drop2 ?_))

theorem equal_spec (b b2 : Nat) (l m : List Int) (ao ao2 : Option Addr) (n cap n2 cap2 : Nat) (hn : l.length = n) (hn2 : m.length = n2) (hlr : CV l) (hmr : CV m) : Spec Try.prog 12 [.pointer (some ⟨b, 0, none⟩), .pointer (some ⟨b2, 0, none⟩)] [cells b 0 [.slice ao n cap], own 1 encU ao cap l, cells b2 0 [.slice ao2 n2 cap2], own 1 encU ao2 cap2 m] (fun (_ : Unit) => .bool (decide (l = m))) (fun _ => True) (fun _ => [cells b 0 [.slice ao n cap], own 1 encU ao cap l, cells b2 0 [.slice ao2 n2 cap2], own 1 encU ao2 cap2 m]) := by
  refine spec_mk (n := 22) Try.func12 rfl rfl rfl ?_
  intro Γ w0
  simp only [argE, List.cons_append, List.nil_append, Nat.zero_add, Nat.reduceAdd]
  have hlr1 := hlr.len
  have hmr1 := hmr.len
  refine c_seq ?_
  refine c_plain (.q 0 (.done)) (by kernel_rfl) ?_
  refine q_assign rfl rfl rfl rfl ?_
  refine r_done ?_
  refine k_then_n ?_
  refine c_seq ?_
  refine c_draw rfl (.q 0 (.q 1 (.q 2 (.q 3 (.q 4 (.q 5 (.q 6 (.q 7 (.q 8 (.q 9 (.q 10 (.q 11 (.q 12 (.q 13 (.q 14 ((.l 15 [] (.q 16 (.q 17 (.done)))))))))))))))))))) (by kernel_rfl) ?_
  refine q_move rfl rfl rfl rfl ?_
  refine q_ne_nil rfl rfl rfl rfl Try.underlying25 ?_
  refine s_eq 6 rfl (v' := .bool true) rfl ?_
  refine q_move rfl rfl rfl rfl ?_
  refine q_move rfl rfl rfl rfl ?_
  refine q_ne_nil rfl rfl rfl rfl Try.underlying25 ?_
  refine s_eq 9 rfl (v' := .bool true) rfl ?_
  refine q_pick_t rfl rfl rfl rfl rfl ?_
  refine q_move rfl rfl rfl rfl ?_
  refine q_move rfl rfl rfl rfl ?_
  refine q_nil_p rfl rfl rfl rfl ?_
  refine q_field (k := 0) rfl rfl rfl rfl Try.underlying64 rfl Try.sizeOf23 rfl ?_
  refine q_load_c (j := 0) rfl rfl rfl rfl Try.isAgg23 (by with_reducible (repeat (first | exact Take.here | apply Take.there))) (by first | rfl | exact (Nat.add_zero _).symm) (by rfl) ?_
  refine q_move rfl rfl rfl rfl ?_
  refine q_nil_p rfl rfl rfl rfl ?_
  refine q_field (k := 0) rfl rfl rfl rfl Try.underlying64 rfl Try.sizeOf23 rfl ?_
  refine q_load_c (j := 0) rfl rfl rfl rfl Try.isAgg23 (by with_reducible (repeat (first | exact Take.here | apply Take.there))) (by first | rfl | exact (Nat.add_zero _).symm) (by rfl) ?_
  refine s_take (A := own 1 encU ao cap l) (by with_reducible (repeat (first | exact Take.here | apply Take.there))) ?_
  refine own_fc fun f_1a f_1b f_1c => ?_
  refine s_take (A := own 1 encU ao2 cap2 m) (by with_reducible (repeat (first | exact Take.here | apply Take.there))) ?_
  refine own_fc fun f_2a f_2b f_2c => ?_
  refine s_heap (fun _ h => Bun.fold ((by (repeat ((with_reducible apply Takes.cons); focus (first | (with_reducible (repeat (first | exact Take.here | apply Take.there)); done) | (repeat (first | exact Take.here | apply Take.there))))); exact Takes.nil : Takes _ [own 1 encU ao cap l, own 1 encU ao2 cap2 m] _) _ h)) ?_
  have sp_3 := eq_spec l m ao ao2 n n2 cap cap2 (Bun [own 1 encU ao cap l, own 1 encU ao2 cap2 m]) (by first | rfl | assumption | omega | (simp; done) | (simp; omega)) (rds_bun (List.mem_cons_self) (rds_own encU_len (fun h => (f_1b h).1) f_1c)) (by first | rfl | assumption | omega | (simp; done) | (simp; omega)) (rds_bun (List.mem_cons_of_mem _ (List.mem_cons_self)) (rds_own encU_len (fun h => (f_2b h).1) f_2c)) (by omega)
  refine l_call rfl rfl rfl rfl rfl rfl Try.call39 (sp_3) (by (repeat ((with_reducible apply Takes.cons); focus (first | (with_reducible (repeat (first | exact Take.here | apply Take.there)); done) | (repeat (first | exact Take.here | apply Take.there))))); exact Takes.nil) ?_
  rintro ⟨⟩ -
  try simp only [List.cons_append, List.nil_append]
  refine s_take (A := Bun [own 1 encU ao cap l, own 1 encU ao2 cap2 m]) (by with_reducible (repeat (first | exact Take.here | apply Take.there))) ?_
  refine s_bun ?_
  try simp only [List.cons_append, List.nil_append]
  try simp only [List.cons_append, List.nil_append]
  refine ag_nil ?_
  refine q_pick_t rfl rfl rfl rfl rfl ?_
  refine q_assign rfl rfl rfl rfl ?_
  refine r_done ?_
  refine s_keep [4] (e' := [(4, _)]) rfl ?_
  refine k_then_n ?_
  refine c_ret ?_
  refine ret1 rfl rfl (()) (by first | rfl | (first | rfl | (congr 1; done) | (congr 1 <;> first | rfl | omega | (simp; done) | (simp; omega)))) (by trivial) ?_
  (repeat ((with_reducible apply Takes.cons); focus (first | (with_reducible (repeat (first | exact Take.here | apply Take.there)); done) | (repeat (first | exact Take.here | apply Take.there))))); (repeat (first | exact Takes.nil | exact Takes.self | refine takes_drop2 ?_))

theorem copy_spec (b : Nat) (l : List Int) (ao : Option Addr) (n cap : Nat) (hn : l.length = n) (hb : n ≤ 4000000000) : Spec Try.prog 21 [.pointer (some ⟨b, 0, none⟩)] [cells b 0 [.slice ao n cap], own 1 encU ao cap l] (fun (r : Nat × Option Addr × Nat) => .pointer (some ⟨r.1, 0, none⟩)) (fun r => True) (fun r => [cells b 0 [.slice ao n cap], own 1 encU ao cap l, cells r.1 0 [.slice r.2.1 n r.2.2], own 1 encU r.2.1 r.2.2 l]) := by
  refine spec_mk (n := 21) Try.func21 rfl rfl rfl ?_
  intro Γ w0
  simp only [argE, List.cons_append, List.nil_append, Nat.zero_add, Nat.reduceAdd]
  refine c_seq ?_
  refine c_plain (.q 0 (.done)) (by kernel_rfl) ?_
  refine q_assign rfl rfl rfl rfl ?_
  refine r_done ?_
  refine k_then_n ?_
  refine c_seq ?_
  refine c_seq ?_
  refine c_plain (.q 0 (.q 1 (.done))) (by kernel_rfl) ?_
  refine q_move rfl rfl rfl rfl ?_
  refine q_eq_nil rfl rfl rfl rfl Try.underlying25 ?_
  refine s_eq 5 rfl (v' := .bool false) rfl ?_
  refine r_done ?_
  refine k_then_n ?_
  refine c_cond_f rfl ?_
  refine c_skip ?_
  refine k_then_n ?_
  refine c_seq ?_
  refine c_plain (.q 0 (.q 1 (.q 2 (.q 3 (.q 4 ((.l 5 [] (.q 6 (.done))))))))) (by kernel_rfl) ?_
  refine q_move rfl rfl rfl rfl ?_
  refine q_nil_p rfl rfl rfl rfl ?_
  refine q_field (k := 0) rfl rfl rfl rfl Try.underlying64 rfl Try.sizeOf23 rfl ?_
  refine q_load_c (j := 0) rfl rfl rfl rfl Try.isAgg23 (by with_reducible (repeat (first | exact Take.here | apply Take.there))) (by first | rfl | exact (Nat.add_zero _).symm) (by rfl) ?_
  refine q_len rfl rfl rfl rfl Try.underlying23 ?_
  refine l_make (sz := 1) (enc := encU) (len := n) (cap := n) (0) rfl rfl rfl rfl rfl (by first | rfl | omega) (by first | rfl | omega) Try.underlying23 Try.typeInfo30 rfl rfl rfl (by decide) (by omega) (by omega) (by show 8 * _ ≤ _; omega) (by rfl) (encU_len) ?_
  intro b11
  refine ag_nil ?_
  refine q_assign rfl rfl rfl rfl ?_
  refine r_done ?_
  refine s_keep [0, 3] (e' := [(0, _), (3, _)]) rfl ?_
  refine k_then_n ?_
  refine c_seq ?_
  refine c_plain (.q 0 (.q 1 (.q 2 (.q 3 (.q 4 ((.l 5 [] (.done)))))))) (by kernel_rfl) ?_
  refine q_move rfl rfl rfl rfl ?_
  refine q_move rfl rfl rfl rfl ?_
  refine q_nil_p rfl rfl rfl rfl ?_
  refine q_field (k := 0) rfl rfl rfl rfl Try.underlying64 rfl Try.sizeOf23 rfl ?_
  refine q_load_c (j := 0) rfl rfl rfl rfl Try.isAgg23 (by with_reducible (repeat (first | exact Take.here | apply Take.there))) (by first | rfl | exact (Nat.add_zero _).symm) (by rfl) ?_
  refine s_take (A := own 1 encU ao cap l) (by with_reducible (repeat (first | exact Take.here | apply Take.there))) ?_
  refine own_fc fun f_1a f_1b f_1c => ?_
  refine l_copy (sz := 1) (enc := encU) (xs := (List.replicate n 0)) (ys := l) (A := own 1 encU ao cap l) rfl rfl rfl rfl rfl Try.underlying23 Try.sizeOf30 (by decide) encU_len encU_one (by with_reducible (repeat (first | exact Take.here | apply Take.there))) (by with_reducible (repeat (first | exact Take.here | apply Take.there))) (rds_own encU_len (fun h => (f_1b h).1) f_1c) (by first | rfl | assumption | omega | (simp; done) | (simp; omega)) (by exact hn) (by omega) ?_
  rw [show (l ++ (List.replicate n 0).drop n) = l from by simp]
  refine ag_nil ?_
  refine r_done ?_
  refine s_keep [3] (e' := [(3, _)]) rfl ?_
  refine k_then_n ?_
  refine c_seq ?_
  refine c_plain (.q 0 (.q 1 ((.l 2 [] (.q 3 (.done)))))) (by kernel_rfl) ?_
  refine q_move rfl rfl rfl rfl ?_
  refine q_build rfl rfl rfl rfl (vs := [_]) (run_buildS Try.underlying64 Try.zeroValue64 (ps := [(0, 1)]) ⟨rfl, Try.sizeOf23, trivial⟩ rfl) ?_
  refine l_box rfl rfl rfl rfl (us := [_]) rfl ?_
  intro b20
  refine ag_nil ?_
  refine q_assign rfl rfl rfl rfl ?_
  refine r_done ?_
  refine s_keep [2] (e' := [(2, _)]) rfl ?_
  refine k_then_n ?_
  refine c_ret ?_
  refine ret1 rfl rfl ((b20, some ⟨b11, 0, none⟩, n)) (by first | rfl | (first | rfl | (congr 1; done) | (congr 1 <;> first | rfl | omega | (simp; done) | (simp; omega)))) (by trivial) ?_
  (repeat ((with_reducible apply Takes.cons); focus (first | (with_reducible (repeat (first | exact Take.here | apply Take.there)); done) | (repeat (first | exact Take.here | apply Take.there))))); (repeat (first | exact Takes.nil | exact Takes.self | refine takes_drop2 ?_))

theorem meet_spec (b : Nat) (l : List Int) (ao : Option Addr) (n cap : Nat) (hn : l.length = n) (hl : CV l) (os M : List K) (hos : ∀ x ∈ os, x ∈ M) (hMc : ∀ x ∈ M, CV x.2.2.2) (bo : Option Addr) (m c : Nat) (A : HProp) (hr : RdS A bo (os.flatMap encP)) (hm : os.length = m) (hb : m ≤ 4000000000) : Spec Try.prog 38 [.pointer (some ⟨b, 0, none⟩), .slice bo m c] [cells b 0 [.slice ao n cap], own 1 encU ao cap l, A, bigS kf M] (fun (_ : Unit) => .int .i64 0) (fun _ => True) (fun _ => [cells b 0 [.slice ao (mtA l os).length cap], own 1 encU ao cap (mtA l os), A, bigS kf M]) := by
  refine spec_mk (n := 49) Try.func38 rfl rfl rfl ?_
  intro Γ w0
  simp only [argE, List.cons_append, List.nil_append, Nat.zero_add, Nat.reduceAdd]
  refine c_seq ?_
  refine c_plain (.q 0 (.done)) (by kernel_rfl) ?_
  refine q_assign rfl rfl rfl rfl ?_
  refine r_done ?_
  refine k_then_n ?_
  refine c_seq ?_
  refine c_seq ?_
  refine c_plain (.q 0 (.q 1 (.q 2 (.q 3 ((.l 4 [] (.q 5 (.done)))))))) (by kernel_rfl) ?_
  refine q_move rfl rfl rfl rfl ?_
  refine q_eq_nil rfl rfl rfl rfl Try.underlying25 ?_
  refine s_eq 9 rfl (v' := .bool false) rfl ?_
  refine q_move rfl rfl rfl rfl ?_
  refine q_move rfl rfl rfl rfl ?_
  have sp_1 := contains_spec os bo m c A hr hm hb
  refine l_call rfl rfl rfl rfl rfl rfl Try.call47 (sp_1) (by (repeat ((with_reducible apply Takes.cons); focus (first | (with_reducible (repeat (first | exact Take.here | apply Take.there)); done) | (repeat (first | exact Take.here | apply Take.there))))); exact Takes.nil) ?_
  rintro ⟨⟩ -
  try simp only [List.cons_append, List.nil_append]
  refine ag_nil ?_
  refine q_pick_f rfl rfl rfl rfl rfl ?_
  refine r_done ?_
  refine s_keep [0, 1, 13] (e' := [(0, _), (1, _), (13, _)]) rfl ?_
  refine k_then_n ?_
  refine c_cond_f rfl ?_
  refine c_skip ?_
  refine k_then_n ?_
  refine c_seq ?_
  refine c_seq ?_
  refine c_plain (.q 0 (.q 1 (.q 2 (.done)))) (by kernel_rfl) ?_
  refine q_move rfl rfl rfl rfl ?_
  refine q_len rfl rfl rfl rfl Try.underlying73 ?_
  refine q_move rfl rfl rfl rfl ?_
  refine r_done ?_
  refine k_then_n ?_
  refine c_block ?_
  rw [← hn]
  refine c_loop2 (α := Nat) (fun (k : Nat) => k ≤ m ∧ (CV (mtA l (os.take k)))) (fun (k : Nat) => [(16, .int .i64 ((k : Nat) : Int))]) (fun (k : Nat) => [cells b 0 [.slice ao ((mtA l (os.take k)).length) cap], own 1 encU ao cap (mtA l (os.take k))]) (fun (k : Nat) => m - k) [0, 14, 15] (er := [(0, _), (14, _), (15, _)]) rfl (0) ?_ (by exact ⟨rfl, trivial⟩) (by (repeat ((with_reducible apply Takes.cons); focus (first | (with_reducible (repeat (first | exact Take.here | apply Take.there)); done) | (repeat (first | exact Take.here | apply Take.there))))); exact Takes.nil) ?_
  · exact ⟨Nat.zero_le _, hl⟩
  rintro k ⟨hle_k, hcv⟩
  try simp only [List.cons_append, List.nil_append]
  have hcl := hcv.len
  refine c_seq ?_
  refine c_plain (.q 0 (.done)) (by kernel_rfl) ?_
  refine q_int rfl rfl rfl rfl rfl (b_lss _ _ _ _) ?_
  refine r_done ?_
  refine k_then_n ?_
  refine c_seq ?_
  refine c_cond_p rfl (fun hlt => ?_) (fun hlt => ?_)
  · skip
    obtain ⟨x, hx⟩ := get_lt (l := os) (i := k) (by omega)
    have hxM := hos _ (List.mem_of_getElem? hx)
    have hxcv := hMc _ hxM
    obtain ⟨j, hj⟩ := List.getElem?_of_mem hxM
    obtain ⟨d, da, dc, dl⟩ := x
    simp only at hxcv
    have hdl := hxcv.len
    refine s_big_take (f := kf) (L := M) (by with_reducible (repeat (first | exact Take.here | apply Take.there))) hj ?_
    refine s_bun ?_
    try simp only [List.cons_append, List.nil_append]
    obtain ⟨cur, hcur⟩ : ∃ c, c = mtA l (os.take k) := ⟨_, rfl⟩
    rw [← hcur] at hcv hcl ⊢
    refine c_skip ?_
    refine k_then_n ?_
    refine c_seq ?_
    refine c_block ?_
    refine c_seq ?_
    refine c_plain (.q 0 (.q 1 (.q 2 (.done)))) (by kernel_rfl) ?_
    refine q_idxR (sz := 0) (k := k) rfl rfl rfl rfl rfl Try.underlying73 Try.sizeOf25 (hr) hx encP_len (by first | rfl | omega) (by omega) ?_
    intro ib18 io18 _ hd18
    refine q_load rfl rfl rfl rfl Try.isAgg25 (by with_reducible (repeat (first | exact Take.here | apply Take.there))) (hd18 0 (.pointer (some ⟨(d, da, dc, dl).1, 0, none⟩)) rfl) ?_
    refine s_eq 19 rfl (v' := .pointer (some ⟨d, 0, none⟩)) (by rfl) ?_
    refine q_assign rfl rfl rfl rfl ?_
    refine r_done ?_
    refine k_then_n ?_
    refine c_seq ?_
    refine c_seq ?_
    refine c_plain (.q 0 (.q 1 (.q 2 (.q 3 (.q 4 (.q 5 (.done))))))) (by kernel_rfl) ?_
    refine q_move rfl rfl rfl rfl ?_
    refine q_nil_p rfl rfl rfl rfl ?_
    refine q_field (k := 0) rfl rfl rfl rfl Try.underlying64 rfl Try.sizeOf23 rfl ?_
    refine q_load_c (j := 0) rfl rfl rfl rfl Try.isAgg23 (by with_reducible (repeat (first | exact Take.here | apply Take.there))) (by first | rfl | exact (Nat.add_zero _).symm) (by rfl) ?_
    refine q_len rfl rfl rfl rfl Try.underlying23 ?_
    refine q_move rfl rfl rfl rfl ?_
    refine r_done ?_
    refine s_keep [0, 6, 14, 15, 16, 24, 25] (e' := [(0, _), (6, _), (14, _), (15, _), (16, _), (24, _), (25, _)]) rfl ?_
    refine k_then_n ?_
    refine c_block ?_
    refine c_loop2 (α := Nat) (fun (i : Nat) => i ≤ cur.length) (fun (i : Nat) => [(25, .int .i64 ((i : Nat) : Int))]) (fun (i : Nat) => [cells d 0 [.slice da dl.length dc], own 1 encU da dc dl, cells b 0 [.slice ao cur.length cap], own 1 encU ao cap (mtI cur dl i)]) (fun (i : Nat) => cur.length - i) [0, 6, 14, 15, 16, 24] (er := [(0, _), (6, _), (14, _), (15, _), (16, _), (24, _)]) rfl (0) ?_ (by exact ⟨rfl, trivial⟩) (by (try dsimp only); rw [mtI_zero]; (repeat ((with_reducible apply Takes.cons); focus (first | (with_reducible (repeat (first | exact Take.here | apply Take.there)); done) | (repeat (first | exact Take.here | apply Take.there))))); exact Takes.nil) ?_
    · exact Nat.zero_le _
    rintro i hle_i
    try simp only [List.cons_append, List.nil_append]
    have hjl := mtI_len cur dl i
    refine c_seq ?_
    refine c_plain (.q 0 (.done)) (by kernel_rfl) ?_
    refine q_int rfl rfl rfl rfl rfl (b_lss _ _ _ _) ?_
    refine r_done ?_
    refine k_then_n ?_
    refine c_seq ?_
    refine c_cond_p rfl (fun hli => ?_) (fun hli => ?_)
    · skip
      have hji : (mtI cur dl i)[i]? = some (cur.getD i 0) := by rw [mtI_get (by omega), if_neg (by omega)]
      refine c_skip ?_
      refine k_then_n ?_
      refine c_seq ?_
      refine c_block ?_
      refine c_seq ?_
      refine c_plain (.q 0 (.q 1 (.done))) (by kernel_rfl) ?_
      refine q_move rfl rfl rfl rfl ?_
      refine q_assign rfl rfl rfl rfl ?_
      refine r_done ?_
      refine k_then_n ?_
      refine c_draw rfl (.q 0 (.q 1 (.q 2 (.q 3 (.q 4 (.q 5 (.q 6 (.q 7 (.q 8 (.q 9 (.q 10 (.q 11 (.q 12 (.q 13 ((.l 14 [3, 8, 11] (.q 15 (.q 16 ((.l 17 [] (.done))))))))))))))))))))) (by kernel_rfl) ?_
      refine q_move rfl rfl rfl rfl ?_
      refine q_nil_p rfl rfl rfl rfl ?_
      refine q_field (k := 0) rfl rfl rfl rfl Try.underlying64 rfl Try.sizeOf23 rfl ?_
      refine q_load_c (j := 0) rfl rfl rfl rfl Try.isAgg23 (by with_reducible (repeat (first | exact Take.here | apply Take.there))) (by first | rfl | exact (Nat.add_zero _).symm) (by rfl) ?_
      refine q_move rfl rfl rfl rfl ?_
      refine q_move rfl rfl rfl rfl ?_
      refine q_nil_p rfl rfl rfl rfl ?_
      refine q_field (k := 0) rfl rfl rfl rfl Try.underlying64 rfl Try.sizeOf23 rfl ?_
      refine q_load_c (j := 0) rfl rfl rfl rfl Try.isAgg23 (by with_reducible (repeat (first | exact Take.here | apply Take.there))) (by first | rfl | exact (Nat.add_zero _).symm) (by rfl) ?_
      refine q_move rfl rfl rfl rfl ?_
      refine q_idxO (sz := 0) (k := i) (enc := encU) (xs := (mtI cur dl i)) rfl rfl rfl rfl rfl Try.underlying23 Try.sizeOf30 hji (by first | rfl | omega) (by omega) (by with_reducible (repeat (first | exact Take.here | apply Take.there))) ?_
      intro ib38 io38 ha38 hl38 hc38
      refine q_load_O (v := (.int .u64 (cur.getD i 0))) (j := 0) (k' := i) (enc := encU) (off := io38) rfl rfl rfl rfl Try.isAgg30 ha38 encU_len hji (by with_reducible (repeat (first | exact Take.here | apply Take.there))) (by first | rfl | exact (Nat.add_zero _).symm | omega) (by rfl) ?_
      refine q_move rfl rfl rfl rfl ?_
      refine q_move rfl rfl rfl rfl ?_
      have sp_2 := get_spec d dl da dl.length dc (by first | rfl | assumption | omega | (simp; done) | (simp; omega)) i
      refine l_call rfl rfl rfl rfl rfl rfl Try.call13 (sp_2) (by (repeat ((with_reducible apply Takes.cons); focus (first | (with_reducible (repeat (first | exact Take.here | apply Take.there)); done) | (repeat (first | exact Take.here | apply Take.there))))); exact Takes.nil) ?_
      rintro ⟨⟩ -
      try simp only [List.cons_append, List.nil_append]
      refine ag_load_c (q := 0) rfl rfl rfl Try.isAgg23 (by with_reducible (repeat (first | exact Take.here | apply Take.there))) (by first | rfl | exact (Nat.add_zero _).symm) (by rfl) ?_
      refine ag_load_c (q := 0) rfl rfl rfl Try.isAgg23 (by with_reducible (repeat (first | exact Take.here | apply Take.there))) (by first | rfl | exact (Nat.add_zero _).symm) (by rfl) ?_
      refine ag_load_O (v := (.int .u64 (cur.getD i 0))) (j := 0) (k' := i) (enc := encU) (off := io38) rfl rfl rfl Try.isAgg30 ha38 encU_len hji (by with_reducible (repeat (first | exact Take.here | apply Take.there))) (by first | rfl | exact (Nat.add_zero _).symm | omega) (by rfl) ?_
      refine ag_nil ?_
      refine q_min rfl rfl rfl rfl rfl ?_
      refine q_idxO (sz := 0) (k := i) (enc := encU) (xs := (mtI cur dl i)) rfl rfl rfl rfl rfl Try.underlying23 Try.sizeOf30 hji (by first | rfl | omega) (by omega) (by with_reducible (repeat (first | exact Take.here | apply Take.there))) ?_
      intro ib44 io44 ha44 hl44 hc44
      refine l_store_O (j := 0) (k := i) (q := (min (cur.getD i 0) (dl.getD i 0))) (enc := encU) (off := io44) rfl rfl rfl rfl Try.sizeOf30 (us := [_]) rfl rfl rfl ha44 encU_len hji (by with_reducible (repeat (first | exact Take.here | apply Take.there))) (by first | rfl | exact (Nat.add_zero _).symm | omega) (by first | decide | exact Nat.le_of_ble_eq_true rfl) (by rfl) ?_
      refine ag_nil ?_
      refine r_done ?_
      refine s_keep [0, 6, 14, 15, 16, 24, 25] (e' := [(0, _), (6, _), (14, _), (15, _), (16, _), (24, _), (25, _)]) rfl ?_
      refine k_blk_n ?_
      refine k_then_n ?_
      refine c_plain (.q 0 (.q 1 (.done))) (by kernel_rfl) ?_
      refine q_int rfl rfl rfl rfl rfl (b_add' _ (by (first | exact fits_i64 (by omega) (by omega) | exact fits_u64 (by omega) (by omega) | exact fits_u32 (by omega) (by omega) | exact fits_u8 (by omega) (by omega)))) ?_
      refine q_move rfl rfl rfl rfl ?_
      refine r_done ?_
      refine k_then_n ?_
      rw [mtI_next (by omega)]
      refine loop_next (x := i) (i + 1) ?_ ?_ ?_ ?_
      · exact by show i + 1 ≤ cur.length; omega
      · show cur.length - (i + 1) < cur.length - i; omega
      · exact ⟨rfl, rfl, rfl, rfl, rfl, rfl, rfl, trivial⟩
      · (try simp only [List.cons_append, List.nil_append]); (repeat ((with_reducible apply Takes.cons); focus (first | (with_reducible (repeat (first | exact Take.here | apply Take.there)); done) | (repeat (first | exact Take.here | apply Take.there))))); (repeat (first | exact Takes.nil | exact Takes.self | refine takes_drop2 ?_))
    · skip
      refine c_exit ?_
      refine k_then_exit ?_
      refine k_then_exit ?_
      refine k_blk_here ?_
      refine k_then_n ?_
      have hjl := mtI_len cur dl i
      refine c_plain (.q 0 ((.l 1 [] (.done)))) (by kernel_rfl) ?_
      refine q_move rfl rfl rfl rfl ?_
      have sp_3 := trim_spec b (mtI cur dl i) ao cur.length cap (by first | rfl | assumption | omega | (simp; done) | (simp; omega)) (by omega)
      refine l_call rfl rfl rfl rfl rfl rfl Try.call44 (sp_3) (by (repeat ((with_reducible apply Takes.cons); focus (first | (with_reducible (repeat (first | exact Take.here | apply Take.there)); done) | (repeat (first | exact Take.here | apply Take.there))))); exact Takes.nil) ?_
      rintro ⟨⟩ -
      try simp only [List.cons_append, List.nil_append]
      refine ag_nil ?_
      refine r_done ?_
      refine s_keep [0, 14, 15, 16] (e' := [(0, _), (14, _), (15, _), (16, _)]) rfl ?_
      refine k_blk_n ?_
      refine k_then_n ?_
      refine c_plain (.q 0 (.q 1 (.done))) (by kernel_rfl) ?_
      refine q_int rfl rfl rfl rfl rfl (b_add' _ (by (first | exact fits_i64 (by omega) (by omega) | exact fits_u64 (by omega) (by omega) | exact fits_u32 (by omega) (by omega) | exact fits_u8 (by omega) (by omega)))) ?_
      refine q_move rfl rfl rfl rfl ?_
      refine r_done ?_
      refine k_then_n ?_
      obtain rfl : i = cur.length := by omega
      have hnx : mtA l (os.take (k + 1)) = mt cur dl := by rw [mtA_next hx, ← hcur]
      rw [show tr (mtI cur dl cur.length) = mtA l (os.take (k + 1)) from by rw [hnx]; rfl]
      refine s_heap (fun _ h => Bun.fold ((by (repeat ((with_reducible apply Takes.cons); focus (first | (with_reducible (repeat (first | exact Take.here | apply Take.there)); done) | (repeat (first | exact Take.here | apply Take.there))))); exact Takes.nil : Takes _ [cells d 0 [.slice da dl.length dc], own 1 encU da dc dl] _) _ h)) ?_
      refine s_big_put (f := kf) (L := M) (i := j) (y := (d, da, dc, dl)) (by (repeat ((with_reducible apply Takes.cons); focus (first | (with_reducible (repeat (first | exact Take.here | apply Take.there)); done) | (repeat (first | exact Take.here | apply Take.there))))); exact Takes.nil) (List.getElem?_eq_some_iff.1 hj).1 ?_
      rw [set_same hj]
      refine loop_next (x := k) (k + 1) ?_ ?_ ?_ ?_
      · exact ⟨by omega, by rw [hnx]; exact mt_cv hcv hxcv⟩
      · show m - (k + 1) < m - k; omega
      · exact ⟨rfl, rfl, rfl, rfl, trivial⟩
      · (try simp only [List.cons_append, List.nil_append]); (repeat ((with_reducible apply Takes.cons); focus (first | (with_reducible (repeat (first | exact Take.here | apply Take.there)); done) | (repeat (first | exact Take.here | apply Take.there))))); (repeat (first | exact Takes.nil | exact Takes.self | refine takes_drop2 ?_))
  · skip
    refine c_exit ?_
    refine k_then_exit ?_
    refine k_then_exit ?_
    refine k_blk_here ?_
    refine k_then_n ?_
    refine c_seq ?_
    refine c_plain (.q 0 (.done)) (by kernel_rfl) ?_
    refine q_assign rfl rfl rfl rfl ?_
    refine r_done ?_
    refine s_keep [4] (e' := [(4, _)]) rfl ?_
    refine k_then_n ?_
    refine c_ret ?_
    obtain rfl : k = m := by omega
    rw [List.take_of_length_le (by omega)]
    refine ret1 rfl rfl (()) (by first | rfl | (first | rfl | (congr 1; done) | (congr 1 <;> first | rfl | omega | (simp; done) | (simp; omega)))) (by trivial) ?_
    (repeat ((with_reducible apply Takes.cons); focus (first | (with_reducible (repeat (first | exact Take.here | apply Take.there)); done) | (repeat (first | exact Take.here | apply Take.there))))); (repeat (first | exact Takes.nil | exact Takes.self | refine takes_drop2 ?_))

theorem fit_spec (xs : List Int) (ao : Option Addr) (n c : Nat) (A : HProp) (hn : xs.length = n) (hr : RdS A ao (xs.flatMap encU)) (hx_ : ∀ x ∈ xs, 0 ≤ x) (hb : n ≤ 4000000000) : Spec Try.prog 9 [.slice ao n c] [A] (fun (r : Option Addr × Nat) => .slice r.1 (fitL xs).length r.2) (fun r => True) (fun r => [A, own 1 encU r.1 r.2 (fitL xs)]) := by
  refine spec_mk (n := 24) Try.func9 rfl rfl rfl ?_
  intro Γ w0
  simp only [argE, List.cons_append, List.nil_append, Nat.zero_add, Nat.reduceAdd]
  refine c_seq ?_
  refine c_plain (.q 0 (.done)) (by kernel_rfl) ?_
  refine q_assign rfl rfl rfl rfl ?_
  refine r_done ?_
  refine k_then_n ?_
  refine c_seq ?_
  refine c_plain (.q 0 (.done)) (by kernel_rfl) ?_
  refine q_assign rfl rfl rfl rfl ?_
  refine r_done ?_
  refine k_then_n ?_
  refine c_seq ?_
  refine c_seq ?_
  refine c_plain (.q 0 (.done)) (by kernel_rfl) ?_
  refine q_assign rfl rfl rfl rfl ?_
  refine r_done ?_
  refine k_then_n ?_
  refine c_block ?_
  refine s_heap (fun _ h => own_nil (sz := 1) (enc := encU) h) ?_
  refine c_loop2 (α := Nat × Option Addr × Nat) (fun (x_ : Nat × Option Addr × Nat) => match x_ with | (i, oa, oc) => i ≤ n ∧ (i ≤ 300)) (fun (x_ : Nat × Option Addr × Nat) => match x_ with | (i, oa, oc) => [(3, .slice oa (((xs.take i).map (fun x => x % 281474976710656)).length) oc), (4, .int .i64 ((i : Nat) : Int))]) (fun (x_ : Nat × Option Addr × Nat) => match x_ with | (i, oa, oc) => [own 1 encU oa oc ((xs.take i).map (fun x => x % 281474976710656))]) (fun (x_ : Nat × Option Addr × Nat) => match x_ with | (i, oa, oc) => n - i) [0] (er := [(0, _)]) rfl (0, none, 0) ?_ (by exact ⟨rfl, rfl, trivial⟩) (by (try dsimp only); (try simp only [Nat.add_zero, Nat.zero_add]); (repeat ((with_reducible apply Takes.cons); focus (first | (with_reducible (repeat (first | exact Take.here | apply Take.there)); done) | (repeat (first | exact Take.here | apply Take.there))))); exact Takes.nil) ?_
  · exact ⟨Nat.zero_le _, by omega⟩
  rintro ⟨i, oa, oc⟩ ⟨hle_i, h300⟩
  try simp only [List.cons_append, List.nil_append]
  have hfl : ((xs.take i).map (fun x => x % 281474976710656)).length = i := by rw [List.length_map, List.length_take]; omega
  refine c_seq ?_
  refine c_seq ?_
  refine c_plain (.q 0 (.q 1 (.q 2 (.q 3 (.q 4 (.q 5 (.q 6 (.q 7 (.done))))))))) (by kernel_rfl) ?_
  refine q_move rfl rfl rfl rfl ?_
  refine q_move rfl rfl rfl rfl ?_
  refine q_len rfl rfl rfl rfl Try.underlying23 ?_
  refine q_int rfl rfl rfl rfl rfl (b_lss _ _ _ _) ?_
  refine q_move rfl rfl rfl rfl ?_
  refine s_bool_p 9 rfl (fun hg4 => ?_) (fun hg4 => ?_)
  · skip
    refine q_move rfl rfl rfl rfl ?_
    refine q_int rfl rfl rfl rfl rfl (b_lss _ _ _ _) ?_
    refine q_pick_t rfl rfl rfl rfl rfl ?_
    refine r_done ?_
    refine s_keep [0, 3, 4, 10, 11, 12] (e' := [(0, _), (3, _), (4, _), (10, _), (11, _), (12, _)]) rfl ?_
    refine k_then_n ?_
    refine c_cond_p rfl (fun h3 => ?_) (fun h3 => ?_)
    · skip
      obtain ⟨x, hx⟩ := get_lt (l := xs) (i := i) (by omega)
      have hx0 := hx_ x (List.mem_of_getElem? hx)
      refine c_skip ?_
      refine k_then_n ?_
      refine c_seq ?_
      refine c_block ?_
      refine c_plain (.q 0 (.q 1 (.q 2 (.q 3 (.q 4 (.q 5 ((.l 6 [] ((.l 7 [] (.q 8 (.done)))))))))))) (by kernel_rfl) ?_
      refine q_move rfl rfl rfl rfl ?_
      refine q_move rfl rfl rfl rfl ?_
      refine q_move rfl rfl rfl rfl ?_
      refine q_idxR (sz := 0) (k := i) rfl rfl rfl rfl rfl Try.underlying23 Try.sizeOf30 (hr) hx encU_len (by first | rfl | omega) (by omega) ?_
      intro ib18 io18 _ hd18
      refine q_load rfl rfl rfl rfl Try.isAgg30 (by with_reducible (repeat (first | exact Take.here | apply Take.there))) (hd18 0 (.int .u64 x) rfl) ?_
      refine q_int rfl rfl rfl rfl rfl (b_rem _ (by omega) (by omega)) ?_
      refine l_buildSlice rfl rfl rfl rfl (run_build1 (us := [_]) Try.underlying23 Try.sizeOf30 rfl Try.zeroValue30 rfl rfl rfl) ?_
      intro b21
      refine ag_nil ?_
      refine l_append (sz := 1) (enc := encU) (xs := ((xs.take i).map (fun x => x % 281474976710656))) rfl rfl rfl rfl rfl Try.underlying23 Try.typeInfo30 rfl rfl rfl (by decide) (by with_reducible (repeat (first | exact Take.here | apply Take.there))) (by with_reducible (repeat (first | exact Take.here | apply Take.there))) (by first | rfl | omega | (simp; done) | (simp; omega)) (ys := [(x % 281474976710656)]) (rds_some rdn_cells) (by rfl) (by first | rfl | omega) (encU_len) (encU_one) (by omega) (by show _ * 8 ≤ _; omega) ?_
      intro ao22 cp22
      refine ag_nil ?_
      refine q_assign rfl rfl rfl rfl ?_
      refine r_done ?_
      refine s_keep [0, 3, 4, 10, 11] (e' := [(0, _), (3, _), (4, _), (10, _), (11, _)]) rfl ?_
      refine k_blk_n ?_
      refine k_then_n ?_
      refine c_plain (.q 0 (.q 1 (.q 2 (.done)))) (by kernel_rfl) ?_
      refine q_move rfl rfl rfl rfl ?_
      refine q_int rfl rfl rfl rfl rfl (b_add' _ (by (first | exact fits_i64 (by omega) (by omega) | exact fits_u64 (by omega) (by omega) | exact fits_u32 (by omega) (by omega) | exact fits_u8 (by omega) (by omega)))) ?_
      refine q_assign rfl rfl rfl rfl ?_
      refine r_done ?_
      refine k_then_n ?_
      have hnx : ((xs.take i).map (fun x => x % 281474976710656)) ++ [x % 281474976710656] = ((xs.take (i + 1)).map (fun x => x % 281474976710656)) := by rw [List.take_add_one, hx, List.map_append]; rfl
      rw [hnx]
      have hfl2 : ((xs.take (i + 1)).map (fun x => x % 281474976710656)).length = i + 1 := by rw [← hnx, List.length_append, hfl]; rfl
      refine s_eq 3 rfl (v' := .slice ao22 ((xs.take (i + 1)).map (fun x => x % 281474976710656)).length cp22) (by rw [hfl2]; congr 1; first | rfl | omega) ?_
      refine s_eq 3 rfl (v' := .slice ao22 (((xs.take (i + 1)).map (fun x => x % 281474976710656)).length) cp22) (by rfl) ?_
      refine loop_next (x := (i, oa, oc)) ((i + 1, ao22, cp22)) ?_ ?_ ?_ ?_
      · try dsimp only
        exact ⟨by omega, by omega⟩
      · show n - (i + 1) < n - i; omega
      · exact ⟨rfl, rfl, rfl, trivial⟩
      · (try simp only [List.cons_append, List.nil_append]); (repeat ((with_reducible apply Takes.cons); focus (first | (with_reducible (repeat (first | exact Take.here | apply Take.there)); done) | (repeat (first | exact Take.here | apply Take.there))))); (repeat (first | exact Takes.nil | exact Takes.self | refine takes_drop2 ?_))
    · skip
      refine c_exit ?_
      refine k_then_exit ?_
      refine k_then_exit ?_
      refine k_blk_here ?_
      refine k_then_n ?_
      refine c_seq ?_
      refine c_plain (.q 0 (.q 1 (.done))) (by kernel_rfl) ?_
      refine q_move rfl rfl rfl rfl ?_
      refine q_assign rfl rfl rfl rfl ?_
      refine r_done ?_
      refine s_keep [2] (e' := [(2, _)]) rfl ?_
      refine k_then_n ?_
      refine c_ret ?_
      have hend : ((xs.take i).map (fun x => x % 281474976710656)) = fitL xs := by unfold fitL; rw [show xs.take i = xs.take 300 from by
          rcases Nat.lt_or_ge i 300 with h | h
          · rw [List.take_of_length_le (by omega), List.take_of_length_le (by omega)]
          · rw [show i = 300 by omega]]
      rw [hend]
      try rw [hend] at hfl
      refine ret1 rfl rfl ((oa, oc)) (by first | rfl | (first | rfl | (congr 1; done) | (congr 1 <;> first | rfl | omega | (simp; done) | (simp; omega)))) (by trivial) ?_
      (repeat ((with_reducible apply Takes.cons); focus (first | (with_reducible (repeat (first | exact Take.here | apply Take.there)); done) | (repeat (first | exact Take.here | apply Take.there))))); (repeat (first | exact Takes.nil | exact Takes.self | refine takes_drop2 ?_))
  · skip
    refine q_skip rfl rfl rfl rfl ?_
    refine q_skip rfl rfl rfl rfl ?_
    refine q_pick_f rfl rfl rfl rfl rfl ?_
    refine r_done ?_
    refine s_keep [0, 3, 4, 10, 11, 12] (e' := [(0, _), (3, _), (4, _), (10, _), (11, _), (12, _)]) rfl ?_
    refine k_then_n ?_
    refine c_cond_f rfl ?_
    refine c_exit ?_
    refine k_then_exit ?_
    refine k_then_exit ?_
    refine k_blk_here ?_
    refine k_then_n ?_
    refine c_seq ?_
    refine c_plain (.q 0 (.q 1 (.done))) (by kernel_rfl) ?_
    refine q_move rfl rfl rfl rfl ?_
    refine q_assign rfl rfl rfl rfl ?_
    refine r_done ?_
    refine s_keep [2] (e' := [(2, _)]) rfl ?_
    refine k_then_n ?_
    refine c_ret ?_
    have hend : ((xs.take i).map (fun x => x % 281474976710656)) = fitL xs := by unfold fitL; rw [show xs.take i = xs.take 300 from by
        rcases Nat.lt_or_ge i 300 with h | h
        · rw [List.take_of_length_le (by omega), List.take_of_length_le (by omega)]
        · rw [show i = 300 by omega]]
    rw [hend]
    try rw [hend] at hfl
    refine ret1 rfl rfl ((oa, oc)) (by first | rfl | (first | rfl | (congr 1; done) | (congr 1 <;> first | rfl | omega | (simp; done) | (simp; omega)))) (by trivial) ?_
    (repeat ((with_reducible apply Takes.cons); focus (first | (with_reducible (repeat (first | exact Take.here | apply Take.there)); done) | (repeat (first | exact Take.here | apply Take.there))))); (repeat (first | exact Takes.nil | exact Takes.self | refine takes_drop2 ?_))

theorem made_spec (xs : List Int) (ao : Option Addr) (n c : Nat) (A : HProp) (hn : xs.length = n) (hr : RdS A ao (xs.flatMap encU)) (hl : n ≤ 65535) (hx_ : ∀ x ∈ xs, 0 ≤ x ∧ x ≤ maxC) : Spec Try.prog 10 [.slice ao n c] [A] (fun (r : Nat × Option Addr × Nat) => .tuple #[.pointer (some ⟨r.1, 0, none⟩), .bool true]) (fun r => True) (fun r => [A, cells r.1 0 [.slice r.2.1 (tr xs).length r.2.2], own 1 encU r.2.1 r.2.2 (tr xs)]) := by
  refine spec_mk (n := 19) Try.func10 rfl rfl rfl ?_
  intro Γ w0
  simp only [argE, List.cons_append, List.nil_append, Nat.zero_add, Nat.reduceAdd]
  refine c_seq ?_
  refine c_plain (.q 0 (.q 1 (.done))) (by kernel_rfl) ?_
  refine q_assign rfl rfl rfl rfl ?_
  refine q_assign rfl rfl rfl rfl ?_
  refine r_done ?_
  refine k_then_n ?_
  refine c_seq ?_
  refine c_plain (.q 0 ((.l 1 [] (.q 2 (.q 3 (.q 4 (.q 5 (.q 6 (.done))))))))) (by kernel_rfl) ?_
  refine q_move rfl rfl rfl rfl ?_
  have sp_1 := of_spec xs ao n c A (by first | rfl | assumption | omega | (simp; done) | (simp; omega)) (hr) (by omega) (by exact hx_)
  refine l_call rfl rfl rfl rfl rfl rfl Try.call37 (sp_1) (by (repeat ((with_reducible apply Takes.cons); focus (first | (with_reducible (repeat (first | exact Take.here | apply Take.there)); done) | (repeat (first | exact Take.here | apply Take.there))))); exact Takes.nil) ?_
  rintro ⟨qb, qa, qc⟩ -
  try simp only [List.cons_append, List.nil_append]
  refine ag_nil ?_
  refine q_move rfl rfl rfl rfl ?_
  refine q_extract rfl rfl rfl rfl rfl ?_
  refine q_extract rfl rfl rfl rfl rfl ?_
  refine q_assign rfl rfl rfl rfl ?_
  refine q_assign rfl rfl rfl rfl ?_
  refine r_done ?_
  refine s_keep [4, 5] (e' := [(4, _), (5, _)]) rfl ?_
  refine k_then_n ?_
  refine c_seq ?_
  refine c_plain (.q 0 (.q 1 (.q 2 (.q 3 (.q 4 ((.l 5 [] (.q 6 (.q 7 (.q 8 (.q 9 (.done)))))))))))) (by kernel_rfl) ?_
  refine q_move rfl rfl rfl rfl ?_
  refine q_move rfl rfl rfl rfl ?_
  refine q_ne_nil rfl rfl rfl rfl Try.underlying25 ?_
  refine s_eq 13 rfl (v' := .bool true) rfl ?_
  refine q_move rfl rfl rfl rfl ?_
  refine q_move rfl rfl rfl rfl ?_
  have sp_2 := num_spec 0
  refine l_call rfl rfl rfl rfl rfl rfl Try.call23 (sp_2) (by (repeat ((with_reducible apply Takes.cons); focus (first | (with_reducible (repeat (first | exact Take.here | apply Take.there)); done) | (repeat (first | exact Take.here | apply Take.there))))); exact Takes.nil) ?_
  rintro ⟨⟩ -
  try simp only [List.cons_append, List.nil_append]
  refine ag_nil ?_
  refine q_int rfl rfl rfl rfl rfl (b_eql _ _ _ _) ?_
  refine q_pick_t rfl rfl rfl rfl rfl ?_
  refine s_eq 18 rfl (v' := .bool true) (by rfl) ?_
  refine q_assign rfl rfl rfl rfl ?_
  refine q_assign rfl rfl rfl rfl ?_
  refine r_done ?_
  refine s_keep [2, 3] (e' := [(2, _), (3, _)]) rfl ?_
  refine k_then_n ?_
  refine c_ret ?_
  refine ret2 rfl rfl rfl ((qb, qa, qc)) (by first | rfl | (first | rfl | (congr 1; done) | (congr 1 <;> first | rfl | omega | (simp; done) | (simp; omega)))) (by trivial) ?_
  (repeat ((with_reducible apply Takes.cons); focus (first | (with_reducible (repeat (first | exact Take.here | apply Take.there)); done) | (repeat (first | exact Take.here | apply Take.there))))); (repeat (first | exact Takes.nil | exact Takes.self | refine takes_drop2 ?_))
end Go.Ab.Vc
