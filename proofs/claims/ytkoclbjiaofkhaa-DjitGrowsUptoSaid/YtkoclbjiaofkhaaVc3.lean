/- Package vclock: Meet, Copy, Equal, Get; fit, made, joined. -/
import Derived.Test.YtkoclbjiaofkhaaVc2
import Derived.Test.YtkoclbjiaofkhaaEngP
set_option linter.unusedVariables false
set_option linter.unusedSimpArgs false
set_option maxRecDepth 100000
namespace Go.Ab.Vc
open Go Go.Proofs Go.Ab
theorem g_out {l : List Int} {i : Nat} (h : l.length ≤ i) : l.getD i 0 = 0 := by simp only [List.getD_eq_getElem?_getD]; rw [List.getElem?_eq_none h]; rfl
/-- What is met so far, up to thread i. -/
def mtI (l m : List Int) (i : Nat) : List Int := (List.range l.length).map fun k => if k < i then min (l.getD k 0) (m.getD k 0) else l.getD k 0
theorem mtI_len (l m : List Int) (i : Nat) : (mtI l m i).length = l.length := by simp [mtI]
theorem mtI_get {l m : List Int} {i k : Nat} (h : k < l.length) : (mtI l m i)[k]? = some (if k < i then min (l.getD k 0) (m.getD k 0) else l.getD k 0) := by
  simp only [mtI, List.getElem?_map, List.getElem?_range h, Option.map_some]
theorem mtI_zero (l m : List Int) : mtI l m 0 = l := by
  apply List.ext_getElem?
  intro k
  by_cases h : k < l.length
  · obtain ⟨x, hx⟩ := get_lt h
    rw [mtI_get h, if_neg (by omega), hx, getD_mem hx]
  · rw [List.getElem?_eq_none (by rw [mtI_len]; omega), List.getElem?_eq_none (by omega)]
theorem mtI_next {l m : List Int} {i : Nat} (hi : i < l.length) : (mtI l m i).set i (min (l.getD i 0) (m.getD i 0)) = mtI l m (i + 1) := by
  apply List.ext_getElem?
  intro k
  by_cases h : k < l.length
  · by_cases hk : k = i
    · subst hk
      rw [List.getElem?_set_self (by rw [mtI_len]; omega), mtI_get h, if_pos (by omega)]
    · rw [List.getElem?_set_ne (Ne.symm hk), mtI_get h, mtI_get h]
      by_cases h2 : k < i
      · rw [if_pos h2, if_pos (by omega)]
      · rw [if_neg h2, if_neg (by omega)]
  · rw [List.getElem?_eq_none (by rw [List.length_set, mtI_len]; omega), List.getElem?_eq_none (by rw [mtI_len]; omega)]
/-- The meet of two. -/
def mt (l m : List Int) : List Int := tr (mtI l m l.length)
theorem mt_g {l m : List Int} (hl : CV l) (hm : CV m) (i : Nat) : (mt l m).getD i 0 = min (l.getD i 0) (m.getD i 0) := by
  rw [mt, tr_g]
  by_cases h : i < l.length
  · rw [getD_mem (mtI_get h), if_pos h]
  · rw [g_out (by rw [mtI_len]; omega), g_out (l := l) (by omega)]
    have := g_rng hm.rng (by decide) i
    omega
theorem mt_cv {l m : List Int} (hl : CV l) (hm : CV m) : CV (mt l m) := by
  refine tr_cv (by rw [mtI_len]; exact hl.len) fun x hx => ?_
  obtain ⟨i, -, rfl⟩ := List.mem_map.1 hx
  have a := g_rng hl.rng (by decide) i
  have b := g_rng hm.rng (by decide) i
  split <;> omega
def mtA (l : List Int) (os : List K) : List Int := os.foldl (fun l x => mt l x.2.2.2) l
theorem mtA_next {l : List Int} {os : List K} {i : Nat} {x : K} (h : os[i]? = some x) : mtA l (os.take (i + 1)) = mt (mtA l (os.take i)) x.2.2.2 := by
  rw [List.take_add_one, h, mtA, mtA, List.foldl_append]; rfl
theorem leq_iff {l m : List Int} (hl : CV l) (hm : CV m) : LeqL l m ↔ ∀ i, l.getD i 0 ≤ m.getD i 0 := by
  constructor
  · intro h i
    by_cases hi : i < l.length
    · exact h.2 i hi
    · rw [g_out (l := l) (by omega)]; exact (g_rng hm.rng (by decide) i).1
  · intro h
    refine ⟨?_, fun i _ => h i⟩
    rcases Nat.lt_or_ge m.length l.length with h1 | h1
    · rcases hl.tr with e | e
      · rw [e] at h1; exact absurd h1 (by simp)
      · have h2 := h (l.length - 1)
        rw [g_out (l := m) (by omega)] at h2
        have := (g_rng hl.rng (by decide) (l.length - 1)).1
        omega
    · exact h1
/-- The clocks that fit. -/
def fitL (xs : List Int) : List Int := (xs.take 300).map (fun x => x % 281474976710656)
theorem fit_len (xs : List Int) : (fitL xs).length ≤ 300 := by simp [fitL]; omega
theorem fit_rng (xs : List Int) : ∀ x ∈ fitL xs, 0 ≤ x ∧ x ≤ maxC := fun x hx => by
  obtain ⟨y, -, rfl⟩ := List.mem_map.1 hx
  simp only [maxC]; omega
theorem fit_cv (xs : List Int) : CV (tr (fitL xs)) := tr_cv (Nat.le_trans (fit_len xs) (by decide)) (fit_rng xs)
theorem get_spec (b : Nat) (l : List Int) (ao : Option Addr) (n cap : Nat) (hn : l.length = n) (i : Nat) : Spec Try.prog 66 [.pointer (some ⟨b, 0, none⟩), .int .i64 ((i : Nat) : Int)] [cells b 0 [.slice ao n cap], own 1 encU ao cap l] (fun (_ : Unit) => .int .u64 (l.getD i 0)) (fun _ => True) (fun _ => [cells b 0 [.slice ao n cap], own 1 encU ao cap l]) := by
 refine spec_mk (n := 27) Try.func66 rfl rfl rfl ?_
 intro Γ w0
 simp only [argE, List.cons_append, List.nil_append, Nat.zero_add, Nat.reduceAdd]
 refine c_seq ?_
 refine c_plain (.q 0 (.done)) (by kernel_rfl) ?_
 refine q_assign rfl rfl rfl rfl ?_
 refine r_done ?_
 refine k_then_n ?_
 refine c_seq ?_
 refine c_seq ?_
 refine c_plain (.q 0 (.q 1 (.q 2 (.q 3 (.q 4 (.q 5 (.q 6 (.q 7 (.q 8 (.q 9 (.q 10 (.q 11 (.q 12 (.q 13 (.q 14 (.done)))))))))))))))) (by kernel_rfl) ?_
 refine q_move rfl rfl rfl rfl ?_
 refine q_eq_nil rfl rfl rfl rfl Try.underlying82 ?_
 refine s_eq 6 rfl (v' := .bool false) rfl ?_
 refine q_move rfl rfl rfl rfl ?_
 refine q_move rfl rfl rfl rfl ?_
 refine q_int rfl rfl rfl rfl rfl (b_lss _ _ _ _) ?_
 refine q_pick_f rfl rfl rfl rfl rfl ?_
 refine q_move rfl rfl rfl rfl ?_
 refine s_bool_p 11 rfl (fun hg => by exfalso; omega) (fun hg => ?_)
 refine q_move rfl rfl rfl rfl ?_
 refine q_move rfl rfl rfl rfl ?_
 refine q_nil_p rfl rfl rfl rfl ?_
 refine q_field (k := 0) rfl rfl rfl rfl Try.underlying118 rfl Try.sizeOf31 rfl ?_
 refine q_load_c (j := 0) rfl rfl rfl rfl Try.isAgg31 (by with_reducible (repeat (first | exact Z0 | apply Z1))) (by first | rfl | exact (Nat.add_zero _).symm) (by rfl) ?_
 refine q_len rfl rfl rfl rfl Try.underlying31 ?_
 refine q_int rfl rfl rfl rfl rfl (b_geq _ _ _ _) ?_
 refine q_pick_f rfl rfl rfl rfl rfl ?_
 refine r_done ?_
 refine s_keep [0, 1, 19] (e' := [(0, _), (1, _), (19, _)]) rfl ?_
 refine k_then_n ?_
 refine c_cond_p rfl (fun hge => ?_) (fun hge => ?_)
 ·
  refine c_seq ?_
  refine c_plain (.q 0 (.done)) (by kernel_rfl) ?_
  refine q_assign rfl rfl rfl rfl ?_
  refine r_done ?_
  refine k_then_n ?_
  refine c_ret ?_
  refine k_then_ret ?_
  refine ret1 rfl rfl (()) (by rw [g_out (by omega)]) (by trivial) ?_
  (repeat ((with_reducible apply Z2); focus (first | (with_reducible (repeat (first | exact Z0 | apply Z1)); done) | (repeat (first | exact Z0 | apply Z1))))); (repeat (first | exact Z3 | exact Takes.self | refine takes_drop2 ?_))
 ·
  obtain ⟨x, hx⟩ := get_lt (l := l) (i := i) (by omega)
  refine c_skip ?_
  refine k_then_n ?_
  refine c_seq ?_
  refine c_plain (.q 0 (.q 1 (.q 2 (.q 3 (.q 4 (.q 5 (.q 6 (.q 7 (.done))))))))) (by kernel_rfl) ?_
  refine q_move rfl rfl rfl rfl ?_
  refine q_nil_p rfl rfl rfl rfl ?_
  refine q_field (k := 0) rfl rfl rfl rfl Try.underlying118 rfl Try.sizeOf31 rfl ?_
  refine q_load_c (j := 0) rfl rfl rfl rfl Try.isAgg31 (by with_reducible (repeat (first | exact Z0 | apply Z1))) (by first | rfl | exact (Nat.add_zero _).symm) (by rfl) ?_
  refine q_move rfl rfl rfl rfl ?_
  refine q_idxO (sz := 0) (k := i) (enc := encU) (xs := l) rfl rfl rfl rfl rfl Try.underlying31 Try.sizeOf35 hx (by first | rfl | omega) (by omega) (by with_reducible (repeat (first | exact Z0 | apply Z1))) ?_
  intro ib25 io25 ha25 hl25 hc25
  refine q_load_O (v := (.int .u64 x)) (j := 0) (k' := i) (enc := encU) (off := io25) rfl rfl rfl rfl Try.isAgg35 ha25 encU_len hx (by with_reducible (repeat (first | exact Z0 | apply Z1))) (by first | rfl | exact (Nat.add_zero _).symm | omega) (by rfl) ?_
  refine q_assign rfl rfl rfl rfl ?_
  refine r_done ?_
  refine s_keep [4] (e' := [(4, _)]) rfl ?_
  refine k_then_n ?_
  refine c_ret ?_
  refine ret1 rfl rfl (()) (by rw [getD_mem hx]) (by trivial) ?_
  (repeat ((with_reducible apply Z2); focus (first | (with_reducible (repeat (first | exact Z0 | apply Z1)); done) | (repeat (first | exact Z0 | apply Z1))))); (repeat (first | exact Z3 | exact Takes.self | refine takes_drop2 ?_))






theorem copy_spec (b : Nat) (l : List Int) (ao : Option Addr) (n cap : Nat) (hn : l.length = n) (hb : n ≤ 4000000000) : Spec Try.prog 69 [.pointer (some ⟨b, 0, none⟩)] [cells b 0 [.slice ao n cap], own 1 encU ao cap l] (fun (r : Nat × Option Addr × Nat) => .pointer (some ⟨r.1, 0, none⟩)) (fun r => True) (fun r => [cells b 0 [.slice ao n cap], own 1 encU ao cap l, cells r.1 0 [.slice r.2.1 n r.2.2], own 1 encU r.2.1 r.2.2 l]) := by
 refine spec_mk (n := 21) Try.func69 rfl rfl rfl ?_
 intro Γ w0
 simp only [argE, List.cons_append, List.nil_append, Nat.zero_add, Nat.reduceAdd]
 refine c_seq ?_
 refine c_plain (.q 0 (.done)) (by kernel_rfl) ?_
 refine q_assign rfl rfl rfl rfl ?_
 refine r_done ?_
 refine k_then_n ?_
 refine c_seq ?_
 refine c_seq ?_
 refine c_plain (.q 0 (.q 1 (.done))) (by kernel_rfl) ?_
 refine q_move rfl rfl rfl rfl ?_
 refine q_eq_nil rfl rfl rfl rfl Try.underlying82 ?_
 refine s_eq 5 rfl (v' := .bool false) rfl ?_
 refine r_done ?_
 refine k_then_n ?_
 refine c_cond_f rfl ?_
 refine c_skip ?_
 refine k_then_n ?_
 refine c_seq ?_
 refine c_plain (.q 0 (.q 1 (.q 2 (.q 3 (.q 4 ((.l 5 [] (.q 6 (.done))))))))) (by kernel_rfl) ?_
 refine q_move rfl rfl rfl rfl ?_
 refine q_nil_p rfl rfl rfl rfl ?_
 refine q_field (k := 0) rfl rfl rfl rfl Try.underlying118 rfl Try.sizeOf31 rfl ?_
 refine q_load_c (j := 0) rfl rfl rfl rfl Try.isAgg31 (by with_reducible (repeat (first | exact Z0 | apply Z1))) (by first | rfl | exact (Nat.add_zero _).symm) (by rfl) ?_
 refine q_len rfl rfl rfl rfl Try.underlying31 ?_
 refine l_make (sz := 1) (enc := encU) (len := n) (cap := n) (0) rfl rfl rfl rfl rfl (by first | rfl | omega) (by first | rfl | omega) Try.underlying31 Try.typeInfo35 rfl rfl rfl (by decide) (by omega) (by omega) (by show 8 * _ ≤ _; omega) (by rfl) (encU_len) ?_
 intro b11
 refine ag_nil ?_
 refine q_assign rfl rfl rfl rfl ?_
 refine r_done ?_
 refine s_keep [0, 3] (e' := [(0, _), (3, _)]) rfl ?_
 refine k_then_n ?_
 refine c_seq ?_
 refine c_plain (.q 0 (.q 1 (.q 2 (.q 3 (.q 4 ((.l 5 [] (.done)))))))) (by kernel_rfl) ?_
 refine q_move rfl rfl rfl rfl ?_
 refine q_move rfl rfl rfl rfl ?_
 refine q_nil_p rfl rfl rfl rfl ?_
 refine q_field (k := 0) rfl rfl rfl rfl Try.underlying118 rfl Try.sizeOf31 rfl ?_
 refine q_load_c (j := 0) rfl rfl rfl rfl Try.isAgg31 (by with_reducible (repeat (first | exact Z0 | apply Z1))) (by first | rfl | exact (Nat.add_zero _).symm) (by rfl) ?_
 refine s_take (A := own 1 encU ao cap l) (by with_reducible (repeat (first | exact Z0 | apply Z1))) ?_
 refine own_fc fun f_1a f_1b f_1c => ?_
 refine l_copy (sz := 1) (enc := encU) (xs := (List.replicate n 0)) (ys := l) (A := own 1 encU ao cap l) rfl rfl rfl rfl rfl Try.underlying31 Try.sizeOf35 (by decide) encU_len encU_one (by with_reducible (repeat (first | exact Z0 | apply Z1))) (by with_reducible (repeat (first | exact Z0 | apply Z1))) (rds_own encU_len (fun h => (f_1b h).1) f_1c) (by first | rfl | assumption | omega | (simp; done) | (simp; omega)) (by exact hn) (by omega) ?_
 rw [show (l ++ (List.replicate n 0).drop n) = l from by simp]
 refine ag_nil ?_
 refine r_done ?_
 refine s_keep [3] (e' := [(3, _)]) rfl ?_
 refine k_then_n ?_
 refine c_seq ?_
 refine c_plain (.q 0 (.q 1 ((.l 2 [] (.q 3 (.done)))))) (by kernel_rfl) ?_
 refine q_move rfl rfl rfl rfl ?_
 refine q_build rfl rfl rfl rfl (vs := [_]) (run_buildS Try.underlying118 Try.zeroValue118 (ps := [(0, 1)]) ⟨rfl, Try.sizeOf31, trivial⟩ rfl) ?_
 refine l_box rfl rfl rfl rfl (us := [_]) rfl ?_
 intro b20
 refine ag_nil ?_
 refine q_assign rfl rfl rfl rfl ?_
 refine r_done ?_
 refine s_keep [2] (e' := [(2, _)]) rfl ?_
 refine k_then_n ?_
 refine c_ret ?_
 refine ret1 rfl rfl ((b20, some ⟨b11, 0, none⟩, n)) (by first | rfl | (first | rfl | (congr 1; done) | (congr 1 <;> first | rfl | omega | (simp; done) | (simp; omega)))) (by trivial) ?_
 (repeat ((with_reducible apply Z2); focus (first | (with_reducible (repeat (first | exact Z0 | apply Z1)); done) | (repeat (first | exact Z0 | apply Z1))))); (repeat (first | exact Z3 | exact Takes.self | refine takes_drop2 ?_))



end Go.Ab.Vc
