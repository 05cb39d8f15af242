/- Package sched's law Turns. -/
import Derived.Test.YtmaonhoplaebhaaSc8
set_option linter.unusedVariables false
set_option linter.unusedSimpArgs false
set_option maxRecDepth 100000
namespace Go.Ab.Sc
open Go Go.Proofs Go.Ab
/-- What is handed in, with a mark behind it. -/
abbrev gf (g : Lst) : HProp := own 1 encW g.1 g.2.1 (g.2.2 ++ [71])
theorem gf_facts (g : Lst) (h : Hp) (o : gf g h) : g.2.2.length + 1 ≤ g.2.1 ∧ g.1 ≠ none ∧ (∃ b off, g.1 = some ⟨b, off, none⟩) := by
  have h1 := rds_own_flat o
  have h0 : g.1 ≠ none := fun e => by have := h1.1 e; simp at this
  exact ⟨by have := o.1; simpa using this, h0, h1.2 h0⟩
theorem gf_rds {g : Lst} (h : ∃ b off, g.1 = some ⟨b, off, none⟩) : RdS (gf g) g.1 ((g.2.2 ++ [71]).flatMap encW) := rds_own encW_len (fun e => by obtain ⟨b, o, h⟩ := h; rw [h] at e; cases e) (fun _ => h)
theorem gf_rds1 {g : Lst} (h : ∃ b off, g.1 = some ⟨b, off, none⟩) : RdS (gf g) g.1 (g.2.2.flatMap encW) := by
  have := rds_take (gf_rds h) encW_len g.2.2.length
  rwa [List.take_left] at this
structure GI (L G : List Lst) (i : Nat) : Prop where
  len : G.length = i
  same : ∀ (j : Nat) (x g : Lst), L[j]? = some x → G[j]? = some g → g.2.2 = x.2.2
theorem gi_next {L G : List Lst} {i : Nat} {x g : Lst} (h : GI L G i) (hx : L[i]? = some x) (hg : g.2.2 = x.2.2) : GI L (G ++ [g]) (i + 1) := by
  refine ⟨by rw [List.length_append, h.len]; rfl, fun j y q hy hq => ?_⟩
  by_cases hj : j < i
  · rw [List.getElem?_append_left (by rw [h.len]; exact hj)] at hq
    exact h.same j y q hy hq
  · rw [List.getElem?_append_right (by rw [h.len]; omega), h.len] at hq
    obtain rfl : j = i := by
      rcases Nat.lt_or_ge (j - i) 1 with h3 | h3
      · omega
      · rw [List.getElem?_eq_none (by simpa using h3)] at hq; cases hq
    simp at hq; subst hq
    rw [hx] at hy; cases hy
    exact hg
theorem gi_map {L G : List Lst} (h : GI L G L.length) : G.map (·.2.2) = L.map (·.2.2) := by
  apply List.ext_getElem?
  intro j
  rw [List.getElem?_map, List.getElem?_map]
  by_cases hj : j < L.length
  · obtain ⟨x, hx⟩ := get_lt hj
    obtain ⟨g, hg⟩ := get_lt (l := G) (i := j) (by rw [h.len]; exact hj)
    rw [hx, hg, Option.map_some, Option.map_some, h.same j x g hx hg]
  · rw [List.getElem?_eq_none (by rw [h.len]; omega), List.getElem?_eq_none (by omega)]
theorem trn_len (n : Nat) (ps : List (List Int)) : (trn n ps).length = n := by
  have := take_le (full ps (lng ps)) n
  simp only [trn, List.length_append, List.length_replicate]; omega
theorem tnL_le (n : Int) (ps : List (List Int)) : (tnL n ps).length ≤ 1048576 := by
  unfold tnL
  split
  · rename_i h; have := lenE_ok h; rw [trn_len]; omega
  · simp
theorem own_hdr {G : List Lst} {ag : Option Addr} {cg i : Nat} {g g' : Lst} (hg : G[i]? = some g) (h : encHW g' = encHW g) : own 1 encHW ag cg G = own 1 encHW ag cg (G.set i g') := by
  have hl : (G.set i g').length = G.length := List.length_set
  have hf : (G.set i g').flatMap encHW = G.flatMap encHW := by
    rw [List.flatMap_def, List.flatMap_def, List.map_set]
    congr 1
    apply List.ext_getElem?
    intro j
    rw [List.getElem?_set]
    split
    · rename_i e; subst e
      rw [List.getElem?_map, hg, Option.map_some, h]
      split
      · rfl
      · rename_i h2; simp at h2; rw [List.getElem?_eq_none h2] at hg; cases hg
    · rfl
  unfold own
  rw [hl, hf]
theorem turnslaw_spec (L : List Lst) (n : Int) (bo : Option Addr) (m c : Nat) (A : HProp) (hr : RdS A bo (L.flatMap encHW)) (hm : L.length = m) (hc : ∀ x ∈ L, RdS A x.1 (x.2.2.flatMap encW)) (hb : m ≤ 1048576) (hb2 : ∀ x ∈ L, x.2.2.length ≤ 1048576) : Spec Try.prog 4 [.int .i64 n, .slice bo m c] [A] (fun (_ : Unit) => .bool true) (fun _ => True) (fun _ => [A]) := by
  refine spec_mk (n := 169) Try.func4 rfl rfl rfl ?_
  intro Γ w0
  simp only [argE, List.cons_append, List.nil_append, Nat.zero_add, Nat.reduceAdd]
  refine c_seq ?_
  refine c_plain (.q 0 (.done)) (by kernel_rfl) ?_
  refine q_assign rfl rfl rfl rfl ?_
  refine r_done ?_
  refine k_then_n ?_
  refine c_seq ?_
  refine c_plain (.q 0 (.done)) (by kernel_rfl) ?_
  refine q_assign rfl rfl rfl rfl ?_
  refine r_done ?_
  refine k_then_n ?_
  refine c_seq ?_
  refine c_seq ?_
  refine c_plain (.q 0 (.done)) (by kernel_rfl) ?_
  refine q_assign rfl rfl rfl rfl ?_
  refine r_done ?_
  refine k_then_n ?_
  refine c_block ?_
  refine s_heap (fun _ h => own_nil (sz := 1) (enc := encHW) h) ?_
  refine s_big_nil (f := gf) ?_
  refine c_loop2 (α := Nat × List Lst × Option Addr × Nat) (fun (x_ : Nat × List Lst × Option Addr × Nat) => match x_ with | (i, G, ag, cg) => i ≤ m ∧ (GI L G i)) (fun (x_ : Nat × List Lst × Option Addr × Nat) => match x_ with | (i, G, ag, cg) => [(5, .slice ag G.length cg), (6, .int .i64 ((i : Nat) : Int))]) (fun (x_ : Nat × List Lst × Option Addr × Nat) => match x_ with | (i, G, ag, cg) => [bigS gf G, own 1 encHW ag cg G]) (fun (x_ : Nat × List Lst × Option Addr × Nat) => match x_ with | (i, G, ag, cg) => m - i) [0, 1] (er := [(0, _), (1, _)]) rfl (0, [], none, 0) ?_ (by exact ⟨rfl, rfl, trivial⟩) (by (try dsimp only); (try simp only [Nat.add_zero, Nat.zero_add]); (repeat ((with_reducible apply Takes.cons); focus (first | (with_reducible (repeat (first | exact Take.here | apply Take.there)); done) | (repeat (first | exact Take.here | apply Take.there))))); exact Takes.nil) ?_
  · exact ⟨Nat.zero_le _, ⟨rfl, fun j x g _ h => by simp at h⟩⟩
  rintro ⟨i, G, ag, cg⟩ ⟨hle_i, hG⟩
  try simp only [List.cons_append, List.nil_append]
  have hgll := hG.len
  refine c_seq ?_
  refine c_seq ?_
  refine c_plain (.q 0 (.q 1 (.q 2 (.q 3 (.done))))) (by kernel_rfl) ?_
  refine q_move rfl rfl rfl rfl ?_
  refine q_move rfl rfl rfl rfl ?_
  refine q_len rfl rfl rfl rfl Try.underlying23 ?_
  refine q_int rfl rfl rfl rfl rfl (b_lss _ _ _ _) ?_
  refine r_done ?_
  refine k_then_n ?_
  refine c_cond_p rfl (fun hlt => ?_) (fun hlt => ?_)
  · skip
    refine c_skip ?_
    refine k_then_n ?_
    refine c_seq ?_
    refine c_block ?_
    refine c_draw rfl (.q 0 (.q 1 (.q 2 (.q 3 (.q 4 (.q 8 (.q 9 (.q 10 (.q 11 (.q 12 ((.alt (.l 5 [11, 12] ((.l 6 [11, 12] ((.l 7 [11, 12] (.q 13 ((.l 14 [] ((.l 15 [] ((.l 16 [] (.done))))))))))))) (.l 6 [4, 11, 12] ((.l 5 [11, 12] ((.l 7 [11, 12] (.q 13 ((.l 14 [] ((.l 15 [] ((.l 16 [] (.done))))))))))))))))))))))))) (by kernel_rfl) ?_
    refine q_move rfl rfl rfl rfl ?_
    refine q_move rfl rfl rfl rfl ?_
    refine q_move rfl rfl rfl rfl ?_
    obtain ⟨x, hx⟩ := get_lt (l := L) (i := i) (by first | omega | (simp; done) | (simp; omega))
    have hxb := hb2 _ (List.mem_of_getElem? hx)
    refine q_idxR (sz := 0) (k := i) rfl rfl rfl rfl rfl Try.underlying23 Try.sizeOf24 (hr) hx encHW_len (by first | rfl | omega) (by omega) ?_
    intro ib29 io29 _ hd29
    refine q_load rfl rfl rfl rfl Try.isAgg24 (by with_reducible (repeat (first | exact Take.here | apply Take.there))) (hd29 0 (.slice x.1 x.2.2.length x.2.1) rfl) ?_
    refine q_move rfl rfl rfl rfl ?_
    refine q_move rfl rfl rfl rfl ?_
    refine q_idxR (sz := 0) (k := i) rfl rfl rfl rfl rfl Try.underlying23 Try.sizeOf24 (hr) hx encHW_len (by first | rfl | omega) (by omega) ?_
    intro ib36 io36 _ hd36
    refine q_load rfl rfl rfl rfl Try.isAgg24 (by with_reducible (repeat (first | exact Take.here | apply Take.there))) (hd36 0 (.slice x.1 x.2.2.length x.2.1) rfl) ?_
    refine q_len rfl rfl rfl rfl Try.underlying24 ?_
    refine r_alt ?_ ?_
    · skip
      refine s_heap (fun _ h => own_nil (sz := 1) (enc := encW) h) ?_
      refine l_append (sz := 1) (enc := encW) (xs := []) rfl rfl rfl rfl rfl Try.underlying24 Try.typeInfo25 rfl rfl rfl (by decide) (by with_reducible (repeat (first | exact Take.here | apply Take.there))) (by with_reducible (repeat (first | exact Take.here | apply Take.there))) (by first | rfl | omega | (simp; done) | (simp; omega)) (ys := x.2.2) ((hc _ (List.mem_of_getElem? hx))) (by rfl) (by first | rfl | omega) (encW_len) (encW_one) (by omega) (by show _ * 4 ≤ _; omega) ?_
      intro ao31 cp31
      try simp only [List.nil_append]
      refine ag_load rfl rfl rfl Try.isAgg24 (by with_reducible (repeat (first | exact Take.here | apply Take.there))) (hd36 0 (.slice x.1 x.2.2.length x.2.1) rfl) ?_
      refine ag_len rfl rfl rfl Try.underlying24 ?_
      refine ag_nil ?_
      refine l_buildSlice rfl rfl rfl rfl (run_build1 (us := [_]) Try.underlying24 Try.sizeOf25 rfl Try.zeroValue25 rfl rfl rfl) ?_
      intro b32
      refine ag_load rfl rfl rfl Try.isAgg24 (by with_reducible (repeat (first | exact Take.here | apply Take.there))) (hd36 0 (.slice x.1 x.2.2.length x.2.1) rfl) ?_
      refine ag_len rfl rfl rfl Try.underlying24 ?_
      refine ag_nil ?_
      refine l_append (sz := 1) (enc := encW) (xs := (x.2.2)) rfl rfl rfl rfl rfl Try.underlying24 Try.typeInfo25 rfl rfl rfl (by decide) (by with_reducible (repeat (first | exact Take.here | apply Take.there))) (by with_reducible (repeat (first | exact Take.here | apply Take.there))) (by first | rfl | omega | (simp; done) | (simp; omega)) (ys := [71]) (rds_some rdn_cells) (by rfl) (by first | rfl | omega) (encW_len) (encW_one) (by omega) (by show _ * 4 ≤ _; omega) ?_
      intro ao33 cp33
      refine ag_load rfl rfl rfl Try.isAgg24 (by with_reducible (repeat (first | exact Take.here | apply Take.there))) (hd36 0 (.slice x.1 x.2.2.length x.2.1) rfl) ?_
      refine ag_len rfl rfl rfl Try.underlying24 ?_
      refine ag_nil ?_
      refine s_take (A := own 1 encW ao33 cp33 (x.2.2 ++ [71])) (by with_reducible (repeat (first | exact Take.here | apply Take.there))) ?_
      refine own_fc fun hp1 hp2 hp3 => ?_
      refine q_cut_hi (h' := x.2.2.length) rfl rfl rfl rfl rfl Try.underlying24 Try.sizeOf25 (by first | rfl | omega) (by simp at hp1; omega) ?_
      refine s_take (A := own 1 encW ao33 cp33 ((x.2.2) ++ ([71]))) (by with_reducible (repeat (first | exact Take.here | apply Take.there))) ?_
      refine own_fc fun f_1a f_1b f_1c => ?_
      refine l_buildSlice rfl rfl rfl rfl (run_build1 (us := [_]) Try.underlying23 Try.sizeOf24 rfl Try.zeroValue24 rfl rfl rfl) ?_
      intro b40
      refine ag_nil ?_
      refine l_append (sz := 1) (enc := encHW) (xs := G) rfl rfl rfl rfl rfl Try.underlying23 Try.typeInfo24 rfl rfl rfl (by decide) (by with_reducible (repeat (first | exact Take.here | apply Take.there))) (by with_reducible (repeat (first | exact Take.here | apply Take.there))) (by first | rfl | omega | (simp; done) | (simp; omega)) (ys := [(ao33, cp33, x.2.2)]) (rds_some rdn_cells) (by rfl) (by first | rfl | omega) (encHW_len) (encHW_one) (by omega) (by show _ * 24 ≤ _; omega) ?_
      intro ao41 cp41
      refine ag_nil ?_
      refine l_assign rfl rfl rfl rfl ?_
      refine ag_nil ?_
      refine r_done ?_
      refine s_keep [0, 1, 5, 6] (e' := [(0, _), (1, _), (5, _), (6, _)]) rfl ?_
      refine k_blk_n ?_
      refine k_then_n ?_
      refine c_plain (.q 0 (.q 1 (.q 2 (.done)))) (by kernel_rfl) ?_
      refine q_move rfl rfl rfl rfl ?_
      refine q_int rfl rfl rfl rfl rfl (b_add' _ (by (first | exact fits_i64 (by omega) (by omega) | exact fits_u64 (by omega) (by omega) | exact fits_u32 (by omega) (by omega) | exact fits_u8 (by omega) (by omega)))) ?_
      refine q_assign rfl rfl rfl rfl ?_
      refine r_done ?_
      refine k_then_n ?_
      refine s_big_push (f := gf) (L := G) (x := (ao33, cp33, x.2.2)) (by (repeat ((with_reducible apply Takes.cons); focus (first | (with_reducible (repeat (first | exact Take.here | apply Take.there)); done) | (repeat (first | exact Take.here | apply Take.there))))); exact Takes.nil) ?_
      refine s_eq 5 rfl (v' := .slice ao41 (G ++ [(ao33, cp33, x.2.2)]).length cp41) (by simp) ?_
      refine loop_next (x := (i, G, ag, cg)) ((i + 1, G ++ [(ao33, cp33, x.2.2)], ao41, cp41)) ?_ ?_ ?_ ?_
      · try dsimp only
        exact ⟨by omega, gi_next hG hx rfl⟩
      · show m - (i + 1) < m - i; omega
      · exact ⟨rfl, rfl, rfl, rfl, trivial⟩
      · (try simp only [List.cons_append, List.nil_append]); (repeat ((with_reducible apply Takes.cons); focus (first | (with_reducible (repeat (first | exact Take.here | apply Take.there)); done) | (repeat (first | exact Take.here | apply Take.there))))); (repeat (first | exact Takes.nil | exact Takes.self | refine takes_drop2 ?_))
    refine l_buildSlice rfl rfl rfl rfl (run_build1 (us := [_]) Try.underlying24 Try.sizeOf25 rfl Try.zeroValue25 rfl rfl rfl) ?_
    intro b32
    refine ag_load rfl rfl rfl Try.isAgg24 (by with_reducible (repeat (first | exact Take.here | apply Take.there))) (hd29 0 (.slice x.1 x.2.2.length x.2.1) rfl) ?_
    refine ag_load rfl rfl rfl Try.isAgg24 (by with_reducible (repeat (first | exact Take.here | apply Take.there))) (hd36 0 (.slice x.1 x.2.2.length x.2.1) rfl) ?_
    refine ag_len rfl rfl rfl Try.underlying24 ?_
    refine ag_nil ?_
    refine s_heap (fun _ h => own_nil (sz := 1) (enc := encW) h) ?_
    refine l_append (sz := 1) (enc := encW) (xs := []) rfl rfl rfl rfl rfl Try.underlying24 Try.typeInfo25 rfl rfl rfl (by decide) (by with_reducible (repeat (first | exact Take.here | apply Take.there))) (by with_reducible (repeat (first | exact Take.here | apply Take.there))) (by first | rfl | omega | (simp; done) | (simp; omega)) (ys := x.2.2) ((hc _ (List.mem_of_getElem? hx))) (by rfl) (by first | rfl | omega) (encW_len) (encW_one) (by omega) (by show _ * 4 ≤ _; omega) ?_
    intro ao31 cp31
    try simp only [List.nil_append]
    refine ag_load rfl rfl rfl Try.isAgg24 (by with_reducible (repeat (first | exact Take.here | apply Take.there))) (hd36 0 (.slice x.1 x.2.2.length x.2.1) rfl) ?_
    refine ag_len rfl rfl rfl Try.underlying24 ?_
    refine ag_nil ?_
    refine l_append (sz := 1) (enc := encW) (xs := (x.2.2)) rfl rfl rfl rfl rfl Try.underlying24 Try.typeInfo25 rfl rfl rfl (by decide) (by with_reducible (repeat (first | exact Take.here | apply Take.there))) (by with_reducible (repeat (first | exact Take.here | apply Take.there))) (by first | rfl | omega | (simp; done) | (simp; omega)) (ys := [71]) (rds_some rdn_cells) (by rfl) (by first | rfl | omega) (encW_len) (encW_one) (by omega) (by show _ * 4 ≤ _; omega) ?_
    intro ao33 cp33
    refine ag_load rfl rfl rfl Try.isAgg24 (by with_reducible (repeat (first | exact Take.here | apply Take.there))) (hd36 0 (.slice x.1 x.2.2.length x.2.1) rfl) ?_
    refine ag_len rfl rfl rfl Try.underlying24 ?_
    refine ag_nil ?_
    refine s_take (A := own 1 encW ao33 cp33 (x.2.2 ++ [71])) (by with_reducible (repeat (first | exact Take.here | apply Take.there))) ?_
    refine own_fc fun hp1 hp2 hp3 => ?_
    refine q_cut_hi (h' := x.2.2.length) rfl rfl rfl rfl rfl Try.underlying24 Try.sizeOf25 (by first | rfl | omega) (by simp at hp1; omega) ?_
    refine s_take (A := own 1 encW ao33 cp33 ((x.2.2) ++ ([71]))) (by with_reducible (repeat (first | exact Take.here | apply Take.there))) ?_
    refine own_fc fun f_2a f_2b f_2c => ?_
    refine l_buildSlice rfl rfl rfl rfl (run_build1 (us := [_]) Try.underlying23 Try.sizeOf24 rfl Try.zeroValue24 rfl rfl rfl) ?_
    intro b40
    refine ag_nil ?_
    refine l_append (sz := 1) (enc := encHW) (xs := G) rfl rfl rfl rfl rfl Try.underlying23 Try.typeInfo24 rfl rfl rfl (by decide) (by with_reducible (repeat (first | exact Take.here | apply Take.there))) (by with_reducible (repeat (first | exact Take.here | apply Take.there))) (by first | rfl | omega | (simp; done) | (simp; omega)) (ys := [(ao33, cp33, x.2.2)]) (rds_some rdn_cells) (by rfl) (by first | rfl | omega) (encHW_len) (encHW_one) (by omega) (by show _ * 24 ≤ _; omega) ?_
    intro ao41 cp41
    refine ag_nil ?_
    refine l_assign rfl rfl rfl rfl ?_
    refine ag_nil ?_
    refine r_done ?_
    refine s_keep [0, 1, 5, 6] (e' := [(0, _), (1, _), (5, _), (6, _)]) rfl ?_
    refine k_blk_n ?_
    refine k_then_n ?_
    refine c_plain (.q 0 (.q 1 (.q 2 (.done)))) (by kernel_rfl) ?_
    refine q_move rfl rfl rfl rfl ?_
    refine q_int rfl rfl rfl rfl rfl (b_add' _ (by (first | exact fits_i64 (by omega) (by omega) | exact fits_u64 (by omega) (by omega) | exact fits_u32 (by omega) (by omega) | exact fits_u8 (by omega) (by omega)))) ?_
    refine q_assign rfl rfl rfl rfl ?_
    refine r_done ?_
    refine k_then_n ?_
    refine s_big_push (f := gf) (L := G) (x := (ao33, cp33, x.2.2)) (by (repeat ((with_reducible apply Takes.cons); focus (first | (with_reducible (repeat (first | exact Take.here | apply Take.there)); done) | (repeat (first | exact Take.here | apply Take.there))))); exact Takes.nil) ?_
    refine s_eq 5 rfl (v' := .slice ao41 (G ++ [(ao33, cp33, x.2.2)]).length cp41) (by simp) ?_
    refine loop_next (x := (i, G, ag, cg)) ((i + 1, G ++ [(ao33, cp33, x.2.2)], ao41, cp41)) ?_ ?_ ?_ ?_
    · try dsimp only
      exact ⟨by omega, gi_next hG hx rfl⟩
    · show m - (i + 1) < m - i; omega
    · exact ⟨rfl, rfl, rfl, rfl, trivial⟩
    · (try simp only [List.cons_append, List.nil_append]); (repeat ((with_reducible apply Takes.cons); focus (first | (with_reducible (repeat (first | exact Take.here | apply Take.there)); done) | (repeat (first | exact Take.here | apply Take.there))))); (repeat (first | exact Takes.nil | exact Takes.self | refine takes_drop2 ?_))
  · skip
    refine c_exit ?_
    refine k_then_exit ?_
    refine k_then_exit ?_
    refine k_blk_here ?_
    refine k_then_n ?_
    refine c_seq ?_
    have htl := tnL_le n (L.map (·.2.2))
    obtain rfl : m = i := by omega
    have hgll := hG.len
    refine s_eq 5 rfl (v' := .slice ag m cg) (by rw [hgll]) ?_
    have hgm := gi_map (by rw [hm]; exact hG)
    refine s_take (A := own 1 encHW ag cg G) (by with_reducible (repeat (first | exact Take.here | apply Take.there))) ?_
    refine own_fc fun hga0 hga1 hgb => ?_
    have hga : ag = none → G = [] := fun h => (hga1 h).1
    refine s_bigall (f := gf) (L := G) gf_facts (by with_reducible (repeat (first | exact Take.here | apply Take.there))) fun hgf => ?_
    have hgl : ∀ x ∈ G, x.2.2.length ≤ 4000000000000 := fun x hx => by
      obtain ⟨j, hj⟩ := List.getElem?_of_mem hx
      obtain ⟨y, hy⟩ := get_lt (l := L) (i := j) (by have := (List.getElem?_eq_some_iff.1 hj).1; omega)
      rw [hG.same j y x hy hj]
      have := hb2 _ (List.mem_of_getElem? hy); omega
    refine c_plain (.q 0 (.q 1 ((.l 2 [] (.q 3 (.q 4 (.q 5 (.q 6 (.q 7 (.done)))))))))) (by kernel_rfl) ?_
    refine q_move rfl rfl rfl rfl ?_
    refine q_move rfl rfl rfl rfl ?_
    have sp_3 := rturns_spec L n bo m c A hr hm hc (by omega) (fun x hx => by have := hb2 x hx; omega)
    refine l_call rfl rfl rfl rfl rfl rfl Try.call11 (sp_3) (by (repeat ((with_reducible apply Takes.cons); focus (first | (with_reducible (repeat (first | exact Take.here | apply Take.there)); done) | (repeat (first | exact Take.here | apply Take.there))))); exact Takes.nil) ?_
    rintro ⟨wa, wc⟩ -
    try simp only [List.cons_append, List.nil_append]
    refine ag_nil ?_
    refine q_move rfl rfl rfl rfl ?_
    refine q_extract rfl rfl rfl rfl rfl ?_
    refine q_extract rfl rfl rfl rfl rfl ?_
    refine q_assign rfl rfl rfl rfl ?_
    refine q_assign rfl rfl rfl rfl ?_
    refine r_done ?_
    refine s_keep [0, 1, 5, 7, 8] (e' := [(0, _), (1, _), (5, _), (7, _), (8, _)]) rfl ?_
    refine k_then_n ?_
    refine c_seq ?_
    refine c_plain (.q 0 (.q 1 ((.l 2 [] (.q 3 (.q 4 (.q 5 (.q 6 (.q 7 (.done)))))))))) (by kernel_rfl) ?_
    refine q_move rfl rfl rfl rfl ?_
    refine q_move rfl rfl rfl rfl ?_
    refine s_heap (fun _ h => Bun.fold ((by (repeat ((with_reducible apply Takes.cons); focus (first | (with_reducible (repeat (first | exact Take.here | apply Take.there)); done) | (repeat (first | exact Take.here | apply Take.there))))); exact Takes.nil : Takes _ [own 1 encHW ag cg G, bigS gf G] _) _ h)) ?_
    have sp_4 := turns_spec G n ag m cg (Bun [own 1 encHW ag cg G, bigS gf G]) (rds_bun (List.mem_cons_self) (rds_own encHW_len hga hgb)) (by omega) (fun x hx => rds_bun (List.mem_cons_of_mem _ (List.mem_cons_self)) (rds_big hx (gf_rds1 (hgf x hx).2.2))) (by omega) hgl
    refine l_call rfl rfl rfl rfl rfl rfl Try.call12 (sp_4) (by (repeat ((with_reducible apply Takes.cons); focus (first | (with_reducible (repeat (first | exact Take.here | apply Take.there)); done) | (repeat (first | exact Take.here | apply Take.there))))); exact Takes.nil) ?_
    rintro ⟨aa, ac⟩ -
    try simp only [List.cons_append, List.nil_append]
    refine s_take (A := Bun [own 1 encHW ag cg G, bigS gf G]) (by with_reducible (repeat (first | exact Take.here | apply Take.there))) ?_
    refine s_bun ?_
    try simp only [List.cons_append, List.nil_append]
    rw [hgm]
    try simp only [List.cons_append, List.nil_append]
    refine ag_nil ?_
    refine q_move rfl rfl rfl rfl ?_
    refine q_extract rfl rfl rfl rfl rfl ?_
    refine q_extract rfl rfl rfl rfl rfl ?_
    refine q_assign rfl rfl rfl rfl ?_
    refine q_assign rfl rfl rfl rfl ?_
    refine r_done ?_
    refine s_keep [0, 1, 5, 7, 8, 9, 10] (e' := [(0, _), (1, _), (5, _), (7, _), (8, _), (9, _), (10, _)]) rfl ?_
    refine k_then_n ?_
    refine c_seq ?_
    refine c_plain (.q 0 (.q 1 ((.l 2 [] (.q 3 (.q 4 (.q 5 (.q 6 (.q 7 (.done)))))))))) (by kernel_rfl) ?_
    refine q_move rfl rfl rfl rfl ?_
    refine q_move rfl rfl rfl rfl ?_
    refine s_heap (fun _ h => Bun.fold ((by (repeat ((with_reducible apply Takes.cons); focus (first | (with_reducible (repeat (first | exact Take.here | apply Take.there)); done) | (repeat (first | exact Take.here | apply Take.there))))); exact Takes.nil : Takes _ [own 1 encHW ag cg G, bigS gf G] _) _ h)) ?_
    have sp_5 := turns_spec G n ag m cg (Bun [own 1 encHW ag cg G, bigS gf G]) (rds_bun (List.mem_cons_self) (rds_own encHW_len hga hgb)) (by omega) (fun x hx => rds_bun (List.mem_cons_of_mem _ (List.mem_cons_self)) (rds_big hx (gf_rds1 (hgf x hx).2.2))) (by omega) hgl
    refine l_call rfl rfl rfl rfl rfl rfl Try.call12 (sp_5) (by (repeat ((with_reducible apply Takes.cons); focus (first | (with_reducible (repeat (first | exact Take.here | apply Take.there)); done) | (repeat (first | exact Take.here | apply Take.there))))); exact Takes.nil) ?_
    rintro ⟨ba, bc⟩ -
    try simp only [List.cons_append, List.nil_append]
    refine s_take (A := Bun [own 1 encHW ag cg G, bigS gf G]) (by with_reducible (repeat (first | exact Take.here | apply Take.there))) ?_
    refine s_bun ?_
    try simp only [List.cons_append, List.nil_append]
    rw [hgm]
    try simp only [List.cons_append, List.nil_append]
    refine ag_nil ?_
    refine q_move rfl rfl rfl rfl ?_
    refine q_extract rfl rfl rfl rfl rfl ?_
    refine q_extract rfl rfl rfl rfl rfl ?_
    refine q_assign rfl rfl rfl rfl ?_
    refine q_assign rfl rfl rfl rfl ?_
    refine r_done ?_
    refine s_keep [0, 1, 5, 7, 8, 9, 10, 11, 12] (e' := [(0, _), (1, _), (5, _), (7, _), (8, _), (9, _), (10, _), (11, _), (12, _)]) rfl ?_
    refine k_then_n ?_
    refine c_seq ?_
    refine c_seq ?_
    refine c_plain (.q 0 (.q 1 (.q 2 (.q 3 (.q 4 (.q 5 (.q 6 (.q 7 (.q 8 (.q 9 (.q 10 ((.l 11 [] (.q 12 (.q 13 (.q 14 (.q 15 (.q 16 ((.l 17 [] (.q 18 (.q 19 (.done))))))))))))))))))))))) (by kernel_rfl) ?_
    refine q_move rfl rfl rfl rfl ?_
    refine q_move rfl rfl rfl rfl ?_
    refine q_int rfl rfl rfl rfl rfl (b_neq _ _ _ _) ?_
    refine q_move rfl rfl rfl rfl ?_
    refine s_bool_p 63 rfl (fun g_6 => by exfalso; first | omega | contradiction | (simp_all; done) | (simp_all; omega)) (fun g_6 => ?_)
    refine q_move rfl rfl rfl rfl ?_
    refine q_move rfl rfl rfl rfl ?_
    refine q_int rfl rfl rfl rfl rfl (b_neq _ _ _ _) ?_
    refine q_pick_f rfl rfl rfl rfl rfl ?_
    refine q_move rfl rfl rfl rfl ?_
    refine s_bool_p 68 rfl (fun g_7 => by exfalso; first | omega | contradiction | (simp_all; done) | (simp_all; omega)) (fun g_7 => ?_)
    refine q_move rfl rfl rfl rfl ?_
    refine q_move rfl rfl rfl rfl ?_
    refine s_take (A := own 1 encW aa ac (tnL n (L.map (·.2.2)))) (by with_reducible (repeat (first | exact Take.here | apply Take.there))) ?_
    refine own_fc fun f_8a f_8b f_8c => ?_
    refine s_take (A := own 1 encW wa wc (tnL n (L.map (·.2.2)))) (by with_reducible (repeat (first | exact Take.here | apply Take.there))) ?_
    refine own_fc fun f_9a f_9b f_9c => ?_
    refine s_heap (fun _ h => Bun.fold ((by (repeat ((with_reducible apply Takes.cons); focus (first | (with_reducible (repeat (first | exact Take.here | apply Take.there)); done) | (repeat (first | exact Take.here | apply Take.there))))); exact Takes.nil : Takes _ [own 1 encW aa ac (tnL n (L.map (·.2.2))), own 1 encW wa wc (tnL n (L.map (·.2.2)))] _) _ h)) ?_
    have sp_10 := same_spec (tnL n (L.map (·.2.2))) (tnL n (L.map (·.2.2))) aa wa ((tnL n (L.map (·.2.2))).length) ((tnL n (L.map (·.2.2))).length) ac wc (Bun [own 1 encW aa ac (tnL n (L.map (·.2.2))), own 1 encW wa wc (tnL n (L.map (·.2.2)))]) (by first | rfl | assumption | omega | (simp; done) | (simp; omega)) (rds_bun (List.mem_cons_self) (rds_own encW_len (fun h => (f_8b h).1) f_8c)) (by first | rfl | assumption | omega | (simp; done) | (simp; omega)) (rds_bun (List.mem_cons_of_mem _ (List.mem_cons_self)) (rds_own encW_len (fun h => (f_9b h).1) f_9c)) (by omega)
    refine l_call rfl rfl rfl rfl rfl rfl Try.call13 (sp_10) (by (repeat ((with_reducible apply Takes.cons); focus (first | (with_reducible (repeat (first | exact Take.here | apply Take.there)); done) | (repeat (first | exact Take.here | apply Take.there))))); exact Takes.nil) ?_
    rintro ⟨⟩ -
    try simp only [List.cons_append, List.nil_append]
    refine s_take (A := Bun [own 1 encW aa ac (tnL n (L.map (·.2.2))), own 1 encW wa wc (tnL n (L.map (·.2.2)))]) (by with_reducible (repeat (first | exact Take.here | apply Take.there))) ?_
    refine s_bun ?_
    try simp only [List.cons_append, List.nil_append]
    try simp only [List.cons_append, List.nil_append]
    refine ag_nil ?_
    refine q_not rfl rfl rfl rfl ?_
    refine q_pick_f rfl rfl rfl rfl rfl ?_
    refine q_move rfl rfl rfl rfl ?_
    refine s_bool_np 74 rfl (fun g_11 => by exfalso; first | omega | contradiction | (simp_all; done) | (simp_all; omega)) (fun g_11 => ?_)
    refine q_move rfl rfl rfl rfl ?_
    refine q_move rfl rfl rfl rfl ?_
    refine s_take (A := own 1 encW ba bc (tnL n (L.map (·.2.2)))) (by with_reducible (repeat (first | exact Take.here | apply Take.there))) ?_
    refine own_fc fun f_12a f_12b f_12c => ?_
    refine s_take (A := own 1 encW wa wc (tnL n (L.map (·.2.2)))) (by with_reducible (repeat (first | exact Take.here | apply Take.there))) ?_
    refine own_fc fun f_13a f_13b f_13c => ?_
    refine s_heap (fun _ h => Bun.fold ((by (repeat ((with_reducible apply Takes.cons); focus (first | (with_reducible (repeat (first | exact Take.here | apply Take.there)); done) | (repeat (first | exact Take.here | apply Take.there))))); exact Takes.nil : Takes _ [own 1 encW ba bc (tnL n (L.map (·.2.2))), own 1 encW wa wc (tnL n (L.map (·.2.2)))] _) _ h)) ?_
    have sp_14 := same_spec (tnL n (L.map (·.2.2))) (tnL n (L.map (·.2.2))) ba wa ((tnL n (L.map (·.2.2))).length) ((tnL n (L.map (·.2.2))).length) bc wc (Bun [own 1 encW ba bc (tnL n (L.map (·.2.2))), own 1 encW wa wc (tnL n (L.map (·.2.2)))]) (by first | rfl | assumption | omega | (simp; done) | (simp; omega)) (rds_bun (List.mem_cons_self) (rds_own encW_len (fun h => (f_12b h).1) f_12c)) (by first | rfl | assumption | omega | (simp; done) | (simp; omega)) (rds_bun (List.mem_cons_of_mem _ (List.mem_cons_self)) (rds_own encW_len (fun h => (f_13b h).1) f_13c)) (by omega)
    refine l_call rfl rfl rfl rfl rfl rfl Try.call13 (sp_14) (by (repeat ((with_reducible apply Takes.cons); focus (first | (with_reducible (repeat (first | exact Take.here | apply Take.there)); done) | (repeat (first | exact Take.here | apply Take.there))))); exact Takes.nil) ?_
    rintro ⟨⟩ -
    try simp only [List.cons_append, List.nil_append]
    refine s_take (A := Bun [own 1 encW ba bc (tnL n (L.map (·.2.2))), own 1 encW wa wc (tnL n (L.map (·.2.2)))]) (by with_reducible (repeat (first | exact Take.here | apply Take.there))) ?_
    refine s_bun ?_
    try simp only [List.cons_append, List.nil_append]
    try simp only [List.cons_append, List.nil_append]
    refine ag_nil ?_
    refine q_not rfl rfl rfl rfl ?_
    refine q_pick_f rfl rfl rfl rfl rfl ?_
    refine r_done ?_
    refine s_keep [0, 1, 5, 9, 11, 79] (e' := [(0, _), (1, _), (5, _), (9, _), (11, _), (79, _)]) rfl ?_
    refine k_then_n ?_
    refine c_cond_np rfl (fun h_15 => by exfalso; first | omega | contradiction | (simp_all; done) | (simp_all; omega)) (fun h_15 => ?_)
    refine c_skip ?_
    refine k_then_n ?_
    refine c_seq ?_
    refine c_seq ?_
    refine c_plain (.q 0 (.done)) (by kernel_rfl) ?_
    refine q_assign rfl rfl rfl rfl ?_
    refine r_done ?_
    refine k_then_n ?_
    refine c_block ?_
    refine c_loop2 (α := Nat) (fun (i : Nat) => i ≤ m) (fun (i : Nat) => [(13, .int .i64 ((i : Nat) : Int))]) (fun (i : Nat) => []) (fun (i : Nat) => m - i) [0, 1, 5, 9, 11] (er := [(0, _), (1, _), (5, _), (9, _), (11, _)]) rfl (0) ?_ (by exact ⟨rfl, trivial⟩) (by (try dsimp only); (try simp only [Nat.add_zero, Nat.zero_add]); (repeat ((with_reducible apply Takes.cons); focus (first | (with_reducible (repeat (first | exact Take.here | apply Take.there)); done) | (repeat (first | exact Take.here | apply Take.there))))); exact Takes.nil) ?_
    · exact Nat.zero_le _
    rintro i hle_i
    try simp only [List.cons_append, List.nil_append]
    refine c_seq ?_
    refine c_seq ?_
    refine c_plain (.q 0 (.q 1 (.q 2 (.q 3 (.done))))) (by kernel_rfl) ?_
    refine q_move rfl rfl rfl rfl ?_
    refine q_move rfl rfl rfl rfl ?_
    refine q_len rfl rfl rfl rfl Try.underlying23 ?_
    refine q_int rfl rfl rfl rfl rfl (b_lss _ _ _ _) ?_
    refine r_done ?_
    refine k_then_n ?_
    refine c_cond_p rfl (fun hlt => ?_) (fun hlt => ?_)
    · skip
      refine c_skip ?_
      refine k_then_n ?_
      refine c_seq ?_
      refine c_block ?_
      refine c_seq ?_
      refine c_draw rfl (.q 0 (.q 1 (.q 2 (.q 3 (.q 4 (.q 5 (.q 6 (.q 7 ((.l 8 [] (.q 9 (.q 10 (.q 11 (.q 12 (.q 13 (.q 14 (.q 15 (.q 16 (.q 17 (.q 18 (.q 19 (.q 20 (.q 21 (.q 22 (.q 23 (.q 24 (.q 25 (.q 26 (.q 27 (.q 28 (.q 29 (.q 30 (.done))))))))))))))))))))))))))))))))) (by kernel_rfl) ?_
      refine q_move rfl rfl rfl rfl ?_
      refine q_move rfl rfl rfl rfl ?_
      obtain ⟨g, hg⟩ := get_lt (l := G) (i := i) (by first | omega | (simp; done) | (simp; omega))
      have hgx := hgf _ (List.mem_of_getElem? hg)
      have hgb := hgl _ (List.mem_of_getElem? hg)
      refine q_idxO (sz := 0) (k := i) (enc := encHW) (xs := G) rfl rfl rfl rfl rfl Try.underlying23 Try.sizeOf24 hg (by first | rfl | omega) (by omega) (by with_reducible (repeat (first | exact Take.here | apply Take.there))) ?_
      intro ib88 io88 ha88 hl88 hc88
      refine q_load_O (v := (.slice g.1 g.2.2.length g.2.1)) (j := 0) (k' := i) (enc := encHW) (off := io88) rfl rfl rfl rfl Try.isAgg24 ha88 encHW_len hg (by with_reducible (repeat (first | exact Take.here | apply Take.there))) (by first | rfl | exact (Nat.add_zero _).symm | omega) (by rfl) ?_
      refine q_move rfl rfl rfl rfl ?_
      refine q_move rfl rfl rfl rfl ?_
      obtain ⟨x, hx⟩ := get_lt (l := L) (i := i) (by first | omega | (simp; done) | (simp; omega))
      have hxb := hb2 _ (List.mem_of_getElem? hx)
      refine q_idxR (sz := 0) (k := i) rfl rfl rfl rfl rfl Try.underlying23 Try.sizeOf24 (hr) hx encHW_len (by first | rfl | omega) (by omega) ?_
      intro ib92 io92 _ hd92
      refine q_load rfl rfl rfl rfl Try.isAgg24 (by with_reducible (repeat (first | exact Take.here | apply Take.there))) (hd92 0 (.slice x.1 x.2.2.length x.2.1) rfl) ?_
      refine s_heap (fun _ h => Bun.fold ((by (repeat ((with_reducible apply Takes.cons); focus (first | (with_reducible (repeat (first | exact Take.here | apply Take.there)); done) | (repeat (first | exact Take.here | apply Take.there))))); exact Takes.nil : Takes _ [bigS gf G, A] _) _ h)) ?_
      have sp_16 := same_spec g.2.2 x.2.2 g.1 x.1 g.2.2.length x.2.2.length g.2.1 x.2.1 (Bun [bigS gf G, A]) (by first | rfl | assumption | omega | (simp; done) | (simp; omega)) (rds_bun (List.mem_cons_self) (rds_big (f := gf) (List.mem_of_getElem? hg) (gf_rds1 (hgf _ (List.mem_of_getElem? hg)).2.2))) (by first | rfl | assumption | omega | (simp; done) | (simp; omega)) (rds_bun (List.mem_cons_of_mem _ (List.mem_cons_self)) ((hc _ (List.mem_of_getElem? hx)))) (by omega)
      refine l_call rfl rfl rfl rfl rfl rfl Try.call13 (sp_16) (by (repeat ((with_reducible apply Takes.cons); focus (first | (with_reducible (repeat (first | exact Take.here | apply Take.there)); done) | (repeat (first | exact Take.here | apply Take.there))))); exact Takes.nil) ?_
      rintro ⟨⟩ -
      try simp only [List.cons_append, List.nil_append]
      refine s_take (A := Bun [bigS gf G, A]) (by with_reducible (repeat (first | exact Take.here | apply Take.there))) ?_
      refine s_bun ?_
      try simp only [List.cons_append, List.nil_append]
      try simp only [List.cons_append, List.nil_append]
      refine ag_nil ?_
      refine q_not rfl rfl rfl rfl ?_
      refine q_move rfl rfl rfl rfl ?_
      refine s_bool_np 96 rfl (fun hgu => by exfalso; exact hgu (hG.same i _ _ hx hg)) (fun hgu => ?_)
      refine q_move rfl rfl rfl rfl ?_
      refine q_move rfl rfl rfl rfl ?_
      refine q_idxO (sz := 0) (k := i) (enc := encHW) (xs := G) rfl rfl rfl rfl rfl Try.underlying23 Try.sizeOf24 hg (by first | rfl | omega) (by omega) (by with_reducible (repeat (first | exact Take.here | apply Take.there))) ?_
      intro ib99 io99 ha99 hl99 hc99
      refine q_load_O (v := (.slice g.1 g.2.2.length g.2.1)) (j := 0) (k' := i) (enc := encHW) (off := io99) rfl rfl rfl rfl Try.isAgg24 ha99 encHW_len hg (by with_reducible (repeat (first | exact Take.here | apply Take.there))) (by first | rfl | exact (Nat.add_zero _).symm | omega) (by rfl) ?_
      refine q_move rfl rfl rfl rfl ?_
      refine q_move rfl rfl rfl rfl ?_
      refine q_idxO (sz := 0) (k := i) (enc := encHW) (xs := G) rfl rfl rfl rfl rfl Try.underlying23 Try.sizeOf24 hg (by first | rfl | omega) (by omega) (by with_reducible (repeat (first | exact Take.here | apply Take.there))) ?_
      intro ib103 io103 ha103 hl103 hc103
      refine q_load_O (v := (.slice g.1 g.2.2.length g.2.1)) (j := 0) (k' := i) (enc := encHW) (off := io103) rfl rfl rfl rfl Try.isAgg24 ha103 encHW_len hg (by with_reducible (repeat (first | exact Take.here | apply Take.there))) (by first | rfl | exact (Nat.add_zero _).symm | omega) (by rfl) ?_
      refine q_len rfl rfl rfl rfl Try.underlying24 ?_
      refine q_int rfl rfl rfl rfl rfl (b_add' _ (by (first | exact fits_i64 (by omega) (by omega) | exact fits_u64 (by omega) (by omega) | exact fits_u32 (by omega) (by omega) | exact fits_u8 (by omega) (by omega)))) ?_
      refine q_cut_hi (h' := g.2.2.length + 1) rfl rfl rfl rfl rfl Try.underlying24 Try.sizeOf25 (by first | rfl | omega) (by have := hgx; omega) ?_
      refine q_move rfl rfl rfl rfl ?_
      refine q_move rfl rfl rfl rfl ?_
      refine q_idxO (sz := 0) (k := i) (enc := encHW) (xs := G) rfl rfl rfl rfl rfl Try.underlying23 Try.sizeOf24 hg (by first | rfl | omega) (by omega) (by with_reducible (repeat (first | exact Take.here | apply Take.there))) ?_
      intro ib110 io110 ha110 hl110 hc110
      refine q_load_O (v := (.slice g.1 g.2.2.length g.2.1)) (j := 0) (k' := i) (enc := encHW) (off := io110) rfl rfl rfl rfl Try.isAgg24 ha110 encHW_len hg (by with_reducible (repeat (first | exact Take.here | apply Take.there))) (by first | rfl | exact (Nat.add_zero _).symm | omega) (by rfl) ?_
      refine q_len rfl rfl rfl rfl Try.underlying24 ?_
      obtain ⟨e_17, he_17⟩ := get_lt (l := ((g.2.2 ++ [71]).take (g.2.2.length + 1))) (i := g.2.2.length) (by first | omega | (simp; done) | (simp; omega))
      refine q_idxR (sz := 0) (k := g.2.2.length) rfl rfl rfl rfl rfl Try.underlying24 Try.sizeOf25 (rds_take (rds_big (f := gf) (List.mem_of_getElem? hg) (gf_rds (hgf _ (List.mem_of_getElem? hg)).2.2)) encW_len (g.2.2.length + 1)) he_17 encW_len (by first | rfl | omega) (by omega) ?_
      intro ib113 io113 _ hd113
      refine q_load rfl rfl rfl rfl Try.isAgg25 (by with_reducible (repeat (first | exact Take.here | apply Take.there))) (hd113 0 (.int .u32 e_17) rfl) ?_
      refine q_int rfl rfl rfl rfl rfl (b_neq _ _ _ _) ?_
      refine q_pick_f rfl rfl rfl rfl rfl ?_
      refine r_done ?_
      refine s_keep [0, 1, 5, 9, 11, 13, 97, 98, 99, 100, 101, 102, 103, 104, 105, 106, 107, 108, 109, 110, 111, 112, 113, 114, 115, 116] (e' := [(0, _), (1, _), (5, _), (9, _), (11, _), (13, _), (97, _), (98, _), (99, _), (100, _), (101, _), (102, _), (103, _), (104, _), (105, _), (106, _), (107, _), (108, _), (109, _), (110, _), (111, _), (112, _), (113, _), (114, _), (115, _), (116, _)]) rfl ?_
      refine k_then_n ?_
      refine c_cond_p rfl (fun h_18 => by exfalso; first | omega | contradiction | (simp_all; done) | (simp_all; omega)) (fun h_18 => ?_)
      refine c_skip ?_
      refine k_blk_n ?_
      refine k_then_n ?_
      refine c_plain (.q 0 (.q 1 (.q 2 (.done)))) (by kernel_rfl) ?_
      refine q_move rfl rfl rfl rfl ?_
      refine q_int rfl rfl rfl rfl rfl (b_add' _ (by (first | exact fits_i64 (by omega) (by omega) | exact fits_u64 (by omega) (by omega) | exact fits_u32 (by omega) (by omega) | exact fits_u8 (by omega) (by omega)))) ?_
      refine q_assign rfl rfl rfl rfl ?_
      refine r_done ?_
      refine k_then_n ?_
      refine loop_next (x := i) (i + 1) ?_ ?_ ?_ ?_
      · exact by show i + 1 ≤ m; omega
      · show m - (i + 1) < m - i; omega
      · exact ⟨rfl, rfl, rfl, rfl, rfl, rfl, trivial⟩
      · (try simp only [List.cons_append, List.nil_append]); (repeat ((with_reducible apply Takes.cons); focus (first | (with_reducible (repeat (first | exact Take.here | apply Take.there)); done) | (repeat (first | exact Take.here | apply Take.there))))); (repeat (first | exact Takes.nil | exact Takes.self | refine takes_drop2 ?_))
    · skip
      refine c_exit ?_
      refine k_then_exit ?_
      refine k_then_exit ?_
      refine k_blk_here ?_
      refine k_then_n ?_
      refine c_seq ?_
      refine c_seq ?_
      obtain rfl : m = i := by omega
      have htl := tnL_le n (L.map (·.2.2))
      refine s_big_nil (f := owA 1 encW) ?_
      refine s_big_push (f := owA 1 encW) (L := []) (x := (aa, ac, tnL n (L.map (·.2.2)))) (by (try simp only [List.nil_append]); (repeat ((with_reducible apply Takes.cons); focus (first | (with_reducible (repeat (first | exact Take.here | apply Take.there)); done) | (repeat (first | exact Take.here | apply Take.there))))); exact Takes.nil) ?_
      refine s_big_push (f := owA 1 encW) (L := ([] ++ [(aa, ac, tnL n (L.map (·.2.2)))])) (x := (ba, bc, tnL n (L.map (·.2.2)))) (by (try simp only [List.nil_append]); (repeat ((with_reducible apply Takes.cons); focus (first | (with_reducible (repeat (first | exact Take.here | apply Take.there)); done) | (repeat (first | exact Take.here | apply Take.there))))); exact Takes.nil) ?_
      simp only [List.nil_append, List.cons_append]
      refine c_plain (.q 0 (.q 1 ((.l 2 [] ((.l 3 [] (.q 4 (.done)))))))) (by kernel_rfl) ?_
      refine q_move rfl rfl rfl rfl ?_
      refine q_move rfl rfl rfl rfl ?_
      refine l_buildSlice rfl rfl rfl rfl (vs := [_, _]) (run_buildSl Try.underlying23 Try.sizeOf24 Try.zeroValue24 rfl rfl rfl rfl) ?_
      intro b119
      refine ag_nil ?_
      have sp_19 := apart_spec [(aa, ac, tnL n (L.map (·.2.2))), (ba, bc, tnL n (L.map (·.2.2)))] (some ⟨b119, 0, none⟩) 2 2 (cells b119 0 [.slice aa (tnL n (L.map (·.2.2))).length ac, .slice ba (tnL n (L.map (·.2.2))).length bc]) (rds_some rdn_cells) rfl (by decide) (by intro x hx; simp at hx; rcases hx with rfl | rfl <;> exact Nat.le_trans htl (by decide))
      refine l_call rfl rfl rfl rfl rfl rfl Try.call14 (sp_19) (by (repeat ((with_reducible apply Takes.cons); focus (first | (with_reducible (repeat (first | exact Take.here | apply Take.there)); done) | (repeat (first | exact Take.here | apply Take.there))))); exact Takes.nil) ?_
      rintro ⟨⟩ -
      try simp only [List.cons_append, List.nil_append]
      refine ag_nil ?_
      refine q_not rfl rfl rfl rfl ?_
      refine s_eq 121 rfl (v' := .bool false) rfl ?_
      refine r_done ?_
      refine s_keep [0, 5, 121] (e' := [(0, _), (5, _), (121, _)]) rfl ?_
      refine k_then_n ?_
      refine c_cond_f rfl ?_
      refine c_skip ?_
      refine k_then_n ?_
      refine c_seq ?_
      refine c_seq ?_
      refine c_plain (.q 0 (.done)) (by kernel_rfl) ?_
      refine q_assign rfl rfl rfl rfl ?_
      refine r_done ?_
      refine k_then_n ?_
      refine c_block ?_
      have hgl1 : ∀ x ∈ G, x.2.2.length ≤ 1048576 := fun x hx => by
        obtain ⟨j, hj⟩ := List.getElem?_of_mem hx
        obtain ⟨y, hy⟩ := get_lt (l := L) (i := j) (by have := (List.getElem?_eq_some_iff.1 hj).1; omega)
        rw [hG.same j y x hy hj]
        exact hb2 _ (List.mem_of_getElem? hy)
      refine c_loop2 (α := Nat × List Lst) (fun (x_ : Nat × List Lst) => match x_ with | (i, G) => i ≤ m ∧ (G.length = m) ∧ (∀ x ∈ G, x.2.2.length ≤ 1048576)) (fun (x_ : Nat × List Lst) => match x_ with | (i, G) => [(14, .int .i64 ((i : Nat) : Int))]) (fun (x_ : Nat × List Lst) => match x_ with | (i, G) => [bigS gf G, own 1 encHW ag cg G]) (fun (x_ : Nat × List Lst) => match x_ with | (i, G) => m - i) [0, 5] (er := [(0, _), (5, _)]) rfl (0, G) ?_ (by exact ⟨rfl, trivial⟩) (by (try dsimp only); (try simp only [Nat.add_zero, Nat.zero_add]); (repeat ((with_reducible apply Takes.cons); focus (first | (with_reducible (repeat (first | exact Take.here | apply Take.there)); done) | (repeat (first | exact Take.here | apply Take.there))))); exact Takes.nil) ?_
      · exact ⟨Nat.zero_le _, by omega, hgl1⟩
      rintro ⟨i, G⟩ ⟨hle_i, hgll, hgl⟩
      try simp only [List.cons_append, List.nil_append]
      refine c_seq ?_
      refine c_seq ?_
      refine c_plain (.q 0 (.q 1 (.q 2 (.q 3 (.done))))) (by kernel_rfl) ?_
      refine q_move rfl rfl rfl rfl ?_
      refine q_move rfl rfl rfl rfl ?_
      refine q_len rfl rfl rfl rfl Try.underlying23 ?_
      refine q_int rfl rfl rfl rfl rfl (b_lss _ _ _ _) ?_
      refine r_done ?_
      refine k_then_n ?_
      refine c_cond_p rfl (fun hlt => ?_) (fun hlt => ?_)
      · skip
        obtain ⟨g, hg⟩ := get_lt (l := G) (i := i) (by omega)
        obtain ⟨g1, g2, g3⟩ := g
        have hg3 := hgl _ (List.mem_of_getElem? hg)
        simp only at hg3
        refine c_skip ?_
        refine k_then_n ?_
        refine c_seq ?_
        refine c_block ?_
        refine c_seq ?_
        refine c_plain (.q 0 (.done)) (by kernel_rfl) ?_
        refine q_assign rfl rfl rfl rfl ?_
        refine r_done ?_
        refine s_keep [0, 5, 14, 15] (e' := [(0, _), (5, _), (14, _), (15, _)]) rfl ?_
        refine k_then_n ?_
        refine c_block ?_
        refine s_big_take (f := gf) (L := G) (by with_reducible (repeat (first | exact Take.here | apply Take.there))) hg ?_
        refine c_loop2 (α := Nat × List Int) (fun (x_ : Nat × List Int) => match x_ with | (k, l) => k ≤ g3.length ∧ (l.length = g3.length)) (fun (x_ : Nat × List Int) => match x_ with | (k, l) => [(15, .int .i64 ((k : Nat) : Int))]) (fun (x_ : Nat × List Int) => match x_ with | (k, l) => [gf (g1, g2, l)]) (fun (x_ : Nat × List Int) => match x_ with | (k, l) => g3.length - k) [0, 5, 14] (er := [(0, _), (5, _), (14, _)]) rfl (0, g3) ?_ (by exact ⟨rfl, trivial⟩) (by exact Takes.cons Take.here Takes.nil) ?_
        · exact ⟨Nat.zero_le _, rfl⟩
        rintro ⟨k, l⟩ ⟨hle_k, hll⟩
        try simp only [List.cons_append, List.nil_append]
        refine c_seq ?_
        refine c_seq ?_
        refine c_plain (.q 0 (.q 1 (.q 2 (.q 3 (.q 4 (.q 5 (.q 6 (.done)))))))) (by kernel_rfl) ?_
        refine q_move rfl rfl rfl rfl ?_
        refine q_move rfl rfl rfl rfl ?_
        refine q_move rfl rfl rfl rfl ?_
        refine q_idxO (sz := 0) (k := i) (enc := encHW) (xs := G) rfl rfl rfl rfl rfl Try.underlying23 Try.sizeOf24 hg (by first | rfl | omega) (by omega) (by with_reducible (repeat (first | exact Take.here | apply Take.there))) ?_
        intro ib131 io131 ha131 hl131 hc131
        refine q_load_O (v := (.slice g1 g3.length g2)) (j := 0) (k' := i) (enc := encHW) (off := io131) rfl rfl rfl rfl Try.isAgg24 ha131 encHW_len hg (by with_reducible (repeat (first | exact Take.here | apply Take.there))) (by first | rfl | exact (Nat.add_zero _).symm | omega) (by rfl) ?_
        refine q_len rfl rfl rfl rfl Try.underlying24 ?_
        refine q_int rfl rfl rfl rfl rfl (b_lss _ _ _ _) ?_
        refine r_done ?_
        refine s_keep [0, 5, 14, 15, 134] (e' := [(0, _), (5, _), (14, _), (15, _), (134, _)]) rfl ?_
        refine k_then_n ?_
        refine c_cond_p rfl (fun hlk => ?_) (fun hlk => ?_)
        · skip
          refine c_skip ?_
          refine k_then_n ?_
          refine c_seq ?_
          refine c_block ?_
          obtain ⟨z, hz⟩ := get_lt (l := l) (i := k) (by omega)
          have hz1 : (l ++ [71])[k]? = some z := by rw [List.getElem?_append_left (by omega)]; exact hz
          refine c_draw rfl (.q 0 (.q 1 (.q 2 (.q 3 (.q 4 (.q 5 (.q 6 (.q 7 (.q 8 (.q 9 (.q 10 (.q 11 (.q 12 (.q 13 ((.l 14 [] (.done))))))))))))))))) (by kernel_rfl) ?_
          refine q_move rfl rfl rfl rfl ?_
          refine q_move rfl rfl rfl rfl ?_
          refine q_idxO (sz := 0) (k := i) (enc := encHW) (xs := G) rfl rfl rfl rfl rfl Try.underlying23 Try.sizeOf24 hg (by first | rfl | omega) (by omega) (by with_reducible (repeat (first | exact Take.here | apply Take.there))) ?_
          intro ib139 io139 ha139 hl139 hc139
          refine q_load_O (v := (.slice g1 g3.length g2)) (j := 0) (k' := i) (enc := encHW) (off := io139) rfl rfl rfl rfl Try.isAgg24 ha139 encHW_len hg (by with_reducible (repeat (first | exact Take.here | apply Take.there))) (by first | rfl | exact (Nat.add_zero _).symm | omega) (by rfl) ?_
          refine q_move rfl rfl rfl rfl ?_
          refine q_move rfl rfl rfl rfl ?_
          refine q_move rfl rfl rfl rfl ?_
          refine q_idxO (sz := 0) (k := i) (enc := encHW) (xs := G) rfl rfl rfl rfl rfl Try.underlying23 Try.sizeOf24 hg (by first | rfl | omega) (by omega) (by with_reducible (repeat (first | exact Take.here | apply Take.there))) ?_
          intro ib144 io144 ha144 hl144 hc144
          refine q_load_O (v := (.slice g1 g3.length g2)) (j := 0) (k' := i) (enc := encHW) (off := io144) rfl rfl rfl rfl Try.isAgg24 ha144 encHW_len hg (by with_reducible (repeat (first | exact Take.here | apply Take.there))) (by first | rfl | exact (Nat.add_zero _).symm | omega) (by rfl) ?_
          refine q_move rfl rfl rfl rfl ?_
          refine q_idxO (sz := 0) (k := k) (enc := encW) (xs := (l ++ [71])) rfl rfl rfl rfl rfl Try.underlying24 Try.sizeOf25 hz1 (by first | rfl | omega) (by omega) (by with_reducible (repeat (first | exact Take.here | apply Take.there))) ?_
          intro ib147 io147 ha147 hl147 hc147
          refine q_load_O (v := (.int .u32 z)) (j := 0) (k' := k) (enc := encW) (off := io147) rfl rfl rfl rfl Try.isAgg25 ha147 encW_len hz1 (by with_reducible (repeat (first | exact Take.here | apply Take.there))) (by first | rfl | exact (Nat.add_zero _).symm | omega) (by rfl) ?_
          refine q_int rfl rfl rfl rfl rfl (b_xor _ _ _ _) ?_
          refine q_idxO (sz := 0) (k := k) (enc := encW) (xs := (l ++ [71])) rfl rfl rfl rfl rfl Try.underlying24 Try.sizeOf25 hz1 (by first | rfl | omega) (by omega) (by with_reducible (repeat (first | exact Take.here | apply Take.there))) ?_
          intro ib150 io150 ha150 hl150 hc150
          refine l_store_O (j := 0) (k := k) (q := (xorV .u32 z 1)) (enc := encW) (off := io150) rfl rfl rfl rfl Try.sizeOf25 (us := [_]) rfl rfl rfl ha150 encW_len hz1 (by with_reducible (repeat (first | exact Take.here | apply Take.there))) (by first | rfl | exact (Nat.add_zero _).symm | omega) (by first | decide | exact Nat.le_of_ble_eq_true rfl) (by rfl) ?_
          refine ag_nil ?_
          refine r_done ?_
          refine s_keep [0, 5, 14, 15] (e' := [(0, _), (5, _), (14, _), (15, _)]) rfl ?_
          refine k_blk_n ?_
          refine k_then_n ?_
          refine c_plain (.q 0 (.q 1 (.q 2 (.done)))) (by kernel_rfl) ?_
          refine q_move rfl rfl rfl rfl ?_
          refine q_int rfl rfl rfl rfl rfl (b_add' _ (by (first | exact fits_i64 (by omega) (by omega) | exact fits_u64 (by omega) (by omega) | exact fits_u32 (by omega) (by omega) | exact fits_u8 (by omega) (by omega)))) ?_
          refine q_assign rfl rfl rfl rfl ?_
          refine r_done ?_
          refine k_then_n ?_
          refine s_take (A := own 1 encW g1 g2 ((l ++ [71]).set k (xorV .u32 z 1))) (by first | (with_reducible (repeat (first | exact Take.here | apply Take.there)); done) | (repeat (first | exact Take.here | apply Take.there))) ?_
          have hse : ((l ++ [71] : List Int).set k (xorV .u32 z 1)) = (l.set k (xorV .u32 z 1)) ++ [71] := List.set_append_left _ _ (by omega)
          refine s_heap (Γ' := gf (g1, g2, l.set k (xorV .u32 z 1)) :: _) (fun _ h => (by rw [hse] at h; exact h)) ?_
          refine loop_next (x := (k, l)) ((k + 1, l.set k (xorV .u32 z 1))) ?_ ?_ ?_ ?_
          · try dsimp only
            exact ⟨by omega, by rw [List.length_set]; exact hll⟩
          · show g3.length - (k + 1) < g3.length - k; omega
          · exact ⟨rfl, rfl, rfl, rfl, trivial⟩
          · (try simp only [List.cons_append, List.nil_append]); (repeat ((with_reducible apply Takes.cons); focus (first | (with_reducible (repeat (first | exact Take.here | apply Take.there)); done) | (repeat (first | exact Take.here | apply Take.there))))); (repeat (first | exact Takes.nil | exact Takes.self | refine takes_drop2 ?_))
        · skip
          refine c_exit ?_
          refine k_then_exit ?_
          refine k_then_exit ?_
          refine k_blk_here ?_
          refine k_blk_n ?_
          refine k_then_n ?_
          refine c_plain (.q 0 (.q 1 (.q 2 (.done)))) (by kernel_rfl) ?_
          refine q_move rfl rfl rfl rfl ?_
          refine q_int rfl rfl rfl rfl rfl (b_add' _ (by (first | exact fits_i64 (by omega) (by omega) | exact fits_u64 (by omega) (by omega) | exact fits_u32 (by omega) (by omega) | exact fits_u8 (by omega) (by omega)))) ?_
          refine q_assign rfl rfl rfl rfl ?_
          refine r_done ?_
          refine s_keep [0, 5, 14] (e' := [(0, _), (5, _), (14, _)]) rfl ?_
          refine k_then_n ?_
          obtain rfl : k = g3.length := by omega
          rw [show own 1 encHW ag cg G = own 1 encHW ag cg (G.set i (g1, g2, l)) from own_hdr hg (by simp [encHW, encH, hll])]
          refine s_big_put (f := gf) (L := G) (i := i) (y := (g1, g2, l)) (by (repeat ((with_reducible apply Takes.cons); focus (first | (with_reducible (repeat (first | exact Take.here | apply Take.there)); done) | (repeat (first | exact Take.here | apply Take.there))))); exact Takes.nil) (List.getElem?_eq_some_iff.1 hg).1 ?_
          refine loop_next (x := (i, G)) ((i + 1, G.set i (g1, g2, l))) ?_ ?_ ?_ ?_
          · try dsimp only
            exact ⟨by omega, by rw [List.length_set]; exact hgll, fun x hx => by
                rcases List.mem_or_eq_of_mem_set hx with h | rfl
                · exact hgl x h
                · show l.length ≤ _; omega⟩
          · show m - (i + 1) < m - i; omega
          · exact ⟨rfl, rfl, rfl, trivial⟩
          · (try simp only [List.cons_append, List.nil_append]); (repeat ((with_reducible apply Takes.cons); focus (first | (with_reducible (repeat (first | exact Take.here | apply Take.there)); done) | (repeat (first | exact Take.here | apply Take.there))))); (repeat (first | exact Takes.nil | exact Takes.self | refine takes_drop2 ?_))
      · skip
        refine c_exit ?_
        refine k_then_exit ?_
        refine k_then_exit ?_
        refine k_blk_here ?_
        refine k_then_n ?_
        refine c_seq ?_
        obtain rfl : m = i := by omega
        have htl2 := tnL_le n (G.map (·.2.2))
        refine s_take (A := own 1 encHW ag cg G) (by with_reducible (repeat (first | exact Take.here | apply Take.there))) ?_
        refine own_fc fun hga0 hga1 hgb => ?_
        have hga : ag = none → G = [] := fun h => (hga1 h).1
        refine s_bigall (f := gf) (L := G) gf_facts (by with_reducible (repeat (first | exact Take.here | apply Take.there))) fun hgf => ?_
        have hgl4 : ∀ x ∈ G, x.2.2.length ≤ 4000000000000 := fun x hx => Nat.le_trans (hgl x hx) (by decide)
        refine c_plain (.q 0 (.q 1 ((.l 2 [] (.q 3 (.q 4 (.q 5 (.q 6 (.q 7 (.done)))))))))) (by kernel_rfl) ?_
        refine q_move rfl rfl rfl rfl ?_
        refine q_move rfl rfl rfl rfl ?_
        refine s_heap (fun _ h => Bun.fold ((by (repeat ((with_reducible apply Takes.cons); focus (first | (with_reducible (repeat (first | exact Take.here | apply Take.there)); done) | (repeat (first | exact Take.here | apply Take.there))))); exact Takes.nil : Takes _ [own 1 encHW ag cg G, bigS gf G] _) _ h)) ?_
        have sp_20 := rturns_spec G n ag m cg (Bun [own 1 encHW ag cg G, bigS gf G]) (rds_bun (List.mem_cons_self) (rds_own encHW_len hga hgb)) (by omega) (fun x hx => rds_bun (List.mem_cons_of_mem _ (List.mem_cons_self)) (rds_big hx (gf_rds1 (hgf x hx).2.2))) (by omega) hgl4
        refine l_call rfl rfl rfl rfl rfl rfl Try.call11 (sp_20) (by (repeat ((with_reducible apply Takes.cons); focus (first | (with_reducible (repeat (first | exact Take.here | apply Take.there)); done) | (repeat (first | exact Take.here | apply Take.there))))); exact Takes.nil) ?_
        rintro ⟨ua, uc⟩ -
        try simp only [List.cons_append, List.nil_append]
        refine s_take (A := Bun [own 1 encHW ag cg G, bigS gf G]) (by with_reducible (repeat (first | exact Take.here | apply Take.there))) ?_
        refine s_bun ?_
        try simp only [List.cons_append, List.nil_append]
        try simp only [List.cons_append, List.nil_append]
        refine ag_nil ?_
        refine q_move rfl rfl rfl rfl ?_
        refine q_extract rfl rfl rfl rfl rfl ?_
        refine q_extract rfl rfl rfl rfl rfl ?_
        refine q_assign rfl rfl rfl rfl ?_
        refine q_assign rfl rfl rfl rfl ?_
        refine r_done ?_
        refine s_keep [0, 5, 16] (e' := [(0, _), (5, _), (16, _)]) rfl ?_
        refine k_then_n ?_
        refine c_seq ?_
        refine c_plain (.q 0 (.q 1 ((.l 2 [] (.q 3 (.q 4 (.q 5 (.q 6 (.q 7 (.done)))))))))) (by kernel_rfl) ?_
        refine q_move rfl rfl rfl rfl ?_
        refine q_move rfl rfl rfl rfl ?_
        refine s_heap (fun _ h => Bun.fold ((by (repeat ((with_reducible apply Takes.cons); focus (first | (with_reducible (repeat (first | exact Take.here | apply Take.there)); done) | (repeat (first | exact Take.here | apply Take.there))))); exact Takes.nil : Takes _ [own 1 encHW ag cg G, bigS gf G] _) _ h)) ?_
        have sp_21 := turns_spec G n ag m cg (Bun [own 1 encHW ag cg G, bigS gf G]) (rds_bun (List.mem_cons_self) (rds_own encHW_len hga hgb)) (by omega) (fun x hx => rds_bun (List.mem_cons_of_mem _ (List.mem_cons_self)) (rds_big hx (gf_rds1 (hgf x hx).2.2))) (by omega) hgl4
        refine l_call rfl rfl rfl rfl rfl rfl Try.call12 (sp_21) (by (repeat ((with_reducible apply Takes.cons); focus (first | (with_reducible (repeat (first | exact Take.here | apply Take.there)); done) | (repeat (first | exact Take.here | apply Take.there))))); exact Takes.nil) ?_
        rintro ⟨va, vc⟩ -
        try simp only [List.cons_append, List.nil_append]
        refine s_take (A := Bun [own 1 encHW ag cg G, bigS gf G]) (by with_reducible (repeat (first | exact Take.here | apply Take.there))) ?_
        refine s_bun ?_
        try simp only [List.cons_append, List.nil_append]
        try simp only [List.cons_append, List.nil_append]
        refine ag_nil ?_
        refine q_move rfl rfl rfl rfl ?_
        refine q_extract rfl rfl rfl rfl rfl ?_
        refine q_extract rfl rfl rfl rfl rfl ?_
        refine q_assign rfl rfl rfl rfl ?_
        refine q_assign rfl rfl rfl rfl ?_
        refine r_done ?_
        refine s_keep [16, 18] (e' := [(16, _), (18, _)]) rfl ?_
        refine k_then_n ?_
        refine c_seq ?_
        refine c_plain (.q 0 (.q 1 ((.l 2 [] (.q 3 ((.l 4 [] (.q 5 (.q 6 (.done)))))))))) (by kernel_rfl) ?_
        refine q_move rfl rfl rfl rfl ?_
        refine q_move rfl rfl rfl rfl ?_
        refine s_take (A := own 1 encW va vc (tnL n (G.map (·.2.2)))) (by with_reducible (repeat (first | exact Take.here | apply Take.there))) ?_
        refine own_fc fun f_22a f_22b f_22c => ?_
        refine s_take (A := own 1 encW ua uc (tnL n (G.map (·.2.2)))) (by with_reducible (repeat (first | exact Take.here | apply Take.there))) ?_
        refine own_fc fun f_23a f_23b f_23c => ?_
        refine s_heap (fun _ h => Bun.fold ((by (repeat ((with_reducible apply Takes.cons); focus (first | (with_reducible (repeat (first | exact Take.here | apply Take.there)); done) | (repeat (first | exact Take.here | apply Take.there))))); exact Takes.nil : Takes _ [own 1 encW va vc (tnL n (G.map (·.2.2))), own 1 encW ua uc (tnL n (G.map (·.2.2)))] _) _ h)) ?_
        have sp_24 := same_spec (tnL n (G.map (·.2.2))) (tnL n (G.map (·.2.2))) va ua ((tnL n (G.map (·.2.2))).length) ((tnL n (G.map (·.2.2))).length) vc uc (Bun [own 1 encW va vc (tnL n (G.map (·.2.2))), own 1 encW ua uc (tnL n (G.map (·.2.2)))]) (by first | rfl | assumption | omega | (simp; done) | (simp; omega)) (rds_bun (List.mem_cons_self) (rds_own encW_len (fun h => (f_22b h).1) f_22c)) (by first | rfl | assumption | omega | (simp; done) | (simp; omega)) (rds_bun (List.mem_cons_of_mem _ (List.mem_cons_self)) (rds_own encW_len (fun h => (f_23b h).1) f_23c)) (by omega)
        refine l_call rfl rfl rfl rfl rfl rfl Try.call13 (sp_24) (by (repeat ((with_reducible apply Takes.cons); focus (first | (with_reducible (repeat (first | exact Take.here | apply Take.there)); done) | (repeat (first | exact Take.here | apply Take.there))))); exact Takes.nil) ?_
        rintro ⟨⟩ -
        try simp only [List.cons_append, List.nil_append]
        refine s_take (A := Bun [own 1 encW va vc (tnL n (G.map (·.2.2))), own 1 encW ua uc (tnL n (G.map (·.2.2)))]) (by with_reducible (repeat (first | exact Take.here | apply Take.there))) ?_
        refine s_bun ?_
        try simp only [List.cons_append, List.nil_append]
        try simp only [List.cons_append, List.nil_append]
        refine ag_nil ?_
        refine q_move rfl rfl rfl rfl ?_
        refine s_bool_p 166 rfl (fun g_25 => ?_) (fun g_25 => by exfalso; first | omega | contradiction | (simp_all; done) | (simp_all; omega))
        refine l_call rfl rfl rfl rfl rfl rfl Try.call15 (known_spec) (by (repeat ((with_reducible apply Takes.cons); focus (first | (with_reducible (repeat (first | exact Take.here | apply Take.there)); done) | (repeat (first | exact Take.here | apply Take.there))))); exact Takes.nil) ?_
        rintro ⟨⟩ -
        try simp only [List.cons_append, List.nil_append]
        refine ag_nil ?_
        refine q_pick_t rfl rfl rfl rfl rfl ?_
        refine q_assign rfl rfl rfl rfl ?_
        refine r_done ?_
        refine s_keep [4] (e' := [(4, _)]) rfl ?_
        refine k_then_n ?_
        refine c_ret ?_
        refine ret1 rfl rfl (()) (by first | rfl | (first | rfl | (congr 1; done) | (congr 1 <;> first | rfl | omega | (simp; done) | (simp; omega)))) (by trivial) ?_
        (repeat ((with_reducible apply Takes.cons); focus (first | (with_reducible (repeat (first | exact Take.here | apply Take.there)); done) | (repeat (first | exact Take.here | apply Take.there))))); (repeat (first | exact Takes.nil | exact Takes.self | refine takes_drop2 ?_))
end Go.Ab.Sc
