/- HeapSorts: what its code answers. -/
import Derived.Test.YtodmfajboleamaaHpO
import Derived.Test.YtodmfajboleamaaHpL
import Derived.Test.YtodmfajboleamaaEngN
set_option linter.unusedVariables false
set_option linter.unusedSimpArgs false
set_option maxRecDepth 100000
namespace Go.Ab.HpT
open Go Go.Proofs Go.Ab
abbrev mk0 : Th := (-71, -72)
/-- What is handed in, with a mark behind it. -/
abbrev gf (g : Lst) : HProp := own 2 encT g.1 g.2.1 (g.2.2 ++ [mk0])
theorem gf_facts (g : Lst) (h : Hp) (o : gf g h) : g.2.2.length + 1 ≤ g.2.1 ∧ g.1 ≠ none ∧ (∃ b off, g.1 = some ⟨b, off, none⟩) := by
  have h1 := rds_own_flat o
  have h0 : g.1 ≠ none := fun e => by have := h1.1 e; simp at this
  exact ⟨by have := o.1; simpa using this, h0, h1.2 h0⟩
theorem gf_rds {g : Lst} (h : ∃ b off, g.1 = some ⟨b, off, none⟩) : RdS (gf g) g.1 ((g.2.2 ++ [mk0]).flatMap encT) := rds_own encT_len (fun e => by obtain ⟨b, o, h⟩ := h; rw [h] at e; cases e) (fun _ => h)
theorem gf_rds1 {g : Lst} (h : ∃ b off, g.1 = some ⟨b, off, none⟩) : RdS (gf g) g.1 (g.2.2.flatMap encT) := by
  have := rds_take (gf_rds h) encT_len g.2.2.length
  rwa [List.take_left] at this
structure GI (L G : List Lst) (i : Nat) : Prop where
  len : G.length = i
  same : ∀ (j : Nat) (x g : Lst), L[j]? = some x → G[j]? = some g → g.2.2 = x.2.2
theorem gi_next {L G : List Lst} {i : Nat} {x g : Lst} (h : GI L G i) (hx : L[i]? = some x) (hg : g.2.2 = x.2.2) : GI L (G ++ [g]) (i + 1) := by
  refine ⟨by rw [List.length_append, h.len]; rfl, fun j y q hy hq => ?_⟩
  by_cases hj : j < i
  · rw [List.getElem?_append_left (by rw [h.len]; exact hj)] at hq
    exact h.same j y q hy hq
  · rw [List.getElem?_append_right (by rw [h.len]; omega), h.len] at hq
    obtain rfl : j = i := by
      rcases Nat.lt_or_ge (j - i) 1 with h3 | h3
      · omega
      · rw [List.getElem?_eq_none (by simpa using h3)] at hq; cases hq
    simp at hq; subst hq
    rw [hx] at hy; cases hy
    exact hg
theorem gi_cat {L G : List Lst} (h : GI L G L.length) : cat G = cat L := by
  have : G.map (·.2.2) = L.map (·.2.2) := by
    apply List.ext_getElem?
    intro j
    rw [List.getElem?_map, List.getElem?_map]
    by_cases hj : j < L.length
    · obtain ⟨x, hx⟩ := get_lt hj
      obtain ⟨g, hg⟩ := get_lt (l := G) (i := j) (by rw [h.len]; exact hj)
      rw [hx, hg, Option.map_some, Option.map_some, h.same j x g hx hg]
    · rw [List.getElem?_eq_none (by rw [h.len]; omega), List.getElem?_eq_none (by omega)]
  unfold cat
  rw [List.flatMap_def, List.flatMap_def, this]
/-- Two lists of lists hold the same. -/
def DE (D E : List Lst) : Prop := D.length = E.length ∧ ∀ (j : Nat) (x y : Lst), D[j]? = some x → E[j]? = some y → x.2.2 = y.2.2
theorem de_push {D E : List Lst} {x y : Lst} (h : DE D E) (e : x.2.2 = y.2.2) : DE (D ++ [x]) (E ++ [y]) := by
  obtain ⟨h1, h2⟩ := h
  refine ⟨by simp [h1], fun j a b ha hb => ?_⟩
  by_cases hj : j < D.length
  · rw [List.getElem?_append_left hj] at ha
    rw [List.getElem?_append_left (by omega)] at hb
    exact h2 j a b ha hb
  · rw [List.getElem?_append_right (by omega)] at ha
    rw [List.getElem?_append_right (by omega)] at hb
    have h3 : j - D.length = 0 := by
      rcases Nat.lt_or_ge (j - D.length) 1 with h3 | h3
      · omega
      · rw [List.getElem?_eq_none (by simpa using h3)] at ha; cases ha
    rw [h3] at ha
    rw [← h1, h3] at hb
    simp at ha hb; subst ha hb; exact e
theorem de_two {D E : List Lst} {x1 x2 y1 y2 : Lst} (h : DE D E) (e1 : x1.2.2 = y1.2.2) (e2 : x2.2.2 = y2.2.2) : DE (D ++ [x1, x2]) (E ++ [y1, y2]) := by
  have := de_push (de_push h e1) e2
  simpa using this
theorem cat_bound {L : List Lst} {m B : Nat} (hm : L.length = m) (h : ∀ x ∈ L, x.2.2.length ≤ B) : (cat L).length ≤ m * B := by
  subst hm
  induction L with
  | nil => simp [cat]
  | cons x L ih =>
    have h1 := ih fun y hy => h y (List.mem_cons_of_mem _ hy)
    have h2 := h x (by simp)
    unfold cat at h1 ⊢
    rw [List.flatMap_cons, List.length_append, List.length_cons, Nat.succ_mul]
    omega
theorem mem_two {D : List Lst} {x y : Lst} {B : Nat} (h : ∀ z ∈ D, z.2.2.length ≤ B) (hx : x.2.2.length ≤ B) (hy : y.2.2.length ≤ B) : ∀ z ∈ D ++ [x, y], z.2.2.length ≤ B := fun z hz => by
  rcases List.mem_append.1 hz with h1 | h1
  · exact h z h1
  · simp at h1
    rcases h1 with rfl | rfl
    · exact hx
    · exact hy
theorem mem_one {D : List Lst} {x : Lst} {B : Nat} (h : ∀ z ∈ D, z.2.2.length ≤ B) (hx : x.2.2.length ≤ B) : ∀ z ∈ D ++ [x], z.2.2.length ≤ B := fun z hz => by
  rcases List.mem_append.1 hz with h1 | h1
  · exact h z h1
  · simp at h1; subst h1; exact hx
theorem sorts_spec (L : List Lst) (z : Int) (bo : Option Addr) (m c : Nat) (A : HProp) (hr : RdS A bo (L.flatMap encS)) (hm : L.length = m) (hc : ∀ x ∈ L, RdS A x.1 (x.2.2.flatMap encT)) (hb : m ≤ 1048576) (hlen : ∀ x ∈ L, x.2.2.length ≤ 1048576) : Spec Try.prog 6 [.slice bo m c, .int .i64 z] [A] (fun (_ : Unit) => .bool true) (fun _ => True) (fun _ => [A]) := by
  refine spec_mk (n := 145) Try.func6 rfl rfl rfl ?_
  intro Γ w0
  simp only [argE, List.cons_append, List.nil_append, Nat.zero_add, Nat.reduceAdd]
  refine c_seq ?_
  refine c_plain (.q 0 (.done)) (by kernel_rfl) ?_
  refine q_assign rfl rfl rfl rfl ?_
  refine r_done ?_
  refine k_then_n ?_
  refine c_seq ?_
  refine c_plain (.q 0 (.done)) (by kernel_rfl) ?_
  refine q_assign rfl rfl rfl rfl ?_
  refine r_done ?_
  refine k_then_n ?_
  refine c_seq ?_
  refine c_plain (.q 0 ((.l 1 [] ((.l 2 [] (.done)))))) (by kernel_rfl) ?_
  refine q_build rfl rfl rfl rfl (vs := [_, _]) (run_buildS Try.underlying28 Try.zeroValue28 (ps := [(0, 1), (1, 1)]) ⟨rfl, Try.sizeOf3, rfl, Try.sizeOf3, trivial⟩ rfl) ?_
  refine l_alloc rfl rfl rfl Try.zeroValue28 (zs := [.int .i64 0, .int .i64 0]) rfl ?_
  intro b6
  refine ag_nil ?_
  refine l_store (j := 0) rfl rfl rfl rfl Try.sizeOf28 (us := [_, _]) rfl rfl rfl (by with_reducible (repeat (first | exact Take.here | apply Take.there))) (by first | rfl | exact (Nat.add_zero _).symm) (by first | decide | (simp; done) | omega) ?_
  simp only [setL, List.set]
  refine ag_nil ?_
  refine r_done ?_
  refine k_then_n ?_
  refine c_seq ?_
  refine c_seq ?_
  refine c_plain (.q 0 (.done)) (by kernel_rfl) ?_
  refine q_assign rfl rfl rfl rfl ?_
  refine r_done ?_
  refine k_then_n ?_
  refine c_block ?_
  refine s_heap (fun _ h => own_nil (sz := 1) (enc := encS) h) ?_
  refine s_big_nil (f := gf) ?_
  refine c_loop2 (α := Nat × List Lst × Option Addr × Nat) (fun (x_ : Nat × List Lst × Option Addr × Nat) => match x_ with | (i, G, ag, cg) => i ≤ m ∧ (GI L G i)) (fun (x_ : Nat × List Lst × Option Addr × Nat) => match x_ with | (i, G, ag, cg) => [(5, .slice ag G.length cg), (7, .int .i64 ((i : Nat) : Int))]) (fun (x_ : Nat × List Lst × Option Addr × Nat) => match x_ with | (i, G, ag, cg) => [bigS gf G, own 1 encS ag cg G]) (fun (x_ : Nat × List Lst × Option Addr × Nat) => match x_ with | (i, G, ag, cg) => m - i) [0, 1, 6] (er := [(0, _), (1, _), (6, _)]) rfl (0, [], none, 0) ?_ (by exact ⟨rfl, rfl, trivial⟩) (by (try dsimp only); (try simp only [Nat.add_zero, Nat.zero_add]); (repeat ((with_reducible apply Takes.cons); focus (first | (with_reducible (repeat (first | exact Take.here | apply Take.there)); done) | (repeat (first | exact Take.here | apply Take.there))))); exact Takes.nil) ?_
  · exact ⟨Nat.zero_le _, ⟨rfl, fun j x g _ h => by simp at h⟩⟩
  rintro ⟨i, G, ag, cg⟩ ⟨hle_i, hG⟩
  try simp only [List.cons_append, List.nil_append]
  have hgll := hG.len
  refine c_seq ?_
  refine c_seq ?_
  refine c_plain (.q 0 (.q 1 (.q 2 (.q 3 (.done))))) (by kernel_rfl) ?_
  refine q_move rfl rfl rfl rfl ?_
  refine q_move rfl rfl rfl rfl ?_
  refine q_len rfl rfl rfl rfl Try.underlying56 ?_
  refine q_int rfl rfl rfl rfl rfl (b_lss _ _ _ _) ?_
  refine r_done ?_
  refine k_then_n ?_
  refine c_cond_p rfl (fun hlt => ?_) (fun hlt => ?_)
  · skip
    refine c_skip ?_
    refine k_then_n ?_
    refine c_seq ?_
    refine c_block ?_
    refine c_draw rfl (.q 0 (.q 1 (.q 2 (.q 3 (.q 4 (.q 6 (.q 9 (.q 10 (.q 11 (.q 12 (.q 13 ((.alt (.l 5 [6, 12, 13] ((.l 7 [12, 13] ((.l 8 [12, 13] (.q 14 ((.l 15 [] ((.l 16 [] ((.l 17 [] (.done))))))))))))) (.l 7 [4, 12, 13] ((.l 5 [12, 13] ((.l 8 [12, 13] (.q 14 ((.l 15 [] ((.l 16 [] ((.l 17 [] (.done)))))))))))))))))))))))))) (by kernel_rfl) ?_
    refine q_move rfl rfl rfl rfl ?_
    refine q_move rfl rfl rfl rfl ?_
    refine q_move rfl rfl rfl rfl ?_
    obtain ⟨x, hx⟩ := get_lt (l := L) (i := i) (by first | omega | (simp; done) | (simp; omega))
    have hxb := hlen _ (List.mem_of_getElem? hx)
    refine q_idxR (sz := 0) (k := i) rfl rfl rfl rfl rfl Try.underlying56 Try.sizeOf49 (hr) hx encS_len (by first | rfl | omega) (by omega) ?_
    intro ib24 io24 _ hd24
    refine q_load rfl rfl rfl rfl Try.isAgg49 (by with_reducible (repeat (first | exact Take.here | apply Take.there))) (hd24 0 (.slice x.1 x.2.2.length x.2.1) rfl) ?_
    refine q_loadN_c rfl rfl rfl rfl Try.isAgg28 Try.sizeOf28 (by with_reducible (repeat (first | exact Take.here | apply Take.there))) 0 (us := [_, _]) (by first | rfl | exact (Nat.add_zero _).symm) rfl rfl ?_
    refine q_move rfl rfl rfl rfl ?_
    refine q_move rfl rfl rfl rfl ?_
    refine q_idxR (sz := 0) (k := i) rfl rfl rfl rfl rfl Try.underlying56 Try.sizeOf49 (hr) hx encS_len (by first | rfl | omega) (by omega) ?_
    intro ib32 io32 _ hd32
    refine q_load rfl rfl rfl rfl Try.isAgg49 (by with_reducible (repeat (first | exact Take.here | apply Take.there))) (hd32 0 (.slice x.1 x.2.2.length x.2.1) rfl) ?_
    refine q_len rfl rfl rfl rfl Try.underlying49 ?_
    refine r_alt ?_ ?_
    · skip
      refine s_heap (fun _ h => own_nil (sz := 2) (enc := encT) h) ?_
      refine l_append (sz := 2) (enc := encT) (xs := []) rfl rfl rfl rfl rfl Try.underlying49 Try.typeInfo28 rfl rfl rfl (by decide) (by with_reducible (repeat (first | exact Take.here | apply Take.there))) (by with_reducible (repeat (first | exact Take.here | apply Take.there))) (by first | rfl | omega | (simp; done) | (simp; omega)) (ys := x.2.2) ((hc _ (List.mem_of_getElem? hx))) (by rfl) (by first | rfl | omega) (encT_len) (encT_one) (by omega) (by show _ * 16 ≤ _; omega) ?_
      intro ao26 cp26
      try simp only [List.nil_append]
      refine ag_loadN_c rfl rfl (us := [_, _]) rfl Try.isAgg28 Try.sizeOf28 (by with_reducible (repeat (first | exact Take.here | apply Take.there))) 0 (by first | rfl | exact (Nat.add_zero _).symm) rfl rfl ?_
      refine ag_load rfl rfl rfl Try.isAgg49 (by with_reducible (repeat (first | exact Take.here | apply Take.there))) (hd32 0 (.slice x.1 x.2.2.length x.2.1) rfl) ?_
      refine ag_len rfl rfl rfl Try.underlying49 ?_
      refine ag_nil ?_
      refine l_buildSlice rfl rfl rfl rfl (run_build1 (us := [_, _]) Try.underlying49 Try.sizeOf28 rfl Try.zeroValue28 rfl rfl rfl) ?_
      intro b28
      refine ag_load rfl rfl rfl Try.isAgg49 (by with_reducible (repeat (first | exact Take.here | apply Take.there))) (hd32 0 (.slice x.1 x.2.2.length x.2.1) rfl) ?_
      refine ag_len rfl rfl rfl Try.underlying49 ?_
      refine ag_nil ?_
      refine l_append (sz := 2) (enc := encT) (xs := (x.2.2)) rfl rfl rfl rfl rfl Try.underlying49 Try.typeInfo28 rfl rfl rfl (by decide) (by with_reducible (repeat (first | exact Take.here | apply Take.there))) (by with_reducible (repeat (first | exact Take.here | apply Take.there))) (by first | rfl | omega) (ys := [((-71), (-72))]) (rds_some rdn_cells) (by rfl) (by first | rfl | omega) (encT_len) (encT_one) (by omega) (by show _ * 16 ≤ _; omega) ?_
      intro ao29 cp29
      refine ag_load rfl rfl rfl Try.isAgg49 (by with_reducible (repeat (first | exact Take.here | apply Take.there))) (hd32 0 (.slice x.1 x.2.2.length x.2.1) rfl) ?_
      refine ag_len rfl rfl rfl Try.underlying49 ?_
      refine ag_nil ?_
      refine s_take (A := own 2 encT ao29 cp29 (x.2.2 ++ [mk0])) (by with_reducible (repeat (first | exact Take.here | apply Take.there))) ?_
      refine own_fc fun hp1 hp2 hp3 => ?_
      refine q_cut_hi (h' := x.2.2.length) rfl rfl rfl rfl rfl Try.underlying49 Try.sizeOf28 (by first | rfl | omega) (by simp at hp1; omega) ?_
      refine s_take (A := own 2 encT ao29 cp29 ((x.2.2) ++ ([((-71), (-72))]))) (by with_reducible (repeat (first | exact Take.here | apply Take.there))) ?_
      refine own_fc fun f_1a f_1b f_1c => ?_
      refine l_buildSlice rfl rfl rfl rfl (run_build1 (us := [_]) Try.underlying56 Try.sizeOf49 rfl Try.zeroValue49 rfl rfl rfl) ?_
      intro b36
      refine ag_nil ?_
      refine l_append (sz := 1) (enc := encS) (xs := G) rfl rfl rfl rfl rfl Try.underlying56 Try.typeInfo49 rfl rfl rfl (by decide) (by with_reducible (repeat (first | exact Take.here | apply Take.there))) (by with_reducible (repeat (first | exact Take.here | apply Take.there))) (by first | rfl | omega | (simp; done) | (simp; omega)) (ys := [(ao29, cp29, x.2.2)]) (rds_some rdn_cells) (by rfl) (by first | rfl | omega) (encS_len) (encS_one) (by omega) (by show _ * 24 ≤ _; omega) ?_
      intro ao37 cp37
      refine ag_nil ?_
      refine l_assign rfl rfl rfl rfl ?_
      refine ag_nil ?_
      refine r_done ?_
      refine s_keep [0, 1, 5, 6, 7] (e' := [(0, _), (1, _), (5, _), (6, _), (7, _)]) rfl ?_
      refine k_blk_n ?_
      refine k_then_n ?_
      refine c_plain (.q 0 (.q 1 (.q 2 (.done)))) (by kernel_rfl) ?_
      refine q_move rfl rfl rfl rfl ?_
      refine q_int rfl rfl rfl rfl rfl (b_add' _ (by (first | exact fits_i64 (by omega) (by omega) | exact fits_u64 (by omega) (by omega) | exact fits_u32 (by omega) (by omega) | exact fits_u8 (by omega) (by omega)))) ?_
      refine q_assign rfl rfl rfl rfl ?_
      refine r_done ?_
      refine k_then_n ?_
      refine s_big_push (f := gf) (L := G) (x := (ao29, cp29, x.2.2)) (by (repeat ((with_reducible apply Takes.cons); focus (first | (with_reducible (repeat (first | exact Take.here | apply Take.there)); done) | (repeat (first | exact Take.here | apply Take.there))))); exact Takes.nil) ?_
      refine s_eq 5 rfl (v' := .slice ao37 (G ++ [(ao29, cp29, x.2.2)]).length cp37) (by simp) ?_
      refine loop_next (x := (i, G, ag, cg)) ((i + 1, G ++ [(ao29, cp29, x.2.2)], ao37, cp37)) ?_ ?_ ?_ ?_
      · try dsimp only
        exact ⟨by omega, gi_next hG hx rfl⟩
      · show m - (i + 1) < m - i; omega
      · exact ⟨rfl, rfl, rfl, rfl, rfl, trivial⟩
      · (try simp only [List.cons_append, List.nil_append]); (repeat ((with_reducible apply Takes.cons); focus (first | (with_reducible (repeat (first | exact Take.here | apply Take.there)); done) | (repeat (first | exact Take.here | apply Take.there))))); (repeat (first | exact Takes.nil | exact Takes.self | refine takes_drop2 ?_))
    refine l_buildSlice rfl rfl rfl rfl (run_build1 (us := [_, _]) Try.underlying49 Try.sizeOf28 rfl Try.zeroValue28 rfl rfl rfl) ?_
    intro b28
    refine ag_load rfl rfl rfl Try.isAgg49 (by with_reducible (repeat (first | exact Take.here | apply Take.there))) (hd24 0 (.slice x.1 x.2.2.length x.2.1) rfl) ?_
    refine ag_load rfl rfl rfl Try.isAgg49 (by with_reducible (repeat (first | exact Take.here | apply Take.there))) (hd32 0 (.slice x.1 x.2.2.length x.2.1) rfl) ?_
    refine ag_len rfl rfl rfl Try.underlying49 ?_
    refine ag_nil ?_
    refine s_heap (fun _ h => own_nil (sz := 2) (enc := encT) h) ?_
    refine l_append (sz := 2) (enc := encT) (xs := []) rfl rfl rfl rfl rfl Try.underlying49 Try.typeInfo28 rfl rfl rfl (by decide) (by with_reducible (repeat (first | exact Take.here | apply Take.there))) (by with_reducible (repeat (first | exact Take.here | apply Take.there))) (by first | rfl | omega | (simp; done) | (simp; omega)) (ys := x.2.2) ((hc _ (List.mem_of_getElem? hx))) (by rfl) (by first | rfl | omega) (encT_len) (encT_one) (by omega) (by show _ * 16 ≤ _; omega) ?_
    intro ao26 cp26
    try simp only [List.nil_append]
    refine ag_load rfl rfl rfl Try.isAgg49 (by with_reducible (repeat (first | exact Take.here | apply Take.there))) (hd32 0 (.slice x.1 x.2.2.length x.2.1) rfl) ?_
    refine ag_len rfl rfl rfl Try.underlying49 ?_
    refine ag_nil ?_
    refine l_append (sz := 2) (enc := encT) (xs := (x.2.2)) rfl rfl rfl rfl rfl Try.underlying49 Try.typeInfo28 rfl rfl rfl (by decide) (by with_reducible (repeat (first | exact Take.here | apply Take.there))) (by with_reducible (repeat (first | exact Take.here | apply Take.there))) (by first | rfl | omega) (ys := [((-71), (-72))]) (rds_some rdn_cells) (by rfl) (by first | rfl | omega) (encT_len) (encT_one) (by omega) (by show _ * 16 ≤ _; omega) ?_
    intro ao29 cp29
    refine ag_load rfl rfl rfl Try.isAgg49 (by with_reducible (repeat (first | exact Take.here | apply Take.there))) (hd32 0 (.slice x.1 x.2.2.length x.2.1) rfl) ?_
    refine ag_len rfl rfl rfl Try.underlying49 ?_
    refine ag_nil ?_
    refine s_take (A := own 2 encT ao29 cp29 (x.2.2 ++ [mk0])) (by with_reducible (repeat (first | exact Take.here | apply Take.there))) ?_
    refine own_fc fun hp1 hp2 hp3 => ?_
    refine q_cut_hi (h' := x.2.2.length) rfl rfl rfl rfl rfl Try.underlying49 Try.sizeOf28 (by first | rfl | omega) (by simp at hp1; omega) ?_
    refine s_take (A := own 2 encT ao29 cp29 ((x.2.2) ++ ([((-71), (-72))]))) (by with_reducible (repeat (first | exact Take.here | apply Take.there))) ?_
    refine own_fc fun f_2a f_2b f_2c => ?_
    refine l_buildSlice rfl rfl rfl rfl (run_build1 (us := [_]) Try.underlying56 Try.sizeOf49 rfl Try.zeroValue49 rfl rfl rfl) ?_
    intro b36
    refine ag_nil ?_
    refine l_append (sz := 1) (enc := encS) (xs := G) rfl rfl rfl rfl rfl Try.underlying56 Try.typeInfo49 rfl rfl rfl (by decide) (by with_reducible (repeat (first | exact Take.here | apply Take.there))) (by with_reducible (repeat (first | exact Take.here | apply Take.there))) (by first | rfl | omega | (simp; done) | (simp; omega)) (ys := [(ao29, cp29, x.2.2)]) (rds_some rdn_cells) (by rfl) (by first | rfl | omega) (encS_len) (encS_one) (by omega) (by show _ * 24 ≤ _; omega) ?_
    intro ao37 cp37
    refine ag_nil ?_
    refine l_assign rfl rfl rfl rfl ?_
    refine ag_nil ?_
    refine r_done ?_
    refine s_keep [0, 1, 5, 6, 7] (e' := [(0, _), (1, _), (5, _), (6, _), (7, _)]) rfl ?_
    refine k_blk_n ?_
    refine k_then_n ?_
    refine c_plain (.q 0 (.q 1 (.q 2 (.done)))) (by kernel_rfl) ?_
    refine q_move rfl rfl rfl rfl ?_
    refine q_int rfl rfl rfl rfl rfl (b_add' _ (by (first | exact fits_i64 (by omega) (by omega) | exact fits_u64 (by omega) (by omega) | exact fits_u32 (by omega) (by omega) | exact fits_u8 (by omega) (by omega)))) ?_
    refine q_assign rfl rfl rfl rfl ?_
    refine r_done ?_
    refine k_then_n ?_
    refine s_big_push (f := gf) (L := G) (x := (ao29, cp29, x.2.2)) (by (repeat ((with_reducible apply Takes.cons); focus (first | (with_reducible (repeat (first | exact Take.here | apply Take.there)); done) | (repeat (first | exact Take.here | apply Take.there))))); exact Takes.nil) ?_
    refine s_eq 5 rfl (v' := .slice ao37 (G ++ [(ao29, cp29, x.2.2)]).length cp37) (by simp) ?_
    refine loop_next (x := (i, G, ag, cg)) ((i + 1, G ++ [(ao29, cp29, x.2.2)], ao37, cp37)) ?_ ?_ ?_ ?_
    · try dsimp only
      exact ⟨by omega, gi_next hG hx rfl⟩
    · show m - (i + 1) < m - i; omega
    · exact ⟨rfl, rfl, rfl, rfl, rfl, trivial⟩
    · (try simp only [List.cons_append, List.nil_append]); (repeat ((with_reducible apply Takes.cons); focus (first | (with_reducible (repeat (first | exact Take.here | apply Take.there)); done) | (repeat (first | exact Take.here | apply Take.there))))); (repeat (first | exact Takes.nil | exact Takes.self | refine takes_drop2 ?_))
  · skip
    refine c_exit ?_
    refine k_then_exit ?_
    refine k_then_exit ?_
    refine k_blk_here ?_
    refine k_then_n ?_
    refine c_seq ?_
    refine c_plain (.q 0 (.q 1 (.done))) (by kernel_rfl) ?_
    refine q_assign rfl rfl rfl rfl ?_
    refine q_assign rfl rfl rfl rfl ?_
    refine r_done ?_
    refine s_keep [0, 1, 5, 6, 8, 9] (e' := [(0, _), (1, _), (5, _), (6, _), (8, _), (9, _)]) rfl ?_
    refine k_then_n ?_
    refine c_seq ?_
    refine c_seq ?_
    obtain rfl : m = i := by omega
    have hgll := hG.len
    refine s_eq 5 rfl (v' := .slice ag m cg) (by rw [hgll]) ?_
    have hgc := gi_cat (by rw [hm]; exact hG)
    have hcb : (cat L).length ≤ 1099511627776 := Nat.le_trans (cat_bound hm hlen) (Nat.mul_le_mul hb (Nat.le_refl 1048576))
    have hcg : (cat G).length ≤ 1099511627776 := by rw [hgc]; exact hcb
    refine s_take (A := own 1 encS ag cg G) (by with_reducible (repeat (first | exact Take.here | apply Take.there))) ?_
    refine own_fc fun hga0 hga1 hgb => ?_
    have hga : ag = none → G = [] := fun h => (hga1 h).1
    refine s_bigall (f := gf) (L := G) gf_facts (by with_reducible (repeat (first | exact Take.here | apply Take.there))) fun hgf => ?_
    refine c_plain (.q 0 (.done)) (by kernel_rfl) ?_
    refine q_assign rfl rfl rfl rfl ?_
    refine r_done ?_
    refine k_then_n ?_
    refine c_block ?_
    refine s_heap (fun _ h => own_nil (sz := 1) (enc := encS) h) ?_
    refine s_heap (fun _ h => own_nil (sz := 1) (enc := encS) h) ?_
    refine s_big_nil (f := ow) ?_
    refine s_big_nil (f := ow) ?_
    refine c_loop2 (α := Nat × List Lst × List Lst × Option Addr × Nat × Option Addr × Nat) (fun (x_ : Nat × List Lst × List Lst × Option Addr × Nat × Option Addr × Nat) => match x_ with | (q, D, E, ad, cd, ae, ce) => q ≤ 2 ∧ (DE D E) ∧ (D.length = q * (2 * m + 1)) ∧ (∀ x ∈ D, x.2.2.length ≤ 1099511627776)) (fun (x_ : Nat × List Lst × List Lst × Option Addr × Nat × Option Addr × Nat) => match x_ with | (q, D, E, ad, cd, ae, ce) => [(8, .slice ad D.length cd), (9, .slice ae E.length ce), (10, .int .i64 ((q : Nat) : Int))]) (fun (x_ : Nat × List Lst × List Lst × Option Addr × Nat × Option Addr × Nat) => match x_ with | (q, D, E, ad, cd, ae, ce) => [bigS ow D, bigS ow E, own 1 encS ad cd D, own 1 encS ae ce E]) (fun (x_ : Nat × List Lst × List Lst × Option Addr × Nat × Option Addr × Nat) => match x_ with | (q, D, E, ad, cd, ae, ce) => 2 - q) [0, 1, 5, 6] (er := [(0, _), (1, _), (5, _), (6, _)]) rfl (0, [], [], none, 0, none, 0) ?_ (by exact ⟨rfl, rfl, rfl, trivial⟩) (by (try dsimp only); (try simp only [Nat.add_zero, Nat.zero_add]); (repeat ((with_reducible apply Takes.cons); focus (first | (with_reducible (repeat (first | exact Take.here | apply Take.there)); done) | (repeat (first | exact Take.here | apply Take.there))))); exact Takes.nil) ?_
    · exact ⟨Nat.zero_le _, ⟨rfl, fun j x y h => by simp at h⟩, by simp, fun x hx => (by cases hx)⟩
    rintro ⟨q, D, E, ad, cd, ae, ce⟩ ⟨hle_q, hDE, hDl, hDb⟩
    try simp only [List.cons_append, List.nil_append]
    refine c_seq ?_
    refine c_seq ?_
    refine c_plain (.q 0 (.q 1 (.done))) (by kernel_rfl) ?_
    refine q_move rfl rfl rfl rfl ?_
    refine q_int rfl rfl rfl rfl rfl (b_lss _ _ _ _) ?_
    refine r_done ?_
    refine k_then_n ?_
    refine c_cond_p rfl (fun hq2 => ?_) (fun hq2 => ?_)
    · skip
      refine c_skip ?_
      refine k_then_n ?_
      refine c_seq ?_
      refine c_block ?_
      refine c_seq ?_
      refine c_seq ?_
      refine c_plain (.q 0 (.done)) (by kernel_rfl) ?_
      refine q_assign rfl rfl rfl rfl ?_
      refine r_done ?_
      refine k_then_n ?_
      refine c_block ?_
      refine c_loop2 (α := Nat × List Lst × List Lst × Option Addr × Nat × Option Addr × Nat) (fun (x_ : Nat × List Lst × List Lst × Option Addr × Nat × Option Addr × Nat) => match x_ with | (j, D, E, ad, cd, ae, ce) => j ≤ m ∧ (DE D E) ∧ (D.length = q * (2 * m + 1) + 2 * j) ∧ (∀ x ∈ D, x.2.2.length ≤ 1099511627776)) (fun (x_ : Nat × List Lst × List Lst × Option Addr × Nat × Option Addr × Nat) => match x_ with | (j, D, E, ad, cd, ae, ce) => [(8, .slice ad D.length cd), (9, .slice ae E.length ce), (11, .int .i64 ((j : Nat) : Int))]) (fun (x_ : Nat × List Lst × List Lst × Option Addr × Nat × Option Addr × Nat) => match x_ with | (j, D, E, ad, cd, ae, ce) => [bigS ow D, bigS ow E, own 1 encS ad cd D, own 1 encS ae ce E]) (fun (x_ : Nat × List Lst × List Lst × Option Addr × Nat × Option Addr × Nat) => match x_ with | (j, D, E, ad, cd, ae, ce) => m - j) [0, 1, 5, 6, 10] (er := [(0, _), (1, _), (5, _), (6, _), (10, _)]) rfl (0, D, E, ad, cd, ae, ce) ?_ (by exact ⟨rfl, rfl, rfl, trivial⟩) (by (try dsimp only); (try simp only [Nat.add_zero, Nat.zero_add]); (repeat ((with_reducible apply Takes.cons); focus (first | (with_reducible (repeat (first | exact Take.here | apply Take.there)); done) | (repeat (first | exact Take.here | apply Take.there))))); exact Takes.nil) ?_
      · exact ⟨Nat.zero_le _, hDE, by rw [hDl]; rfl, hDb⟩
      rintro ⟨j, D, E, ad, cd, ae, ce⟩ ⟨hle_j, hDE, hDl, hDb⟩
      try simp only [List.cons_append, List.nil_append]
      have hqm : q * (2 * m + 1) ≤ 2097153 := Nat.le_trans (Nat.mul_le_mul (show q ≤ 1 by omega) (Nat.le_refl _)) (by omega)
      have hDE1 := hDE.1
      refine c_seq ?_
      refine c_seq ?_
      refine c_plain (.q 0 (.q 1 (.q 2 (.q 3 (.done))))) (by kernel_rfl) ?_
      refine q_move rfl rfl rfl rfl ?_
      refine q_move rfl rfl rfl rfl ?_
      refine q_len rfl rfl rfl rfl Try.underlying56 ?_
      refine q_int rfl rfl rfl rfl rfl (b_lss _ _ _ _) ?_
      refine r_done ?_
      refine k_then_n ?_
      refine c_cond_p rfl (fun hlj => ?_) (fun hlj => ?_)
      · skip
        obtain ⟨g, hg⟩ := get_lt (l := G) (i := j) (by omega)
        obtain ⟨x, hx⟩ := get_lt (l := L) (i := j) (by omega)
        have hgx := hgf _ (List.mem_of_getElem? hg)
        have hxb := hlen _ (List.mem_of_getElem? hx)
        have hge := hG.same j x g hx hg
        refine c_skip ?_
        refine k_then_n ?_
        refine c_seq ?_
        refine c_block ?_
        refine c_seq ?_
        refine c_draw rfl (.q 0 (.q 1 (.q 2 (.q 3 (.q 4 (.q 6 (.q 7 (.q 8 (.q 9 (.q 10 ((.l 5 [10] ((.l 11 [] ((.l 12 [] ((.l 13 [] ((.l 14 [] (.done))))))))))))))))))))) (by kernel_rfl) ?_
        refine q_move rfl rfl rfl rfl ?_
        refine q_move rfl rfl rfl rfl ?_
        refine q_move rfl rfl rfl rfl ?_
        refine q_idxO (sz := 0) (k := j) (enc := encS) (xs := G) rfl rfl rfl rfl rfl Try.underlying56 Try.sizeOf49 hg (by first | rfl | omega) (by omega) (by with_reducible (repeat (first | exact Take.here | apply Take.there))) ?_
        intro ib51 io51 ha51 hl51 hc51
        refine q_load_O (v := (.slice g.1 g.2.2.length g.2.1)) (j := 0) (k' := j) (enc := encS) (off := io51) rfl rfl rfl rfl Try.isAgg49 ha51 encS_len hg (by with_reducible (repeat (first | exact Take.here | apply Take.there))) (by first | rfl | exact (Nat.add_zero _).symm | omega) (by rfl) ?_
        refine q_move rfl rfl rfl rfl ?_
        refine q_move rfl rfl rfl rfl ?_
        refine q_move rfl rfl rfl rfl ?_
        refine q_idxO (sz := 0) (k := j) (enc := encS) (xs := G) rfl rfl rfl rfl rfl Try.underlying56 Try.sizeOf49 hg (by first | rfl | omega) (by omega) (by with_reducible (repeat (first | exact Take.here | apply Take.there))) ?_
        intro ib57 io57 ha57 hl57 hc57
        refine q_load_O (v := (.slice g.1 g.2.2.length g.2.1)) (j := 0) (k' := j) (enc := encS) (off := io57) rfl rfl rfl rfl Try.isAgg49 ha57 encS_len hg (by with_reducible (repeat (first | exact Take.here | apply Take.there))) (by first | rfl | exact (Nat.add_zero _).symm | omega) (by rfl) ?_
        have sp_3 := sort_spec kl_ok g.2.2 g.1 g.2.2.length g.2.1 (bigS gf G) rfl (rds_big (f := gf) (List.mem_of_getElem? hg) (gf_rds1 hgx.2.2)) (by rw [hge]; omega)
        refine l_call rfl rfl rfl rfl rfl rfl Try.call24 (sp_3) (by (repeat ((with_reducible apply Takes.cons); focus (first | (with_reducible (repeat (first | exact Take.here | apply Take.there)); done) | (repeat (first | exact Take.here | apply Take.there))))); exact Takes.nil) ?_
        rintro ⟨sa, sc, s1⟩ hs1
        simp only at hs1
        rw [hge] at hs1
        have hsl : s1.length = x.2.2.length := by have := hs1.1.length_eq; rwa [List.length_zipIdx] at this
        try simp only [List.cons_append, List.nil_append]
        refine ag_load_O (v := (.slice g.1 g.2.2.length g.2.1)) (j := 0) (k' := j) (enc := encS) (off := io57) rfl rfl rfl Try.isAgg49 ha57 encS_len hg (by with_reducible (repeat (first | exact Take.here | apply Take.there))) (by first | rfl | exact (Nat.add_zero _).symm | omega) (by rfl) ?_
        refine ag_nil ?_
        have sp_4 := least_spec kl_ok z g.2.2 g.1 g.2.2.length g.2.1 (bigS gf G) rfl (rds_big (f := gf) (List.mem_of_getElem? hg) (gf_rds1 hgx.2.2)) (by rw [hge]; omega)
        refine l_call rfl rfl rfl rfl rfl rfl Try.call25 (sp_4) (by (repeat ((with_reducible apply Takes.cons); focus (first | (with_reducible (repeat (first | exact Take.here | apply Take.there)); done) | (repeat (first | exact Take.here | apply Take.there))))); exact Takes.nil) ?_
        rintro ⟨la, lc, l1⟩ hl1
        simp only at hl1
        rw [hge] at hl1 ⊢
        have hll : l1.length = x.2.2.length := by have := hl1.1.length_eq; rwa [List.length_zipIdx] at this
        have hlz : lst z x.2.2.length ≤ x.2.2.length := by unfold lst; omega
        try simp only [List.cons_append, List.nil_append]
        refine ag_nil ?_
        refine l_buildSlice rfl rfl rfl rfl (vs := [_, _]) (run_buildSl Try.underlying56 Try.sizeOf49 Try.zeroValue49 rfl rfl rfl rfl) ?_
        intro b60
        refine ag_nil ?_
        refine l_append (sz := 1) (enc := encS) (xs := D) rfl rfl rfl rfl rfl Try.underlying56 Try.typeInfo49 rfl rfl rfl (by decide) (by with_reducible (repeat (first | exact Take.here | apply Take.there))) (by with_reducible (repeat (first | exact Take.here | apply Take.there))) (by first | rfl | omega | (simp; done) | (simp; omega)) (ys := [(sa, sc, s1.map (·.1)), (la, lc, (l1.map (·.1)).take (lst z x.2.2.length))]) (rds_some rdn_cells) (by simp [encS, hsl, hll]; omega) (by first | rfl | omega) (encS_len) (encS_one) (by omega) (by show _ * 24 ≤ _; omega) ?_
        intro ao61 cp61
        refine ag_nil ?_
        refine l_assign rfl rfl rfl rfl ?_
        refine ag_nil ?_
        refine r_done ?_
        refine s_keep [0, 1, 5, 6, 8, 9, 10, 11] (e' := [(0, _), (1, _), (5, _), (6, _), (8, _), (9, _), (10, _), (11, _)]) rfl ?_
        refine k_then_n ?_
        refine c_draw rfl (.q 0 (.q 1 (.q 2 (.q 3 (.q 4 (.q 6 (.q 7 (.q 8 (.q 9 (.q 10 ((.l 5 [10] ((.l 11 [] ((.l 12 [] ((.l 13 [] ((.l 14 [] (.done))))))))))))))))))))) (by kernel_rfl) ?_
        refine q_move rfl rfl rfl rfl ?_
        refine q_move rfl rfl rfl rfl ?_
        refine q_move rfl rfl rfl rfl ?_
        refine q_idxR (sz := 0) (k := j) rfl rfl rfl rfl rfl Try.underlying56 Try.sizeOf49 (hr) hx encS_len (by first | rfl | omega) (by omega) ?_
        intro ib65 io65 _ hd65
        refine q_load rfl rfl rfl rfl Try.isAgg49 (by with_reducible (repeat (first | exact Take.here | apply Take.there))) (hd65 0 (.slice x.1 x.2.2.length x.2.1) rfl) ?_
        refine q_move rfl rfl rfl rfl ?_
        refine q_move rfl rfl rfl rfl ?_
        refine q_move rfl rfl rfl rfl ?_
        refine q_idxR (sz := 0) (k := j) rfl rfl rfl rfl rfl Try.underlying56 Try.sizeOf49 (hr) hx encS_len (by first | rfl | omega) (by omega) ?_
        intro ib71 io71 _ hd71
        refine q_load rfl rfl rfl rfl Try.isAgg49 (by with_reducible (repeat (first | exact Take.here | apply Take.there))) (hd71 0 (.slice x.1 x.2.2.length x.2.1) rfl) ?_
        have sp_5 := rsort_spec x.2.2 x.1 x.2.2.length x.2.1 A rfl (hc _ (List.mem_of_getElem? hx)) (by omega)
        refine l_call rfl rfl rfl rfl rfl rfl Try.call26 (sp_5) (by (repeat ((with_reducible apply Takes.cons); focus (first | (with_reducible (repeat (first | exact Take.here | apply Take.there)); done) | (repeat (first | exact Take.here | apply Take.there))))); exact Takes.nil) ?_
        rintro ⟨ua, uc, s2⟩ hs2
        simp only at hs2
        obtain rfl : s1 = s2 := srt_unique kl_ok.ord hs1 hs2
        try simp only [List.cons_append, List.nil_append]
        refine ag_load rfl rfl rfl Try.isAgg49 (by with_reducible (repeat (first | exact Take.here | apply Take.there))) (hd71 0 (.slice x.1 x.2.2.length x.2.1) rfl) ?_
        refine ag_nil ?_
        have sp_6 := rleast_spec z x.2.2 x.1 x.2.2.length x.2.1 A rfl (hc _ (List.mem_of_getElem? hx)) (by omega)
        refine l_call rfl rfl rfl rfl rfl rfl Try.call27 (sp_6) (by (repeat ((with_reducible apply Takes.cons); focus (first | (with_reducible (repeat (first | exact Take.here | apply Take.there)); done) | (repeat (first | exact Take.here | apply Take.there))))); exact Takes.nil) ?_
        rintro ⟨va, vc, l2⟩ hl2
        simp only at hl2
        obtain rfl : l1 = l2 := srt_unique kl_ok.ord hl1 hl2
        try simp only [List.cons_append, List.nil_append]
        refine ag_nil ?_
        refine l_buildSlice rfl rfl rfl rfl (vs := [_, _]) (run_buildSl Try.underlying56 Try.sizeOf49 Try.zeroValue49 rfl rfl rfl rfl) ?_
        intro b74
        refine ag_nil ?_
        refine l_append (sz := 1) (enc := encS) (xs := E) rfl rfl rfl rfl rfl Try.underlying56 Try.typeInfo49 rfl rfl rfl (by decide) (by with_reducible (repeat (first | exact Take.here | apply Take.there))) (by with_reducible (repeat (first | exact Take.here | apply Take.there))) (by first | rfl | omega | (simp; done) | (simp; omega)) (ys := [(ua, uc, s1.map (·.1)), (va, vc, (l1.map (·.1)).take (lst z x.2.2.length))]) (rds_some rdn_cells) (by simp [encS, hsl, hll]; omega) (by first | rfl | omega) (encS_len) (encS_one) (by omega) (by show _ * 24 ≤ _; omega) ?_
        intro ao75 cp75
        refine ag_nil ?_
        refine l_assign rfl rfl rfl rfl ?_
        refine ag_nil ?_
        refine r_done ?_
        refine s_keep [0, 1, 5, 6, 8, 9, 10, 11] (e' := [(0, _), (1, _), (5, _), (6, _), (8, _), (9, _), (10, _), (11, _)]) rfl ?_
        refine k_blk_n ?_
        refine k_then_n ?_
        refine c_plain (.q 0 (.q 1 (.q 2 (.done)))) (by kernel_rfl) ?_
        refine q_move rfl rfl rfl rfl ?_
        refine q_int rfl rfl rfl rfl rfl (b_add' _ (by (first | exact fits_i64 (by omega) (by omega) | exact fits_u64 (by omega) (by omega) | exact fits_u32 (by omega) (by omega) | exact fits_u8 (by omega) (by omega)))) ?_
        refine q_assign rfl rfl rfl rfl ?_
        refine r_done ?_
        refine k_then_n ?_
        refine s_big_push (f := ow) (L := D) (x := (sa, sc, s1.map (·.1))) (by (repeat ((with_reducible apply Takes.cons); focus (first | (with_reducible (repeat (first | exact Take.here | apply Take.there)); done) | (repeat (first | exact Take.here | apply Take.there))))); exact Takes.nil) ?_
        refine s_big_push (f := ow) (L := (D ++ [(sa, sc, s1.map (·.1))])) (x := (la, lc, (l1.map (·.1)).take (lst z x.2.2.length))) (by (repeat ((with_reducible apply Takes.cons); focus (first | (with_reducible (repeat (first | exact Take.here | apply Take.there)); done) | (repeat (first | exact Take.here | apply Take.there))))); exact Takes.nil) ?_
        rw [List.append_assoc, show [(sa, sc, s1.map (·.1))] ++ [(la, lc, (l1.map (·.1)).take (lst z x.2.2.length))] = [(sa, sc, s1.map (·.1)), (la, lc, (l1.map (·.1)).take (lst z x.2.2.length))] from rfl]
        refine s_big_push (f := ow) (L := E) (x := (ua, uc, s1.map (·.1))) (by (repeat ((with_reducible apply Takes.cons); focus (first | (with_reducible (repeat (first | exact Take.here | apply Take.there)); done) | (repeat (first | exact Take.here | apply Take.there))))); exact Takes.nil) ?_
        refine s_big_push (f := ow) (L := (E ++ [(ua, uc, s1.map (·.1))])) (x := (va, vc, (l1.map (·.1)).take (lst z x.2.2.length))) (by (repeat ((with_reducible apply Takes.cons); focus (first | (with_reducible (repeat (first | exact Take.here | apply Take.there)); done) | (repeat (first | exact Take.here | apply Take.there))))); exact Takes.nil) ?_
        rw [List.append_assoc, show [(ua, uc, s1.map (·.1))] ++ [(va, vc, (l1.map (·.1)).take (lst z x.2.2.length))] = [(ua, uc, s1.map (·.1)), (va, vc, (l1.map (·.1)).take (lst z x.2.2.length))] from rfl]
        refine s_eq 8 rfl (v' := .slice ao61 (D ++ [(sa, sc, s1.map (·.1)), (la, lc, (l1.map (·.1)).take (lst z x.2.2.length))]).length cp61) (by simp) ?_
        refine s_eq 9 rfl (v' := .slice ao75 (E ++ [(ua, uc, s1.map (·.1)), (va, vc, (l1.map (·.1)).take (lst z x.2.2.length))]).length cp75) (by simp) ?_
        refine loop_next (x := (j, D, E, ad, cd, ae, ce)) ((j + 1, D ++ [(sa, sc, s1.map (·.1)), (la, lc, (l1.map (·.1)).take (lst z x.2.2.length))], E ++ [(ua, uc, s1.map (·.1)), (va, vc, (l1.map (·.1)).take (lst z x.2.2.length))], ao61, cp61, ao75, cp75)) ?_ ?_ ?_ ?_
        · try dsimp only
          exact ⟨by omega, de_two hDE rfl rfl, by rw [List.length_append, hDl]; simp only [List.length_cons, List.length_nil]; omega, mem_two hDb (by show (s1.map (·.1)).length ≤ _; rw [List.length_map]; omega) (by show ((l1.map (·.1)).take _).length ≤ _; rw [List.length_take, List.length_map]; omega)⟩
        · show m - (j + 1) < m - j; omega
        · exact ⟨rfl, rfl, rfl, rfl, rfl, rfl, rfl, rfl, trivial⟩
        · (try simp only [List.cons_append, List.nil_append]); (repeat ((with_reducible apply Takes.cons); focus (first | (with_reducible (repeat (first | exact Take.here | apply Take.there)); done) | (repeat (first | exact Take.here | apply Take.there))))); (repeat (first | exact Takes.nil | exact Takes.self | refine takes_drop2 ?_))
      · skip
        refine c_exit ?_
        refine k_then_exit ?_
        refine k_then_exit ?_
        refine k_blk_here ?_
        refine k_then_n ?_
        refine c_seq ?_
        obtain rfl : m = j := by omega
        have hqm : q * (2 * m + 1) ≤ 2097153 := Nat.le_trans (Nat.mul_le_mul (show q ≤ 1 by omega) (Nat.le_refl _)) (by omega)
        have hDE1 := hDE.1
        refine c_plain (.q 0 (.q 1 ((.l 2 [] ((.l 3 [] ((.l 4 [] (.q 5 (.done)))))))))) (by kernel_rfl) ?_
        refine q_move rfl rfl rfl rfl ?_
        refine q_move rfl rfl rfl rfl ?_
        have sp_7 := merge_spec kl_ok G ag m cg (own 1 encS ag cg G) (bigS gf G) (rds_own encS_len hga hgb) hgll (fun x hx => rds_big (f := gf) hx (gf_rds1 (hgf x hx).2.2)) (by omega) (by omega)
        refine l_call rfl rfl rfl rfl rfl rfl Try.call28 (sp_7) (by (repeat ((with_reducible apply Takes.cons); focus (first | (with_reducible (repeat (first | exact Take.here | apply Take.there)); done) | (repeat (first | exact Take.here | apply Take.there))))); exact Takes.nil) ?_
        rintro ⟨ma, mc, m1⟩ hm1
        simp only at hm1
        rw [hgc] at hm1
        have hml : m1.length = (cat L).length := by have := hm1.1.length_eq; rwa [List.length_zipIdx] at this
        try simp only [List.cons_append, List.nil_append]
        refine ag_nil ?_
        refine l_buildSlice rfl rfl rfl rfl (run_build1 (us := [_]) Try.underlying56 Try.sizeOf49 rfl Try.zeroValue49 rfl rfl rfl) ?_
        intro b79
        refine ag_nil ?_
        refine l_append (sz := 1) (enc := encS) (xs := D) rfl rfl rfl rfl rfl Try.underlying56 Try.typeInfo49 rfl rfl rfl (by decide) (by with_reducible (repeat (first | exact Take.here | apply Take.there))) (by with_reducible (repeat (first | exact Take.here | apply Take.there))) (by first | rfl | omega | (simp; done) | (simp; omega)) (ys := [(ma, mc, m1.map (·.1))]) (rds_some rdn_cells) (by simp [encS]) (by first | rfl | omega) (encS_len) (encS_one) (by omega) (by show _ * 24 ≤ _; omega) ?_
        intro ao80 cp80
        refine ag_nil ?_
        refine q_assign rfl rfl rfl rfl ?_
        refine r_done ?_
        refine s_keep [0, 1, 5, 6, 8, 9, 10] (e' := [(0, _), (1, _), (5, _), (6, _), (8, _), (9, _), (10, _)]) rfl ?_
        refine k_then_n ?_
        refine c_plain (.q 0 (.q 1 ((.l 2 [] ((.l 3 [] ((.l 4 [] (.q 5 (.done)))))))))) (by kernel_rfl) ?_
        refine q_move rfl rfl rfl rfl ?_
        refine q_move rfl rfl rfl rfl ?_
        have sp_8 := rmerge_spec L bo m c A hr hm hc (by omega) (by omega)
        refine l_call rfl rfl rfl rfl rfl rfl Try.call29 (sp_8) (by (repeat ((with_reducible apply Takes.cons); focus (first | (with_reducible (repeat (first | exact Take.here | apply Take.there)); done) | (repeat (first | exact Take.here | apply Take.there))))); exact Takes.nil) ?_
        rintro ⟨na, nc, m2⟩ hm2
        simp only at hm2
        obtain rfl : m1 = m2 := srt_unique kl_ok.ord hm1 hm2
        try simp only [List.cons_append, List.nil_append]
        refine ag_nil ?_
        refine l_buildSlice rfl rfl rfl rfl (run_build1 (us := [_]) Try.underlying56 Try.sizeOf49 rfl Try.zeroValue49 rfl rfl rfl) ?_
        intro b84
        refine ag_nil ?_
        refine l_append (sz := 1) (enc := encS) (xs := E) rfl rfl rfl rfl rfl Try.underlying56 Try.typeInfo49 rfl rfl rfl (by decide) (by with_reducible (repeat (first | exact Take.here | apply Take.there))) (by with_reducible (repeat (first | exact Take.here | apply Take.there))) (by first | rfl | omega | (simp; done) | (simp; omega)) (ys := [(na, nc, m1.map (·.1))]) (rds_some rdn_cells) (by simp [encS]) (by first | rfl | omega) (encS_len) (encS_one) (by omega) (by show _ * 24 ≤ _; omega) ?_
        intro ao85 cp85
        refine ag_nil ?_
        refine q_assign rfl rfl rfl rfl ?_
        refine r_done ?_
        refine s_keep [0, 1, 5, 6, 8, 9, 10] (e' := [(0, _), (1, _), (5, _), (6, _), (8, _), (9, _), (10, _)]) rfl ?_
        refine k_blk_n ?_
        refine k_then_n ?_
        refine c_plain (.q 0 (.q 1 (.q 2 (.done)))) (by kernel_rfl) ?_
        refine q_move rfl rfl rfl rfl ?_
        refine q_int rfl rfl rfl rfl rfl (b_add' _ (by (first | exact fits_i64 (by omega) (by omega) | exact fits_u64 (by omega) (by omega) | exact fits_u32 (by omega) (by omega) | exact fits_u8 (by omega) (by omega)))) ?_
        refine q_assign rfl rfl rfl rfl ?_
        refine r_done ?_
        refine k_then_n ?_
        refine s_big_push (f := ow) (L := D) (x := (ma, mc, m1.map (·.1))) (by (repeat ((with_reducible apply Takes.cons); focus (first | (with_reducible (repeat (first | exact Take.here | apply Take.there)); done) | (repeat (first | exact Take.here | apply Take.there))))); exact Takes.nil) ?_
        refine s_big_push (f := ow) (L := E) (x := (na, nc, m1.map (·.1))) (by (repeat ((with_reducible apply Takes.cons); focus (first | (with_reducible (repeat (first | exact Take.here | apply Take.there)); done) | (repeat (first | exact Take.here | apply Take.there))))); exact Takes.nil) ?_
        refine s_eq 8 rfl (v' := .slice ao80 (D ++ [(ma, mc, m1.map (·.1))]).length cp80) (by simp) ?_
        refine s_eq 9 rfl (v' := .slice ao85 (E ++ [(na, nc, m1.map (·.1))]).length cp85) (by simp) ?_
        refine loop_next (x := (q, D, E, ad, cd, ae, ce)) ((q + 1, D ++ [(ma, mc, m1.map (·.1))], E ++ [(na, nc, m1.map (·.1))], ao80, cp80, ao85, cp85)) ?_ ?_ ?_ ?_
        · try dsimp only
          exact ⟨by omega, de_push hDE rfl, (by rw [List.length_append, hDl]; simp only [List.length_cons, List.length_nil, Nat.succ_mul]; omega), mem_one hDb (by show (m1.map (·.1)).length ≤ _; rw [List.length_map, hml]; exact hcb)⟩
        · show 2 - (q + 1) < 2 - q; omega
        · exact ⟨rfl, rfl, rfl, rfl, rfl, rfl, rfl, trivial⟩
        · (try simp only [List.cons_append, List.nil_append]); (repeat ((with_reducible apply Takes.cons); focus (first | (with_reducible (repeat (first | exact Take.here | apply Take.there)); done) | (repeat (first | exact Take.here | apply Take.there))))); (repeat (first | exact Takes.nil | exact Takes.self | refine takes_drop2 ?_))
    · skip
      refine c_exit ?_
      refine k_then_exit ?_
      refine k_then_exit ?_
      refine k_blk_here ?_
      refine k_then_n ?_
      refine c_seq ?_
      refine c_seq ?_
      refine c_plain (.q 0 (.done)) (by kernel_rfl) ?_
      refine q_assign rfl rfl rfl rfl ?_
      refine r_done ?_
      refine s_keep [0, 5, 6, 8, 9, 12] (e' := [(0, _), (5, _), (6, _), (8, _), (9, _), (12, _)]) rfl ?_
      refine k_then_n ?_
      refine c_block ?_
      obtain rfl : q = 2 := by omega
      have hDE1 := hDE.1
      refine c_loop2 (α := Nat) (fun (j : Nat) => j ≤ D.length) (fun (j : Nat) => [(12, .int .i64 ((j : Nat) : Int))]) (fun (j : Nat) => []) (fun (j : Nat) => D.length - j) [0, 5, 6, 8, 9] (er := [(0, _), (5, _), (6, _), (8, _), (9, _)]) rfl (0) ?_ (by exact ⟨rfl, trivial⟩) (by (try dsimp only); (try simp only [Nat.add_zero, Nat.zero_add]); (repeat ((with_reducible apply Takes.cons); focus (first | (with_reducible (repeat (first | exact Take.here | apply Take.there)); done) | (repeat (first | exact Take.here | apply Take.there))))); exact Takes.nil) ?_
      · exact Nat.zero_le _
      rintro j hle_j
      try simp only [List.cons_append, List.nil_append]
      refine c_seq ?_
      refine c_seq ?_
      refine c_plain (.q 0 (.q 1 (.q 2 (.q 3 (.done))))) (by kernel_rfl) ?_
      refine q_move rfl rfl rfl rfl ?_
      refine q_move rfl rfl rfl rfl ?_
      refine q_len rfl rfl rfl rfl Try.underlying56 ?_
      refine q_int rfl rfl rfl rfl rfl (b_lss _ _ _ _) ?_
      refine r_done ?_
      refine k_then_n ?_
      refine c_cond_p rfl (fun hlj => ?_) (fun hlj => ?_)
      · skip
        obtain ⟨d, hd⟩ := get_lt (l := D) (i := j) (by omega)
        obtain ⟨e, he⟩ := get_lt (l := E) (i := j) (by omega)
        have hde := hDE.2 j d e hd he
        have hdb := hDb _ (List.mem_of_getElem? hd)
        refine s_owA (sz := 2) (enc := encT) (T := D) (by first | (with_reducible (repeat (first | exact Take.here | apply Take.there)); done) | (repeat (first | exact Take.here | apply Take.there))) hd fun hdo1 hdo2 => ?_
        refine s_owA (sz := 2) (enc := encT) (T := E) (by first | (with_reducible (repeat (first | exact Take.here | apply Take.there)); done) | (repeat (first | exact Take.here | apply Take.there))) he fun heo1 heo2 => ?_
        refine c_skip ?_
        refine k_then_n ?_
        refine c_seq ?_
        refine c_block ?_
        refine c_seq ?_
        refine c_draw rfl (.q 0 (.q 1 (.q 2 (.q 3 (.q 4 (.q 5 (.q 6 (.q 7 ((.l 8 [] (.q 9 (.done)))))))))))) (by kernel_rfl) ?_
        refine q_move rfl rfl rfl rfl ?_
        refine q_move rfl rfl rfl rfl ?_
        refine q_idxO (sz := 0) (k := j) (enc := encS) (xs := D) rfl rfl rfl rfl rfl Try.underlying56 Try.sizeOf49 hd (by first | rfl | omega) (by omega) (by with_reducible (repeat (first | exact Take.here | apply Take.there))) ?_
        intro ib94 io94 ha94 hl94 hc94
        refine q_load_O (v := (.slice d.1 d.2.2.length d.2.1)) (j := 0) (k' := j) (enc := encS) (off := io94) rfl rfl rfl rfl Try.isAgg49 ha94 encS_len hd (by with_reducible (repeat (first | exact Take.here | apply Take.there))) (by first | rfl | exact (Nat.add_zero _).symm | omega) (by rfl) ?_
        refine q_move rfl rfl rfl rfl ?_
        refine q_move rfl rfl rfl rfl ?_
        refine q_idxO (sz := 0) (k := j) (enc := encS) (xs := E) rfl rfl rfl rfl rfl Try.underlying56 Try.sizeOf49 he (by first | rfl | omega) (by omega) (by with_reducible (repeat (first | exact Take.here | apply Take.there))) ?_
        intro ib98 io98 ha98 hl98 hc98
        refine q_load_O (v := (.slice e.1 e.2.2.length e.2.1)) (j := 0) (k' := j) (enc := encS) (off := io98) rfl rfl rfl rfl Try.isAgg49 ha98 encS_len he (by with_reducible (repeat (first | exact Take.here | apply Take.there))) (by first | rfl | exact (Nat.add_zero _).symm | omega) (by rfl) ?_
        have sp_9 := same_spec d.2.2 e.2.2 d.1 e.1 d.2.2.length e.2.2.length d.2.1 e.2.1 (bigS ow D) (bigS ow E) (by first | rfl | assumption | omega | (simp; done) | (simp; omega)) (rds_big (f := ow) (List.mem_of_getElem? hd) (rds_own encT_len hdo1 hdo2)) (by first | rfl | assumption | omega | (simp; done) | (simp; omega)) (rds_big (f := ow) (List.mem_of_getElem? he) (rds_own encT_len heo1 heo2)) (by omega)
        refine l_call rfl rfl rfl rfl rfl rfl Try.call30 (sp_9) (by (repeat ((with_reducible apply Takes.cons); focus (first | (with_reducible (repeat (first | exact Take.here | apply Take.there)); done) | (repeat (first | exact Take.here | apply Take.there))))); exact Takes.nil) ?_
        rintro ⟨⟩ -
        try simp only [List.cons_append, List.nil_append]
        refine ag_nil ?_
        refine q_not rfl rfl rfl rfl ?_
        refine r_done ?_
        refine s_keep [0, 5, 6, 8, 9, 12, 101] (e' := [(0, _), (5, _), (6, _), (8, _), (9, _), (12, _), (101, _)]) rfl ?_
        refine k_then_n ?_
        refine c_cond_np rfl (fun hg => by exfalso; exact hg hde) (fun hg => ?_)
        refine c_skip ?_
        refine k_blk_n ?_
        refine k_then_n ?_
        refine c_plain (.q 0 (.q 1 (.q 2 (.done)))) (by kernel_rfl) ?_
        refine q_move rfl rfl rfl rfl ?_
        refine q_int rfl rfl rfl rfl rfl (b_add' _ (by (first | exact fits_i64 (by omega) (by omega) | exact fits_u64 (by omega) (by omega) | exact fits_u32 (by omega) (by omega) | exact fits_u8 (by omega) (by omega)))) ?_
        refine q_assign rfl rfl rfl rfl ?_
        refine r_done ?_
        refine k_then_n ?_
        refine loop_next (x := j) (j + 1) ?_ ?_ ?_ ?_
        · exact by show j + 1 ≤ D.length; omega
        · show D.length - (j + 1) < D.length - j; omega
        · exact ⟨rfl, rfl, rfl, rfl, rfl, rfl, trivial⟩
        · (try simp only [List.cons_append, List.nil_append]); (repeat ((with_reducible apply Takes.cons); focus (first | (with_reducible (repeat (first | exact Take.here | apply Take.there)); done) | (repeat (first | exact Take.here | apply Take.there))))); (repeat (first | exact Takes.nil | exact Takes.self | refine takes_drop2 ?_))
      · skip
        refine c_exit ?_
        refine k_then_exit ?_
        refine k_then_exit ?_
        refine k_blk_here ?_
        refine k_then_n ?_
        refine c_seq ?_
        refine c_seq ?_
        refine c_plain (.q 0 (.done)) (by kernel_rfl) ?_
        refine q_assign rfl rfl rfl rfl ?_
        refine r_done ?_
        refine s_keep [0, 5, 6, 8, 13] (e' := [(0, _), (5, _), (6, _), (8, _), (13, _)]) rfl ?_
        refine k_then_n ?_
        refine c_block ?_
        refine c_loop2 (α := Nat) (fun (j2 : Nat) => j2 ≤ m) (fun (j2 : Nat) => [(13, .int .i64 ((j2 : Nat) : Int))]) (fun (j2 : Nat) => []) (fun (j2 : Nat) => m - j2) [0, 5, 6, 8] (er := [(0, _), (5, _), (6, _), (8, _)]) rfl (0) ?_ (by exact ⟨rfl, trivial⟩) (by (try dsimp only); (try simp only [Nat.add_zero, Nat.zero_add]); (repeat ((with_reducible apply Takes.cons); focus (first | (with_reducible (repeat (first | exact Take.here | apply Take.there)); done) | (repeat (first | exact Take.here | apply Take.there))))); exact Takes.nil) ?_
        · exact Nat.zero_le _
        rintro j2 hle_j2
        try simp only [List.cons_append, List.nil_append]
        refine c_seq ?_
        refine c_seq ?_
        refine c_plain (.q 0 (.q 1 (.q 2 (.q 3 (.done))))) (by kernel_rfl) ?_
        refine q_move rfl rfl rfl rfl ?_
        refine q_move rfl rfl rfl rfl ?_
        refine q_len rfl rfl rfl rfl Try.underlying56 ?_
        refine q_int rfl rfl rfl rfl rfl (b_lss _ _ _ _) ?_
        refine r_done ?_
        refine k_then_n ?_
        refine c_cond_p rfl (fun hlj => ?_) (fun hlj => ?_)
        · skip
          obtain ⟨g, hg⟩ := get_lt (l := G) (i := j2) (by omega)
          obtain ⟨x, hx⟩ := get_lt (l := L) (i := j2) (by omega)
          have hgx := hgf _ (List.mem_of_getElem? hg)
          have hxb := hlen _ (List.mem_of_getElem? hx)
          have hge := hG.same j2 x g hx hg
          have hgl2 : g.2.2.length ≤ 1048576 := by rw [hge]; exact hxb
          have hmk : (List.take (g.2.2.length + 1) (g.2.2 ++ [mk0]))[g.2.2.length]? = some mk0 := by rw [List.getElem?_take]; simp
          refine c_skip ?_
          refine k_then_n ?_
          refine c_seq ?_
          refine c_block ?_
          refine c_seq ?_
          refine c_draw rfl (.q 0 (.q 1 (.q 2 (.q 3 (.q 4 (.q 5 (.q 6 (.q 7 ((.l 8 [] (.q 9 (.q 10 (.q 11 (.q 12 (.q 13 (.q 14 (.q 15 (.q 16 (.q 17 (.q 18 (.q 19 (.q 20 (.q 21 (.q 22 (.q 23 (.q 24 (.q 25 (.q 26 (.q 27 (.q 28 (.q 29 (.q 30 (.q 31 (.done)))))))))))))))))))))))))))))))))) (by kernel_rfl) ?_
          refine q_move rfl rfl rfl rfl ?_
          refine q_move rfl rfl rfl rfl ?_
          refine q_idxO (sz := 0) (k := j2) (enc := encS) (xs := G) rfl rfl rfl rfl rfl Try.underlying56 Try.sizeOf49 hg (by first | rfl | omega) (by omega) (by with_reducible (repeat (first | exact Take.here | apply Take.there))) ?_
          intro ib110 io110 ha110 hl110 hc110
          refine q_load_O (v := (.slice g.1 g.2.2.length g.2.1)) (j := 0) (k' := j2) (enc := encS) (off := io110) rfl rfl rfl rfl Try.isAgg49 ha110 encS_len hg (by with_reducible (repeat (first | exact Take.here | apply Take.there))) (by first | rfl | exact (Nat.add_zero _).symm | omega) (by rfl) ?_
          refine q_move rfl rfl rfl rfl ?_
          refine q_move rfl rfl rfl rfl ?_
          refine q_idxR (sz := 0) (k := j2) rfl rfl rfl rfl rfl Try.underlying56 Try.sizeOf49 (hr) hx encS_len (by first | rfl | omega) (by omega) ?_
          intro ib114 io114 _ hd114
          refine q_load rfl rfl rfl rfl Try.isAgg49 (by with_reducible (repeat (first | exact Take.here | apply Take.there))) (hd114 0 (.slice x.1 x.2.2.length x.2.1) rfl) ?_
          have sp_10 := same_spec g.2.2 x.2.2 g.1 x.1 g.2.2.length x.2.2.length g.2.1 x.2.1 (bigS gf G) A (by first | rfl | assumption | omega | (simp; done) | (simp; omega)) (rds_big (f := gf) (List.mem_of_getElem? hg) (gf_rds1 (hgf _ (List.mem_of_getElem? hg)).2.2)) (by first | rfl | assumption | omega | (simp; done) | (simp; omega)) ((hc _ (List.mem_of_getElem? hx))) (by rw [hge]; omega)
          refine l_call rfl rfl rfl rfl rfl rfl Try.call30 (sp_10) (by (repeat ((with_reducible apply Takes.cons); focus (first | (with_reducible (repeat (first | exact Take.here | apply Take.there)); done) | (repeat (first | exact Take.here | apply Take.there))))); exact Takes.nil) ?_
          rintro ⟨⟩ -
          try simp only [List.cons_append, List.nil_append]
          refine ag_nil ?_
          refine q_not rfl rfl rfl rfl ?_
          refine q_move rfl rfl rfl rfl ?_
          refine s_bool_np 118 rfl (fun hgu => by exfalso; exact hgu hge) (fun hgu => ?_)
          refine q_move rfl rfl rfl rfl ?_
          refine q_move rfl rfl rfl rfl ?_
          refine q_idxO (sz := 0) (k := j2) (enc := encS) (xs := G) rfl rfl rfl rfl rfl Try.underlying56 Try.sizeOf49 hg (by first | rfl | omega) (by omega) (by with_reducible (repeat (first | exact Take.here | apply Take.there))) ?_
          intro ib121 io121 ha121 hl121 hc121
          refine q_load_O (v := (.slice g.1 g.2.2.length g.2.1)) (j := 0) (k' := j2) (enc := encS) (off := io121) rfl rfl rfl rfl Try.isAgg49 ha121 encS_len hg (by with_reducible (repeat (first | exact Take.here | apply Take.there))) (by first | rfl | exact (Nat.add_zero _).symm | omega) (by rfl) ?_
          refine q_move rfl rfl rfl rfl ?_
          refine q_move rfl rfl rfl rfl ?_
          refine q_idxO (sz := 0) (k := j2) (enc := encS) (xs := G) rfl rfl rfl rfl rfl Try.underlying56 Try.sizeOf49 hg (by first | rfl | omega) (by omega) (by with_reducible (repeat (first | exact Take.here | apply Take.there))) ?_
          intro ib125 io125 ha125 hl125 hc125
          refine q_load_O (v := (.slice g.1 g.2.2.length g.2.1)) (j := 0) (k' := j2) (enc := encS) (off := io125) rfl rfl rfl rfl Try.isAgg49 ha125 encS_len hg (by with_reducible (repeat (first | exact Take.here | apply Take.there))) (by first | rfl | exact (Nat.add_zero _).symm | omega) (by rfl) ?_
          refine q_len rfl rfl rfl rfl Try.underlying49 ?_
          refine q_int rfl rfl rfl rfl rfl (b_add' _ (by (first | exact fits_i64 (by omega) (by omega) | exact fits_u64 (by omega) (by omega) | exact fits_u32 (by omega) (by omega) | exact fits_u8 (by omega) (by omega)))) ?_
          refine q_cut_hi (h' := g.2.2.length + 1) rfl rfl rfl rfl rfl Try.underlying49 Try.sizeOf28 (by first | rfl | omega) (by have := hgx; omega) ?_
          refine q_move rfl rfl rfl rfl ?_
          refine q_move rfl rfl rfl rfl ?_
          refine q_idxO (sz := 0) (k := j2) (enc := encS) (xs := G) rfl rfl rfl rfl rfl Try.underlying56 Try.sizeOf49 hg (by first | rfl | omega) (by omega) (by with_reducible (repeat (first | exact Take.here | apply Take.there))) ?_
          intro ib132 io132 ha132 hl132 hc132
          refine q_load_O (v := (.slice g.1 g.2.2.length g.2.1)) (j := 0) (k' := j2) (enc := encS) (off := io132) rfl rfl rfl rfl Try.isAgg49 ha132 encS_len hg (by with_reducible (repeat (first | exact Take.here | apply Take.there))) (by first | rfl | exact (Nat.add_zero _).symm | omega) (by rfl) ?_
          refine q_len rfl rfl rfl rfl Try.underlying49 ?_
          refine q_idxR (sz := 1) (k := g.2.2.length) rfl rfl rfl rfl rfl Try.underlying49 Try.sizeOf28 (rds_take (rds_big (f := gf) (List.mem_of_getElem? hg) (gf_rds (hgf _ (List.mem_of_getElem? hg)).2.2)) encT_len (g.2.2.length + 1)) hmk encT_len (by first | rfl | omega) (by omega) ?_
          intro ib135 io135 _ hd135
          refine q_loadN (vs := [_, _]) rfl rfl rfl rfl Try.isAgg28 Try.sizeOf28 (by with_reducible (repeat (first | exact Take.here | apply Take.there))) (hd135) rfl ?_
          refine q_loadN_c rfl rfl rfl rfl Try.isAgg28 Try.sizeOf28 (by with_reducible (repeat (first | exact Take.here | apply Take.there))) 0 (us := [_, _]) (by first | rfl | exact (Nat.add_zero _).symm) rfl rfl ?_
          refine q_neS rfl rfl rfl rfl rfl (by kernel_rfl) (eqc_struct Try.underlying28 (by kernel_rfl) (eqf_cons rfl Try.isAgg3 rfl rfl (eqc_int Try.underlying3) (eqf_last rfl Try.isAgg3 rfl rfl (eqc_int Try.underlying3)))) ?_
          refine s_eq 138 rfl (v' := .bool (decide (mk0 ≠ ((-71), (-72))))) (by first | (congr 1; done) | (congr 1; rw [Bool.eq_iff_iff]; simp [Prod.ext_iff, and_assoc])) ?_
          refine q_pick_f rfl rfl rfl rfl rfl ?_
          refine r_done ?_
          refine s_keep [0, 5, 6, 8, 13, 119, 120, 121, 122, 123, 124, 125, 126, 127, 128, 129, 130, 131, 132, 133, 134, 135, 136, 137, 138, 139] (e' := [(0, _), (5, _), (6, _), (8, _), (13, _), (119, _), (120, _), (121, _), (122, _), (123, _), (124, _), (125, _), (126, _), (127, _), (128, _), (129, _), (130, _), (131, _), (132, _), (133, _), (134, _), (135, _), (136, _), (137, _), (138, _), (139, _)]) rfl ?_
          refine k_then_n ?_
          refine c_cond_p rfl (fun hg => by exfalso; first | exact hg rfl | exact hg trivial | simp at hg) (fun hg => ?_)
          refine c_skip ?_
          refine k_blk_n ?_
          refine k_then_n ?_
          refine c_plain (.q 0 (.q 1 (.q 2 (.done)))) (by kernel_rfl) ?_
          refine q_move rfl rfl rfl rfl ?_
          refine q_int rfl rfl rfl rfl rfl (b_add' _ (by (first | exact fits_i64 (by omega) (by omega) | exact fits_u64 (by omega) (by omega) | exact fits_u32 (by omega) (by omega) | exact fits_u8 (by omega) (by omega)))) ?_
          refine q_assign rfl rfl rfl rfl ?_
          refine r_done ?_
          refine k_then_n ?_
          refine loop_next (x := j2) (j2 + 1) ?_ ?_ ?_ ?_
          · exact by show j2 + 1 ≤ m; omega
          · show m - (j2 + 1) < m - j2; omega
          · exact ⟨rfl, rfl, rfl, rfl, rfl, trivial⟩
          · (try simp only [List.cons_append, List.nil_append]); (repeat ((with_reducible apply Takes.cons); focus (first | (with_reducible (repeat (first | exact Take.here | apply Take.there)); done) | (repeat (first | exact Take.here | apply Take.there))))); (repeat (first | exact Takes.nil | exact Takes.self | refine takes_drop2 ?_))
        · skip
          refine c_exit ?_
          refine k_then_exit ?_
          refine k_then_exit ?_
          refine k_blk_here ?_
          refine k_then_n ?_
          refine c_seq ?_
          refine c_plain (.q 0 ((.l 1 [] (.q 2 ((.l 3 [] (.q 4 (.q 5 (.done))))))))) (by kernel_rfl) ?_
          refine q_move rfl rfl rfl rfl ?_
          refine s_take (A := own 1 encS ad cd D) (by with_reducible (repeat (first | exact Take.here | apply Take.there))) ?_
          refine own_fc fun hw1 hw2 hw3 => ?_
          have sp_11 := apart_spec D ad D.length cd (own 1 encS ad cd D) (rds_own encS_len (fun h => (hw2 h).1) hw3) rfl (by omega) (fun x hx => Nat.le_trans (hDb x hx) (by decide))
          refine l_call rfl rfl rfl rfl rfl rfl Try.call31 (sp_11) (by (repeat ((with_reducible apply Takes.cons); focus (first | (with_reducible (repeat (first | exact Take.here | apply Take.there)); done) | (repeat (first | exact Take.here | apply Take.there))))); exact Takes.nil) ?_
          rintro ⟨⟩ -
          try simp only [List.cons_append, List.nil_append]
          refine ag_nil ?_
          refine q_move rfl rfl rfl rfl ?_
          refine l_call rfl rfl rfl rfl rfl rfl Try.call14 (known_spec) (by (repeat ((with_reducible apply Takes.cons); focus (first | (with_reducible (repeat (first | exact Take.here | apply Take.there)); done) | (repeat (first | exact Take.here | apply Take.there))))); exact Takes.nil) ?_
          rintro ⟨⟩ -
          try simp only [List.cons_append, List.nil_append]
          refine ag_nil ?_
          refine q_pick_t rfl rfl rfl rfl rfl ?_
          refine q_assign rfl rfl rfl rfl ?_
          refine r_done ?_
          refine s_keep [4] (e' := [(4, _)]) rfl ?_
          refine k_then_n ?_
          refine c_ret ?_
          refine ret1 rfl rfl (()) (by first | rfl | (first | rfl | (congr 1; done) | (congr 1 <;> first | rfl | omega | (simp; done) | (simp; omega)))) (by trivial) ?_
          (repeat ((with_reducible apply Takes.cons); focus (first | (with_reducible (repeat (first | exact Take.here | apply Take.there)); done) | (repeat (first | exact Take.here | apply Take.there))))); (repeat (first | exact Takes.nil | exact Takes.self | refine takes_drop2 ?_))
end Go.Ab.HpT
