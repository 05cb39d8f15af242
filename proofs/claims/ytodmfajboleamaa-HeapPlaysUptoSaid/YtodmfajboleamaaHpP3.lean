/- HeapPlays: steps on both. -/
import Derived.Test.YtodmfajboleamaaHpP2
set_option linter.unusedVariables false
set_option linter.unusedSimpArgs false
set_option maxRecDepth 100000
namespace Go.Ab.HpT
open Go Go.Proofs Go.Ab
theorem own_front {α : Type} {sz : Nat} {enc : α → List Value} (hsz : ∀ x, (enc x).length = sz) {ao : Option Addr} {cap : Nat} {l : List α} {z : α} (h2 : ao = none → l ++ [z] = [] ∧ cap = 0) (h3 : ao ≠ none → ∃ b off, ao = some ⟨b, off, none⟩) : RdS (own sz enc ao cap (l ++ [z])) ao (l.flatMap enc) := by
  have := rds_take (rds_own (cap := cap) hsz (fun e => (h2 e).1) h3) hsz l.length
  rwa [List.take_left] at this
theorem app_at {α : Type} (l : List α) (z : α) : (l ++ [z])[l.length]? = some z := by simp
theorem take_nx {α : Type} {l : List α} {i : Nat} {a : α} (h : l[i]? = some a) : l.take (i + 1) = l.take i ++ [a] := by
  rw [List.take_add_one, h]; rfl
theorem app_assoc {α : Type} (a b c : List α) : a ++ b ++ c = a ++ (b ++ c) := List.append_assoc a b c
/-- What is known of numbered things. -/
structure Nb (Lz : List (Th × Nat)) (m : Nat) : Prop where
  rz : Rz Lz
  below : ∀ p ∈ Lz, p.2 < m
theorem nb_nil : Nb [] 0 := ⟨List.Pairwise.nil, fun p h => by cases h⟩
theorem nb_erase {Lz : List (Th × Nat)} {m : Nat} (h : Nb Lz m) (i : Nat) : Nb (Lz.eraseIdx i) m := ⟨rz_erase h.rz i, fun p hp => h.below p ((List.eraseIdx_sublist Lz i).subset hp)⟩
theorem nb_push {Lz : List (Th × Nat)} {m : Nat} (h : Nb Lz m) (vs : List Th) : Nb (Lz ++ vs.zipIdx m) (m + vs.length) := ⟨(rz_push h.rz h.below vs).1, (rz_push h.rz h.below vs).2⟩
theorem nb_len {Lz : List (Th × Nat)} (vs : List Th) (m : Nat) : (Lz ++ vs.zipIdx m).length = Lz.length + vs.length := by simp
theorem pushes_spec (b q : Nat) (Lz : List (Th × Nat)) (m : Nat) (hLl : Lz.length ≤ 400000000000) (hml : m ≤ 400000000000) (vs : List Th) (lo : Option Addr) (n lc : Nat) (A : HProp) (hr : RdS A lo (vs.flatMap encT)) (hn : vs.length = n) (hb : n ≤ 4000000) : Spec Try.prog 40 [.pointer (some ⟨b, 0, none⟩), .pointer (some ⟨q, 0, none⟩), .slice lo n lc] [hpz b Lz m m, rh q (fs Lz), A] (fun (_ : Unit) => .bool true) (fun _ => True) (fun _ => [hpz b (Lz ++ vs.zipIdx m) (m + n) (m + n), rh q (fs Lz ++ vs), A]) := by
  refine spec_mk (n := 57) Try.func40 rfl rfl rfl ?_
  intro Γ w0
  simp only [argE, List.cons_append, List.nil_append, Nat.zero_add, Nat.reduceAdd]
  refine c_seq ?_
  refine c_plain (.q 0 (.done)) (by kernel_rfl) ?_
  refine q_assign rfl rfl rfl rfl ?_
  refine r_done ?_
  refine k_then_n ?_
  refine c_seq ?_
  refine c_plain (.q 0 ((.l 1 [] ((.l 2 [] (.done)))))) (by kernel_rfl) ?_
  refine q_build rfl rfl rfl rfl (vs := [_, _]) (run_buildS Try.underlying28 Try.zeroValue28 (ps := [(0, 1), (1, 1)]) ⟨rfl, Try.sizeOf3, rfl, Try.sizeOf3, trivial⟩ rfl) ?_
  refine l_alloc rfl rfl rfl Try.zeroValue28 (zs := [.int .i64 0, .int .i64 0]) rfl ?_
  intro b7
  refine ag_nil ?_
  refine l_store (j := 0) rfl rfl rfl rfl Try.sizeOf28 (us := [_, _]) rfl rfl rfl (by with_reducible (repeat (first | exact Take.here | apply Take.there))) (by first | rfl | exact (Nat.add_zero _).symm) (by first | decide | (simp; done) | omega) ?_
  simp only [setL, List.set]
  refine ag_nil ?_
  refine r_done ?_
  refine k_then_n ?_
  refine c_seq ?_
  refine c_draw rfl (.q 0 (.q 2 ((.alt (.l 1 [2] ((.l 3 [] ((.l 4 [] (.q 5 (.done))))))) (.l 3 [] ((.l 1 [] ((.l 4 [] (.q 5 (.done))))))))))) (by kernel_rfl) ?_
  refine q_move rfl rfl rfl rfl ?_
  refine q_loadN_c rfl rfl rfl rfl Try.isAgg28 Try.sizeOf28 (by with_reducible (repeat (first | exact Take.here | apply Take.there))) 0 (us := [_, _]) (by first | rfl | exact (Nat.add_zero _).symm) rfl rfl ?_
  refine r_alt ?_ ?_
  · skip
    refine s_heap (fun _ h => own_nil (sz := 2) (enc := encT) h) ?_
    refine l_append (sz := 2) (enc := encT) (xs := []) rfl rfl rfl rfl rfl Try.underlying49 Try.typeInfo28 rfl rfl rfl (by decide) (by with_reducible (repeat (first | exact Take.here | apply Take.there))) (by with_reducible (repeat (first | exact Take.here | apply Take.there))) (by first | rfl | omega | (simp; done) | (simp; omega)) (ys := vs) (hr) (by rfl) (by first | rfl | omega) (encT_len) (encT_one) (by omega) (by show _ * 16 ≤ _; omega) ?_
    intro ao12 cp12
    try simp only [List.nil_append]
    refine ag_loadN_c rfl rfl (us := [_, _]) rfl Try.isAgg28 Try.sizeOf28 (by with_reducible (repeat (first | exact Take.here | apply Take.there))) 0 (by first | rfl | exact (Nat.add_zero _).symm) rfl rfl ?_
    refine ag_nil ?_
    refine l_buildSlice rfl rfl rfl rfl (run_build1 (us := [_, _]) Try.underlying49 Try.sizeOf28 rfl Try.zeroValue28 rfl rfl rfl) ?_
    intro b14
    refine ag_nil ?_
    refine l_append (sz := 2) (enc := encT) (xs := (vs)) rfl rfl rfl rfl rfl Try.underlying49 Try.typeInfo28 rfl rfl rfl (by decide) (by with_reducible (repeat (first | exact Take.here | apply Take.there))) (by with_reducible (repeat (first | exact Take.here | apply Take.there))) (by first | rfl | omega | (simp; done) | (simp; omega)) (ys := [((-71), (-72))]) (rds_some rdn_cells) (by rfl) (by first | rfl | omega) (encT_len) (encT_one) (by omega) (by show _ * 16 ≤ _; omega) ?_
    intro ao15 cp15
    refine ag_nil ?_
    refine q_assign rfl rfl rfl rfl ?_
    refine r_done ?_
    refine s_keep [0, 1, 2, 7, 8] (e' := [(0, _), (1, _), (2, _), (7, _), (8, _)]) rfl ?_
    refine k_then_n ?_
    refine c_seq ?_
    refine c_seq ?_
    refine s_take (A := own 2 encT ao15 cp15 (vs ++ [((-71), (-72))])) (by with_reducible (repeat (first | exact Take.here | apply Take.there))) ?_
    refine own_fc fun f1 f2 f3 => ?_
    simp only [List.length_append, List.length_singleton] at f1
    have h71 : (vs ++ [((-71), (-72))])[n]? = some ((-71), (-72)) := by rw [← hn]; exact app_at _ _
    refine c_draw rfl (.q 0 (.q 1 (.q 2 (.q 3 (.q 4 ((.l 5 [] (.q 6 (.q 7 (.q 8 (.q 9 (.q 10 (.q 11 (.q 12 ((.l 13 [] (.q 14 (.q 15 (.q 16 (.q 17 (.q 18 (.q 19 (.q 20 (.q 21 (.q 22 (.q 23 (.q 24 (.done)))))))))))))))))))))))))))) (by kernel_rfl) ?_
    refine q_move rfl rfl rfl rfl ?_
    refine q_move rfl rfl rfl rfl ?_
    refine q_move rfl rfl rfl rfl ?_
    refine q_len rfl rfl rfl rfl Try.underlying49 ?_
    refine q_cut_hi (h' := n) rfl rfl rfl rfl rfl Try.underlying49 Try.sizeOf28 (by first | rfl | omega) (by omega) ?_
    refine s_take (A := own 2 encT ao15 cp15 ((vs) ++ ([((-71), (-72))]))) (by with_reducible (repeat (first | exact Take.here | apply Take.there))) ?_
    refine own_fc fun f_1a f_1b f_1c => ?_
    have sp_2 := zpush_spec b Lz m vs ao15 n cp15 (own 2 encT ao15 cp15 (vs ++ [((-71), (-72))])) (own_front encT_len f2 f3) hn (by omega) (by omega)
    refine l_call rfl rfl rfl rfl rfl rfl Try.call11 (sp_2) (by (repeat ((with_reducible apply Takes.cons); focus (first | (with_reducible (repeat (first | exact Take.here | apply Take.there)); done) | (repeat (first | exact Take.here | apply Take.there))))); exact Takes.nil) ?_
    rintro ⟨⟩ -
    try simp only [List.cons_append, List.nil_append]
    refine ag_nil ?_
    refine q_int rfl rfl rfl rfl rfl (b_neq _ _ _ _) ?_
    refine s_eq 22 rfl (v' := .bool false) (by first | rfl | simp) ?_
    refine q_move rfl rfl rfl rfl ?_
    refine q_move rfl rfl rfl rfl ?_
    refine q_move rfl rfl rfl rfl ?_
    refine q_len rfl rfl rfl rfl Try.underlying49 ?_
    refine q_cut_hi (h' := n) rfl rfl rfl rfl rfl Try.underlying49 Try.sizeOf28 (by first | rfl | omega) (by omega) ?_
    refine s_take (A := own 2 encT ao15 cp15 ((vs) ++ ([((-71), (-72))]))) (by with_reducible (repeat (first | exact Take.here | apply Take.there))) ?_
    refine own_fc fun f_3a f_3b f_3c => ?_
    refine q_move rfl rfl rfl rfl ?_
    have sp_4 := same_spec vs vs ao15 lo n n cp15 lc (own 2 encT ao15 cp15 (vs ++ [((-71), (-72))])) A hn (own_front encT_len f2 f3) hn hr (by omega)
    refine l_call rfl rfl rfl rfl rfl rfl Try.call30 (sp_4) (by (repeat ((with_reducible apply Takes.cons); focus (first | (with_reducible (repeat (first | exact Take.here | apply Take.there)); done) | (repeat (first | exact Take.here | apply Take.there))))); exact Takes.nil) ?_
    rintro ⟨⟩ -
    try simp only [List.cons_append, List.nil_append]
    refine ag_nil ?_
    refine s_eq 29 rfl (v' := .bool true) (by simp) ?_
    refine q_not rfl rfl rfl rfl ?_
    refine s_eq 30 rfl (v' := .bool false) rfl ?_
    refine q_pick_f rfl rfl rfl rfl rfl ?_
    refine q_move rfl rfl rfl rfl ?_
    refine q_move rfl rfl rfl rfl ?_
    refine q_move rfl rfl rfl rfl ?_
    refine q_len rfl rfl rfl rfl Try.underlying49 ?_
    refine q_idxO (sz := 1) (k := n) (enc := encT) (xs := ((vs) ++ ([((-71), (-72))]))) rfl rfl rfl rfl rfl Try.underlying49 Try.sizeOf28 h71 (by first | rfl | omega) (by omega) (by with_reducible (repeat (first | exact Take.here | apply Take.there))) ?_
    intro ib36 io36 ha36 hl36 hc36
    refine q_loadN_O (j := 0) (k' := n) (us := [_, _]) (enc := encT) (off := io36) rfl rfl rfl rfl Try.isAgg28 Try.sizeOf28 ha36 encT_len h71 (by with_reducible (repeat (first | exact Take.here | apply Take.there))) (by first | rfl | exact (Nat.add_zero _).symm | omega) (by rfl) rfl ?_
    refine q_loadN_c rfl rfl rfl rfl Try.isAgg28 Try.sizeOf28 (by with_reducible (repeat (first | exact Take.here | apply Take.there))) 0 (us := [_, _]) (by first | rfl | exact (Nat.add_zero _).symm) rfl rfl ?_
    refine q_neS rfl rfl rfl rfl rfl (by kernel_rfl) (eqc_struct Try.underlying28 (by kernel_rfl) (eqf_cons rfl Try.isAgg3 rfl rfl (eqc_int Try.underlying3) (eqf_last rfl Try.isAgg3 rfl rfl (eqc_int Try.underlying3)))) ?_
    refine s_eq 39 rfl (v' := .bool (decide (((-71), (-72)) ≠ ((-71), (-72))))) (by first | (congr 1; done) | (congr 1; rw [Bool.eq_iff_iff]; simp [Prod.ext_iff, and_assoc])) ?_
    refine s_eq 39 rfl (v' := .bool false) (by simp) ?_
    refine q_pick_f rfl rfl rfl rfl rfl ?_
    refine r_done ?_
    refine s_keep [1, 2, 7, 8, 40] (e' := [(1, _), (2, _), (7, _), (8, _), (40, _)]) rfl ?_
    refine k_then_n ?_
    refine c_cond_f rfl ?_
    refine c_skip ?_
    refine k_then_n ?_
    refine c_seq ?_
    refine c_seq ?_
    refine c_plain (.q 0 (.done)) (by kernel_rfl) ?_
    refine q_assign rfl rfl rfl rfl ?_
    refine r_done ?_
    refine k_then_n ?_
    refine c_block ?_
    refine c_loop2 (α := Nat × List Th) (fun (x_ : Nat × List Th) => match x_ with | (i, f) => i ≤ n ∧ (f.length = n + 1)) (fun (x_ : Nat × List Th) => match x_ with | (i, f) => [(9, .int .i64 ((i : Nat) : Int))]) (fun (x_ : Nat × List Th) => match x_ with | (i, f) => [rh q (fs Lz ++ vs.take i), own 2 encT ao15 cp15 f]) (fun (x_ : Nat × List Th) => match x_ with | (i, f) => n - i) [1, 2, 7, 8] (er := [(1, _), (2, _), (7, _), (8, _)]) rfl (0, (vs ++ [((-71), (-72))])) ?_ (by exact ⟨rfl, trivial⟩) (by (try dsimp only); rw [List.take_zero, List.append_nil]; (repeat ((with_reducible apply Takes.cons); focus (first | (with_reducible (repeat (first | exact Take.here | apply Take.there)); done) | (repeat (first | exact Take.here | apply Take.there))))); exact Takes.nil) ?_
    · exact ⟨Nat.zero_le _, by rw [List.length_append, hn]; rfl⟩
    rintro ⟨i, f⟩ ⟨hle_i, hfl⟩
    try simp only [List.cons_append, List.nil_append]
    have hfsl : (fs Lz ++ vs.take i).length ≤ 900000000000 := by rw [List.length_append, fs_len, List.length_take]; omega
    refine c_seq ?_
    refine c_seq ?_
    refine c_plain (.q 0 (.q 1 (.q 2 (.q 3 (.done))))) (by kernel_rfl) ?_
    refine q_move rfl rfl rfl rfl ?_
    refine q_move rfl rfl rfl rfl ?_
    refine q_len rfl rfl rfl rfl Try.underlying49 ?_
    refine q_int rfl rfl rfl rfl rfl (b_lss _ _ _ _) ?_
    refine r_done ?_
    refine k_then_n ?_
    refine c_cond_p rfl (fun hlt => ?_) (fun hlt => ?_)
    · skip
      refine c_skip ?_
      refine k_then_n ?_
      refine c_seq ?_
      refine c_block ?_
      refine c_seq ?_
      obtain ⟨x, hx⟩ := get_lt (l := vs) (i := i) (by omega)
      refine c_plain (.q 0 (.q 1 (.q 2 (.q 3 (.q 4 ((.l 5 [] (.done)))))))) (by kernel_rfl) ?_
      refine q_move rfl rfl rfl rfl ?_
      refine q_move rfl rfl rfl rfl ?_
      refine q_move rfl rfl rfl rfl ?_
      refine q_idxR (sz := 1) (k := i) rfl rfl rfl rfl rfl Try.underlying49 Try.sizeOf28 (hr) hx encT_len (by first | rfl | omega) (by omega) ?_
      intro ib50 io50 _ hd50
      refine q_loadN (vs := [_, _]) rfl rfl rfl rfl Try.isAgg28 Try.sizeOf28 (by with_reducible (repeat (first | exact Take.here | apply Take.there))) (hd50) rfl ?_
      have sp_5 := rpush_spec q (fs Lz ++ vs.take i) x.1 x.2 (by omega)
      refine l_call rfl rfl rfl rfl rfl rfl Try.call49 (sp_5) (by (repeat ((with_reducible apply Takes.cons); focus (first | (with_reducible (repeat (first | exact Take.here | apply Take.there)); done) | (repeat (first | exact Take.here | apply Take.there))))); exact Takes.nil) ?_
      rintro ⟨⟩ -
      try simp only [List.cons_append, List.nil_append]
      refine ag_nil ?_
      refine r_done ?_
      refine s_keep [1, 2, 7, 8, 9] (e' := [(1, _), (2, _), (7, _), (8, _), (9, _)]) rfl ?_
      refine k_then_n ?_
      refine c_plain (.q 0 (.q 1 (.q 2 (.q 3 ((.l 4 [] (.done))))))) (by kernel_rfl) ?_
      refine q_move rfl rfl rfl rfl ?_
      refine q_move rfl rfl rfl rfl ?_
      refine q_loadN_c rfl rfl rfl rfl Try.isAgg28 Try.sizeOf28 (by with_reducible (repeat (first | exact Take.here | apply Take.there))) 0 (us := [_, _]) (by first | rfl | exact (Nat.add_zero _).symm) rfl rfl ?_
      obtain ⟨e_6, he_6⟩ := get_lt (l := f) (i := i) (by first | omega | (simp; done) | (simp; omega))
      refine q_idxO (sz := 1) (k := i) (enc := encT) (xs := f) rfl rfl rfl rfl rfl Try.underlying49 Try.sizeOf28 he_6 (by first | rfl | omega) (by omega) (by with_reducible (repeat (first | exact Take.here | apply Take.there))) ?_
      intro ib56 io56 ha56 hl56 hc56
      refine l_store_O (j := 0) (k := i) (q := ((-71), (-72))) (enc := encT) (off := io56) rfl rfl rfl rfl Try.sizeOf28 (us := [_, _]) rfl rfl rfl ha56 encT_len he_6 (by with_reducible (repeat (first | exact Take.here | apply Take.there))) (by first | rfl | exact (Nat.add_zero _).symm | omega) (by first | decide | exact Nat.le_of_ble_eq_true rfl) (by rfl) ?_
      refine ag_nil ?_
      refine r_done ?_
      refine s_keep [1, 2, 7, 8, 9] (e' := [(1, _), (2, _), (7, _), (8, _), (9, _)]) rfl ?_
      refine k_blk_n ?_
      refine k_then_n ?_
      refine c_plain (.q 0 (.q 1 (.q 2 (.done)))) (by kernel_rfl) ?_
      refine q_move rfl rfl rfl rfl ?_
      refine q_int rfl rfl rfl rfl rfl (b_add' _ (by (first | exact fits_i64 (by omega) (by omega) | exact fits_u64 (by omega) (by omega) | exact fits_u32 (by omega) (by omega) | exact fits_u8 (by omega) (by omega)))) ?_
      refine q_assign rfl rfl rfl rfl ?_
      refine r_done ?_
      refine k_then_n ?_
      rw [app_assoc, ← take_nx hx]
      refine loop_next (x := (i, f)) ((i + 1, f.set i ((-71), (-72)))) ?_ ?_ ?_ ?_
      · try dsimp only
        exact ⟨by omega, by rw [List.length_set]; exact hfl⟩
      · show n - (i + 1) < n - i; omega
      · exact ⟨rfl, rfl, rfl, rfl, rfl, trivial⟩
      · (try simp only [List.cons_append, List.nil_append]); (repeat ((with_reducible apply Takes.cons); focus (first | (with_reducible (repeat (first | exact Take.here | apply Take.there)); done) | (repeat (first | exact Take.here | apply Take.there))))); (repeat (first | exact Takes.nil | exact Takes.self | refine takes_drop2 ?_))
    · skip
      refine c_exit ?_
      refine k_then_exit ?_
      refine k_then_exit ?_
      refine k_blk_here ?_
      refine k_then_n ?_
      refine c_seq ?_
      refine c_plain (.q 0 (.done)) (by kernel_rfl) ?_
      refine q_assign rfl rfl rfl rfl ?_
      refine r_done ?_
      refine s_keep [6] (e' := [(6, _)]) rfl ?_
      refine k_then_n ?_
      refine c_ret ?_
      obtain rfl : i = n := by omega
      rw [List.take_of_length_le (by omega)]
      refine ret1 rfl rfl (()) (by first | rfl | (first | rfl | (congr 1; done) | (congr 1 <;> first | rfl | omega | (simp; done) | (simp; omega)))) (by trivial) ?_
      (repeat ((with_reducible apply Takes.cons); focus (first | (with_reducible (repeat (first | exact Take.here | apply Take.there)); done) | (repeat (first | exact Take.here | apply Take.there))))); (repeat (first | exact Takes.nil | exact Takes.self | refine takes_drop2 ?_))
  refine l_buildSlice rfl rfl rfl rfl (run_build1 (us := [_, _]) Try.underlying49 Try.sizeOf28 rfl Try.zeroValue28 rfl rfl rfl) ?_
  intro b14
  refine ag_nil ?_
  refine s_heap (fun _ h => own_nil (sz := 2) (enc := encT) h) ?_
  refine l_append (sz := 2) (enc := encT) (xs := []) rfl rfl rfl rfl rfl Try.underlying49 Try.typeInfo28 rfl rfl rfl (by decide) (by with_reducible (repeat (first | exact Take.here | apply Take.there))) (by with_reducible (repeat (first | exact Take.here | apply Take.there))) (by first | rfl | omega | (simp; done) | (simp; omega)) (ys := vs) (hr) (by rfl) (by first | rfl | omega) (encT_len) (encT_one) (by omega) (by show _ * 16 ≤ _; omega) ?_
  intro ao12 cp12
  try simp only [List.nil_append]
  refine ag_nil ?_
  refine l_append (sz := 2) (enc := encT) (xs := (vs)) rfl rfl rfl rfl rfl Try.underlying49 Try.typeInfo28 rfl rfl rfl (by decide) (by with_reducible (repeat (first | exact Take.here | apply Take.there))) (by with_reducible (repeat (first | exact Take.here | apply Take.there))) (by first | rfl | omega | (simp; done) | (simp; omega)) (ys := [((-71), (-72))]) (rds_some rdn_cells) (by rfl) (by first | rfl | omega) (encT_len) (encT_one) (by omega) (by show _ * 16 ≤ _; omega) ?_
  intro ao15 cp15
  refine ag_nil ?_
  refine q_assign rfl rfl rfl rfl ?_
  refine r_done ?_
  refine s_keep [0, 1, 2, 7, 8] (e' := [(0, _), (1, _), (2, _), (7, _), (8, _)]) rfl ?_
  refine k_then_n ?_
  refine c_seq ?_
  refine c_seq ?_
  refine s_take (A := own 2 encT ao15 cp15 (vs ++ [((-71), (-72))])) (by with_reducible (repeat (first | exact Take.here | apply Take.there))) ?_
  refine own_fc fun f1 f2 f3 => ?_
  simp only [List.length_append, List.length_singleton] at f1
  have h71 : (vs ++ [((-71), (-72))])[n]? = some ((-71), (-72)) := by rw [← hn]; exact app_at _ _
  refine c_draw rfl (.q 0 (.q 1 (.q 2 (.q 3 (.q 4 ((.l 5 [] (.q 6 (.q 7 (.q 8 (.q 9 (.q 10 (.q 11 (.q 12 ((.l 13 [] (.q 14 (.q 15 (.q 16 (.q 17 (.q 18 (.q 19 (.q 20 (.q 21 (.q 22 (.q 23 (.q 24 (.done)))))))))))))))))))))))))))) (by kernel_rfl) ?_
  refine q_move rfl rfl rfl rfl ?_
  refine q_move rfl rfl rfl rfl ?_
  refine q_move rfl rfl rfl rfl ?_
  refine q_len rfl rfl rfl rfl Try.underlying49 ?_
  refine q_cut_hi (h' := n) rfl rfl rfl rfl rfl Try.underlying49 Try.sizeOf28 (by first | rfl | omega) (by omega) ?_
  refine s_take (A := own 2 encT ao15 cp15 ((vs) ++ ([((-71), (-72))]))) (by with_reducible (repeat (first | exact Take.here | apply Take.there))) ?_
  refine own_fc fun f_7a f_7b f_7c => ?_
  have sp_8 := zpush_spec b Lz m vs ao15 n cp15 (own 2 encT ao15 cp15 (vs ++ [((-71), (-72))])) (own_front encT_len f2 f3) hn (by omega) (by omega)
  refine l_call rfl rfl rfl rfl rfl rfl Try.call11 (sp_8) (by (repeat ((with_reducible apply Takes.cons); focus (first | (with_reducible (repeat (first | exact Take.here | apply Take.there)); done) | (repeat (first | exact Take.here | apply Take.there))))); exact Takes.nil) ?_
  rintro ⟨⟩ -
  try simp only [List.cons_append, List.nil_append]
  refine ag_nil ?_
  refine q_int rfl rfl rfl rfl rfl (b_neq _ _ _ _) ?_
  refine s_eq 22 rfl (v' := .bool false) (by first | rfl | simp) ?_
  refine q_move rfl rfl rfl rfl ?_
  refine q_move rfl rfl rfl rfl ?_
  refine q_move rfl rfl rfl rfl ?_
  refine q_len rfl rfl rfl rfl Try.underlying49 ?_
  refine q_cut_hi (h' := n) rfl rfl rfl rfl rfl Try.underlying49 Try.sizeOf28 (by first | rfl | omega) (by omega) ?_
  refine s_take (A := own 2 encT ao15 cp15 ((vs) ++ ([((-71), (-72))]))) (by with_reducible (repeat (first | exact Take.here | apply Take.there))) ?_
  refine own_fc fun f_9a f_9b f_9c => ?_
  refine q_move rfl rfl rfl rfl ?_
  have sp_10 := same_spec vs vs ao15 lo n n cp15 lc (own 2 encT ao15 cp15 (vs ++ [((-71), (-72))])) A hn (own_front encT_len f2 f3) hn hr (by omega)
  refine l_call rfl rfl rfl rfl rfl rfl Try.call30 (sp_10) (by (repeat ((with_reducible apply Takes.cons); focus (first | (with_reducible (repeat (first | exact Take.here | apply Take.there)); done) | (repeat (first | exact Take.here | apply Take.there))))); exact Takes.nil) ?_
  rintro ⟨⟩ -
  try simp only [List.cons_append, List.nil_append]
  refine ag_nil ?_
  refine s_eq 29 rfl (v' := .bool true) (by simp) ?_
  refine q_not rfl rfl rfl rfl ?_
  refine s_eq 30 rfl (v' := .bool false) rfl ?_
  refine q_pick_f rfl rfl rfl rfl rfl ?_
  refine q_move rfl rfl rfl rfl ?_
  refine q_move rfl rfl rfl rfl ?_
  refine q_move rfl rfl rfl rfl ?_
  refine q_len rfl rfl rfl rfl Try.underlying49 ?_
  refine q_idxO (sz := 1) (k := n) (enc := encT) (xs := ((vs) ++ ([((-71), (-72))]))) rfl rfl rfl rfl rfl Try.underlying49 Try.sizeOf28 h71 (by first | rfl | omega) (by omega) (by with_reducible (repeat (first | exact Take.here | apply Take.there))) ?_
  intro ib36 io36 ha36 hl36 hc36
  refine q_loadN_O (j := 0) (k' := n) (us := [_, _]) (enc := encT) (off := io36) rfl rfl rfl rfl Try.isAgg28 Try.sizeOf28 ha36 encT_len h71 (by with_reducible (repeat (first | exact Take.here | apply Take.there))) (by first | rfl | exact (Nat.add_zero _).symm | omega) (by rfl) rfl ?_
  refine q_loadN_c rfl rfl rfl rfl Try.isAgg28 Try.sizeOf28 (by with_reducible (repeat (first | exact Take.here | apply Take.there))) 0 (us := [_, _]) (by first | rfl | exact (Nat.add_zero _).symm) rfl rfl ?_
  refine q_neS rfl rfl rfl rfl rfl (by kernel_rfl) (eqc_struct Try.underlying28 (by kernel_rfl) (eqf_cons rfl Try.isAgg3 rfl rfl (eqc_int Try.underlying3) (eqf_last rfl Try.isAgg3 rfl rfl (eqc_int Try.underlying3)))) ?_
  refine s_eq 39 rfl (v' := .bool (decide (((-71), (-72)) ≠ ((-71), (-72))))) (by first | (congr 1; done) | (congr 1; rw [Bool.eq_iff_iff]; simp [Prod.ext_iff, and_assoc])) ?_
  refine s_eq 39 rfl (v' := .bool false) (by simp) ?_
  refine q_pick_f rfl rfl rfl rfl rfl ?_
  refine r_done ?_
  refine s_keep [1, 2, 7, 8, 40] (e' := [(1, _), (2, _), (7, _), (8, _), (40, _)]) rfl ?_
  refine k_then_n ?_
  refine c_cond_f rfl ?_
  refine c_skip ?_
  refine k_then_n ?_
  refine c_seq ?_
  refine c_seq ?_
  refine c_plain (.q 0 (.done)) (by kernel_rfl) ?_
  refine q_assign rfl rfl rfl rfl ?_
  refine r_done ?_
  refine k_then_n ?_
  refine c_block ?_
  refine c_loop2 (α := Nat × List Th) (fun (x_ : Nat × List Th) => match x_ with | (i, f) => i ≤ n ∧ (f.length = n + 1)) (fun (x_ : Nat × List Th) => match x_ with | (i, f) => [(9, .int .i64 ((i : Nat) : Int))]) (fun (x_ : Nat × List Th) => match x_ with | (i, f) => [rh q (fs Lz ++ vs.take i), own 2 encT ao15 cp15 f]) (fun (x_ : Nat × List Th) => match x_ with | (i, f) => n - i) [1, 2, 7, 8] (er := [(1, _), (2, _), (7, _), (8, _)]) rfl (0, (vs ++ [((-71), (-72))])) ?_ (by exact ⟨rfl, trivial⟩) (by (try dsimp only); rw [List.take_zero, List.append_nil]; (repeat ((with_reducible apply Takes.cons); focus (first | (with_reducible (repeat (first | exact Take.here | apply Take.there)); done) | (repeat (first | exact Take.here | apply Take.there))))); exact Takes.nil) ?_
  · exact ⟨Nat.zero_le _, by rw [List.length_append, hn]; rfl⟩
  rintro ⟨i, f⟩ ⟨hle_i, hfl⟩
  try simp only [List.cons_append, List.nil_append]
  have hfsl : (fs Lz ++ vs.take i).length ≤ 900000000000 := by rw [List.length_append, fs_len, List.length_take]; omega
  refine c_seq ?_
  refine c_seq ?_
  refine c_plain (.q 0 (.q 1 (.q 2 (.q 3 (.done))))) (by kernel_rfl) ?_
  refine q_move rfl rfl rfl rfl ?_
  refine q_move rfl rfl rfl rfl ?_
  refine q_len rfl rfl rfl rfl Try.underlying49 ?_
  refine q_int rfl rfl rfl rfl rfl (b_lss _ _ _ _) ?_
  refine r_done ?_
  refine k_then_n ?_
  refine c_cond_p rfl (fun hlt => ?_) (fun hlt => ?_)
  · skip
    refine c_skip ?_
    refine k_then_n ?_
    refine c_seq ?_
    refine c_block ?_
    refine c_seq ?_
    obtain ⟨x, hx⟩ := get_lt (l := vs) (i := i) (by omega)
    refine c_plain (.q 0 (.q 1 (.q 2 (.q 3 (.q 4 ((.l 5 [] (.done)))))))) (by kernel_rfl) ?_
    refine q_move rfl rfl rfl rfl ?_
    refine q_move rfl rfl rfl rfl ?_
    refine q_move rfl rfl rfl rfl ?_
    refine q_idxR (sz := 1) (k := i) rfl rfl rfl rfl rfl Try.underlying49 Try.sizeOf28 (hr) hx encT_len (by first | rfl | omega) (by omega) ?_
    intro ib50 io50 _ hd50
    refine q_loadN (vs := [_, _]) rfl rfl rfl rfl Try.isAgg28 Try.sizeOf28 (by with_reducible (repeat (first | exact Take.here | apply Take.there))) (hd50) rfl ?_
    have sp_11 := rpush_spec q (fs Lz ++ vs.take i) x.1 x.2 (by omega)
    refine l_call rfl rfl rfl rfl rfl rfl Try.call49 (sp_11) (by (repeat ((with_reducible apply Takes.cons); focus (first | (with_reducible (repeat (first | exact Take.here | apply Take.there)); done) | (repeat (first | exact Take.here | apply Take.there))))); exact Takes.nil) ?_
    rintro ⟨⟩ -
    try simp only [List.cons_append, List.nil_append]
    refine ag_nil ?_
    refine r_done ?_
    refine s_keep [1, 2, 7, 8, 9] (e' := [(1, _), (2, _), (7, _), (8, _), (9, _)]) rfl ?_
    refine k_then_n ?_
    refine c_plain (.q 0 (.q 1 (.q 2 (.q 3 ((.l 4 [] (.done))))))) (by kernel_rfl) ?_
    refine q_move rfl rfl rfl rfl ?_
    refine q_move rfl rfl rfl rfl ?_
    refine q_loadN_c rfl rfl rfl rfl Try.isAgg28 Try.sizeOf28 (by with_reducible (repeat (first | exact Take.here | apply Take.there))) 0 (us := [_, _]) (by first | rfl | exact (Nat.add_zero _).symm) rfl rfl ?_
    obtain ⟨e_12, he_12⟩ := get_lt (l := f) (i := i) (by first | omega | (simp; done) | (simp; omega))
    refine q_idxO (sz := 1) (k := i) (enc := encT) (xs := f) rfl rfl rfl rfl rfl Try.underlying49 Try.sizeOf28 he_12 (by first | rfl | omega) (by omega) (by with_reducible (repeat (first | exact Take.here | apply Take.there))) ?_
    intro ib56 io56 ha56 hl56 hc56
    refine l_store_O (j := 0) (k := i) (q := ((-71), (-72))) (enc := encT) (off := io56) rfl rfl rfl rfl Try.sizeOf28 (us := [_, _]) rfl rfl rfl ha56 encT_len he_12 (by with_reducible (repeat (first | exact Take.here | apply Take.there))) (by first | rfl | exact (Nat.add_zero _).symm | omega) (by first | decide | exact Nat.le_of_ble_eq_true rfl) (by rfl) ?_
    refine ag_nil ?_
    refine r_done ?_
    refine s_keep [1, 2, 7, 8, 9] (e' := [(1, _), (2, _), (7, _), (8, _), (9, _)]) rfl ?_
    refine k_blk_n ?_
    refine k_then_n ?_
    refine c_plain (.q 0 (.q 1 (.q 2 (.done)))) (by kernel_rfl) ?_
    refine q_move rfl rfl rfl rfl ?_
    refine q_int rfl rfl rfl rfl rfl (b_add' _ (by (first | exact fits_i64 (by omega) (by omega) | exact fits_u64 (by omega) (by omega) | exact fits_u32 (by omega) (by omega) | exact fits_u8 (by omega) (by omega)))) ?_
    refine q_assign rfl rfl rfl rfl ?_
    refine r_done ?_
    refine k_then_n ?_
    rw [app_assoc, ← take_nx hx]
    refine loop_next (x := (i, f)) ((i + 1, f.set i ((-71), (-72)))) ?_ ?_ ?_ ?_
    · try dsimp only
      exact ⟨by omega, by rw [List.length_set]; exact hfl⟩
    · show n - (i + 1) < n - i; omega
    · exact ⟨rfl, rfl, rfl, rfl, rfl, trivial⟩
    · (try simp only [List.cons_append, List.nil_append]); (repeat ((with_reducible apply Takes.cons); focus (first | (with_reducible (repeat (first | exact Take.here | apply Take.there)); done) | (repeat (first | exact Take.here | apply Take.there))))); (repeat (first | exact Takes.nil | exact Takes.self | refine takes_drop2 ?_))
  · skip
    refine c_exit ?_
    refine k_then_exit ?_
    refine k_then_exit ?_
    refine k_blk_here ?_
    refine k_then_n ?_
    refine c_seq ?_
    refine c_plain (.q 0 (.done)) (by kernel_rfl) ?_
    refine q_assign rfl rfl rfl rfl ?_
    refine r_done ?_
    refine s_keep [6] (e' := [(6, _)]) rfl ?_
    refine k_then_n ?_
    refine c_ret ?_
    obtain rfl : i = n := by omega
    rw [List.take_of_length_le (by omega)]
    refine ret1 rfl rfl (()) (by first | rfl | (first | rfl | (congr 1; done) | (congr 1 <;> first | rfl | omega | (simp; done) | (simp; omega)))) (by trivial) ?_
    (repeat ((with_reducible apply Takes.cons); focus (first | (with_reducible (repeat (first | exact Take.here | apply Take.there)); done) | (repeat (first | exact Take.here | apply Take.there))))); (repeat (first | exact Takes.nil | exact Takes.self | refine takes_drop2 ?_))

theorem goes_spec (b q : Nat) (Lz : List (Th × Nat)) (m : Nat) (hLl : Lz.length ≤ 400000000000) (hz : Rz Lz) (hLb : Lz.length ≤ 4000000) (hml : m ≤ 400000000000) (lv : Int) : Spec Try.prog 43 [.pointer (some ⟨b, 0, none⟩), .pointer (some ⟨q, 0, none⟩), .int .i64 lv] [hpz b Lz m m, rh q (fs Lz)] (fun (_ : Unit) => .bool true) (fun _ => True) (fun _ => [hpz b Lz m m, rh q (fs Lz)]) := by
  refine spec_mkM (n := 80) Try.func43 rfl rfl rfl ?_
  intro Γ w0
  simp only [argE, List.cons_append, List.nil_append, Nat.zero_add, Nat.reduceAdd]
  have hfl0 := fs_len Lz
  have hsl := sl_len _ (fs Lz) rfl
  rw [fs_len] at hsl
  refine c_seq ?_
  refine c_plain ((.l 0 [] ((.l 1 [] (.done))))) (by kernel_rfl) ?_
  refine l_box rfl rfl rfl rfl (us := [_]) rfl ?_
  intro b5
  refine ag_nil ?_
  refine l_alloc rfl rfl rfl Try.zeroValue4 (zs := [.bool false]) rfl ?_
  intro b6
  refine ag_nil ?_
  refine r_done ?_
  refine k_then_n ?_
  refine c_seq ?_
  refine s_take (A := rh q (fs Lz)) (by with_reducible (repeat (first | exact Take.here | apply Take.there))) ?_
  refine rh_open fun ra rc => ?_
  refine s_take (A := own 2 encT ra rc (fs Lz)) (by with_reducible (repeat (first | exact Take.here | apply Take.there))) ?_
  refine own_fc fun ro1 ro2 ro3 => ?_
  refine c_plain (.q 0 (.q 1 (.q 2 (.q 3 ((.l 4 [] ((.l 5 [] ((.l 6 [] (.done))))))))))) (by kernel_rfl) ?_
  refine q_move rfl rfl rfl rfl ?_
  refine q_nil_p rfl rfl rfl rfl ?_
  refine q_field (k := 0) rfl rfl rfl rfl Try.underlying51 rfl Try.sizeOf49 rfl ?_
  refine q_load_c (j := 0) rfl rfl rfl rfl Try.isAgg49 (by with_reducible (repeat (first | exact Take.here | apply Take.there))) (by first | rfl | exact (Nat.add_zero _).symm) (by rfl) ?_
  have sp_1 := rsort_spec (fs Lz) ra (fs Lz).length rc (own 2 encT ra rc (fs Lz)) rfl (rds_own encT_len (fun h => (ro2 h).1) ro3) (by omega)
  refine l_call rfl rfl rfl rfl rfl rfl Try.call26 (sp_1) (by (repeat ((with_reducible apply Takes.cons); focus (first | (with_reducible (repeat (first | exact Take.here | apply Take.there)); done) | (repeat (first | exact Take.here | apply Take.there))))); exact Takes.nil) ?_
  rintro ⟨wa, wc, ws⟩ hws
  simp only at hws
  have hwm := srt_zip hws
  have hwl : ws.length = Lz.length := by rw [hws.1.length_eq, List.length_zipIdx, fs_len]
  try simp only [List.cons_append, List.nil_append]
  refine ag_nil ?_
  refine l_alloc rfl rfl rfl Try.zeroValue49 (zs := [.slice none 0 0]) rfl ?_
  intro b7
  refine ag_nil ?_
  refine l_store (j := 0) rfl rfl rfl rfl Try.sizeOf49 (us := [_]) rfl rfl rfl (by with_reducible (repeat (first | exact Take.here | apply Take.there))) (by first | rfl | exact (Nat.add_zero _).symm) (by first | decide | (simp; done) | omega) ?_
  simp only [setL, List.set]
  refine ag_nil ?_
  refine r_done ?_
  rw [hwm, hwl]
  refine rh_fold (q := q) (fs Lz) (ao := ra) (cap := rc) (by (repeat ((with_reducible apply Takes.cons); focus (first | (with_reducible (repeat (first | exact Take.here | apply Take.there)); done) | (repeat (first | exact Take.here | apply Take.there))))); exact Takes.nil) (by rfl) ?_
  refine s_keep [0, 5, 6, 7] (e' := [(0, _), (5, _), (6, _), (7, _)]) rfl ?_
  refine k_then_n ?_
  refine c_seq ?_
  refine c_plain (.q 0 ((.l 1 [] (.q 2 (.done))))) (by kernel_rfl) ?_
  refine q_move rfl rfl rfl rfl ?_
  have sp_2 := all_spec b
  refine l_call rfl rfl rfl rfl rfl rfl Try.call48 (sp_2) (by (repeat ((with_reducible apply Takes.cons); focus (first | (with_reducible (repeat (first | exact Take.here | apply Take.there)); done) | (repeat (first | exact Take.here | apply Take.there))))); exact Takes.nil) ?_
  rintro bx -
  try simp only [List.cons_append, List.nil_append]
  refine ag_nil ?_
  refine q_assign rfl rfl rfl rfl ?_
  refine r_done ?_
  refine k_then_n ?_
  refine c_seq ?_
  refine c_seq ?_
  refine c_plain (.q 0 (.q 1 (.done))) (by kernel_rfl) ?_
  refine q_move rfl rfl rfl rfl ?_
  refine q_eq_nilf rfl rfl rfl rfl Try.underlying84 ?_
  refine r_done ?_
  refine s_keep [5, 6, 7, 8, 20] (e' := [(5, _), (6, _), (7, _), (8, _), (20, _)]) rfl ?_
  refine k_then_n ?_
  refine c_cond_f rfl ?_
  refine c_skip ?_
  refine k_then_n ?_
  refine c_seq ?_
  refine c_plain ((.l 0 [] ((.l 1 [] (.done))))) (by kernel_rfl) ?_
  refine l_alloc rfl rfl rfl Try.zeroValue3 (zs := [.int .i64 0]) rfl ?_
  intro b9
  refine ag_nil ?_
  refine l_store (j := 0) rfl rfl rfl rfl Try.sizeOf3 (us := [_]) rfl rfl rfl (by with_reducible (repeat (first | exact Take.here | apply Take.there))) (by first | rfl | exact (Nat.add_zero _).symm) (by first | decide | (simp; done) | omega) ?_
  simp only [setL, List.set]
  refine ag_nil ?_
  refine r_done ?_
  refine k_then_n ?_
  refine c_seq ?_
  refine c_seq ?_
  refine c_plain (.q 0 (.done)) (by kernel_rfl) ?_
  refine q_move rfl rfl rfl rfl ?_
  refine r_done ?_
  refine k_then_n ?_
  refine c_block ?_
  refine s_heap (fun _ h => Bun.fold ((by (repeat ((with_reducible apply Takes.cons); focus (first | (with_reducible (repeat (first | exact Take.here | apply Take.there)); done) | (repeat (first | exact Take.here | apply Take.there))))); exact Takes.nil : Takes _ [cells b5 0 [.int .i64 lv], cells b6 0 [.bool false], cells b7 0 [.slice wa Lz.length wc], own 2 encT wa wc (sl (fs Lz)), cells b9 0 [.int .i64 0]] _) _ h)) ?_
  refine c_rangeF _ rfl Try.call51 (fun lp => all1_spec b bx m m Lz hz (by omega) (yv lp) (LoopJ lp _ _ _ _ _) (fun s => Bun [cells b5 0 [.int .i64 lv], cells b6 0 [.bool false], cells b7 0 [.slice wa Lz.length wc], own 2 encT wa wc (sl (fs Lz)), cells b9 0 [.int .i64 ((s : Nat) : Int)]]) (fun i s => s = i ∧ (lv ≤ 0 ∨ ((s : Nat) : Int) < lv)) (fun s c => c = .exit 0 ∧ ((s : Nat) : Int) = lv ∧ s ≤ (sl (fs Lz)).length ∧ 1 ≤ s) (fun i x s hx hI => callF_yield rfl (by decide) (by decide) (fun Γ w0 => ?_)) 0 (⟨rfl, by omega⟩)) (by (repeat ((with_reducible apply Takes.cons); focus (first | (with_reducible (repeat (first | exact Take.here | apply Take.there)); done) | (repeat (first | exact Take.here | apply Take.there))))); exact Takes.nil) ?_
  · skip
    try simp only [zipE, List.cons_append, List.nil_append]
    obtain ⟨rfl, hI2⟩ := hI
    have hil := (List.getElem?_eq_some_iff.1 hx).1
    refine s_take (A := Bun [cells b5 0 [.int .i64 lv], cells b6 0 [.bool false], cells b7 0 [.slice wa Lz.length wc], own 2 encT wa wc (sl (fs Lz)), cells b9 0 [.int .i64 ((s : Nat) : Int)]]) (by with_reducible (repeat (first | exact Take.here | apply Take.there))) ?_
    refine s_bun ?_
    try simp only [List.cons_append, List.nil_append]
    refine s_take (A := own 2 encT wa wc (sl (fs Lz))) (by with_reducible (repeat (first | exact Take.here | apply Take.there))) ?_
    refine own_fc fun w1 w2 w3 => ?_
    refine c_plain ((.l 0 [] ((.l 1 [] (.done))))) (by kernel_rfl) ?_
    refine l_alloc rfl rfl rfl Try.zeroValue28 (zs := [.int .i64 0, .int .i64 0]) rfl ?_
    intro b10
    refine ag_nil ?_
    refine l_store (j := 0) rfl rfl rfl rfl Try.sizeOf28 (us := [_, _]) rfl rfl rfl (by with_reducible (repeat (first | exact Take.here | apply Take.there))) (by first | rfl | exact (Nat.add_zero _).symm) (by first | decide | (simp; done) | omega) ?_
    simp only [setL, List.set]
    refine ag_nil ?_
    refine r_done ?_
    refine k_then_n ?_
    refine k_begin (by with_reducible (repeat (first | exact Take.here | apply Take.there))) ?_
    refine c_block ?_
    refine c_seq ?_
    refine c_seq ?_
    refine c_draw rfl (.q 0 (.q 1 (.q 2 (.q 3 (.q 4 (.q 5 (.q 6 (.q 7 (.q 8 (.q 9 (.q 10 (.q 11 (.done))))))))))))) (by kernel_rfl) ?_
    refine q_load_c (j := 0) rfl rfl rfl rfl Try.isAgg3 (by with_reducible (repeat (first | exact Take.here | apply Take.there))) (by first | rfl | exact (Nat.add_zero _).symm) (by rfl) ?_
    refine q_load_c (j := 0) rfl rfl rfl rfl Try.isAgg49 (by with_reducible (repeat (first | exact Take.here | apply Take.there))) (by first | rfl | exact (Nat.add_zero _).symm) (by rfl) ?_
    refine q_len rfl rfl rfl rfl Try.underlying49 ?_
    refine q_int rfl rfl rfl rfl rfl (b_geq _ _ _ _) ?_
    refine q_move rfl rfl rfl rfl ?_
    refine s_bool_p 27 rfl (fun hg => by exfalso; omega) (fun hg => ?_)
    refine q_loadN_c rfl rfl rfl rfl Try.isAgg28 Try.sizeOf28 (by with_reducible (repeat (first | exact Take.here | apply Take.there))) 0 (us := [_, _]) (by first | rfl | exact (Nat.add_zero _).symm) rfl rfl ?_
    refine q_load_c (j := 0) rfl rfl rfl rfl Try.isAgg49 (by with_reducible (repeat (first | exact Take.here | apply Take.there))) (by first | rfl | exact (Nat.add_zero _).symm) (by rfl) ?_
    refine q_load_c (j := 0) rfl rfl rfl rfl Try.isAgg3 (by with_reducible (repeat (first | exact Take.here | apply Take.there))) (by first | rfl | exact (Nat.add_zero _).symm) (by rfl) ?_
    refine q_idxO (sz := 1) (k := s) (enc := encT) (xs := (sl (fs Lz))) rfl rfl rfl rfl rfl Try.underlying49 Try.sizeOf28 hx (by first | rfl | omega) (by omega) (by with_reducible (repeat (first | exact Take.here | apply Take.there))) ?_
    intro ib31 io31 ha31 hl31 hc31
    refine q_loadN_O (j := 0) (k' := s) (us := [_, _]) (enc := encT) (off := io31) rfl rfl rfl rfl Try.isAgg28 Try.sizeOf28 ha31 encT_len hx (by with_reducible (repeat (first | exact Take.here | apply Take.there))) (by first | rfl | exact (Nat.add_zero _).symm | omega) (by rfl) rfl ?_
    refine q_neS rfl rfl rfl rfl rfl (by kernel_rfl) (eqc_struct Try.underlying28 (by kernel_rfl) (eqf_cons rfl Try.isAgg3 rfl rfl (eqc_int Try.underlying3) (eqf_last rfl Try.isAgg3 rfl rfl (eqc_int Try.underlying3)))) ?_
    refine s_eq 33 rfl (v' := .bool (decide ((x.1, x.2) ≠ x))) (by first | (congr 1; done) | (congr 1; rw [Bool.eq_iff_iff]; simp [Prod.ext_iff, and_assoc])) ?_
    refine s_eq 33 rfl (v' := .bool false) (by simp) ?_
    refine q_pick_f rfl rfl rfl rfl rfl ?_
    refine r_done ?_
    refine s_keep [5, 6, 9, 34] (e' := [(5, _), (6, _), (9, _), (34, _)]) rfl ?_
    refine k_then_n ?_
    refine c_cond_f rfl ?_
    refine c_skip ?_
    refine k_then_n ?_
    refine c_seq ?_
    refine c_plain (.q 0 (.q 1 ((.l 2 [] (.done))))) (by kernel_rfl) ?_
    refine q_load_c (j := 0) rfl rfl rfl rfl Try.isAgg3 (by with_reducible (repeat (first | exact Take.here | apply Take.there))) (by first | rfl | exact (Nat.add_zero _).symm) (by rfl) ?_
    refine q_int rfl rfl rfl rfl rfl (b_add' _ (by (first | exact fits_i64 (by omega) (by omega) | exact fits_u64 (by omega) (by omega) | exact fits_u32 (by omega) (by omega) | exact fits_u8 (by omega) (by omega)))) ?_
    refine l_store (j := 0) rfl rfl rfl rfl Try.sizeOf3 (us := [_]) rfl rfl rfl (by with_reducible (repeat (first | exact Take.here | apply Take.there))) (by first | rfl | exact (Nat.add_zero _).symm) (by first | decide | (simp; done) | omega) ?_
    simp only [setL, List.set]
    refine ag_nil ?_
    refine r_done ?_
    refine s_keep [5, 9] (e' := [(5, _), (9, _)]) rfl ?_
    refine k_then_n ?_
    refine c_seq ?_
    refine c_plain (.q 0 (.q 1 (.q 2 (.done)))) (by kernel_rfl) ?_
    refine q_load_c (j := 0) rfl rfl rfl rfl Try.isAgg3 (by with_reducible (repeat (first | exact Take.here | apply Take.there))) (by first | rfl | exact (Nat.add_zero _).symm) (by rfl) ?_
    refine q_load_c (j := 0) rfl rfl rfl rfl Try.isAgg3 (by with_reducible (repeat (first | exact Take.here | apply Take.there))) (by first | rfl | exact (Nat.add_zero _).symm) (by rfl) ?_
    refine q_int rfl rfl rfl rfl rfl (b_eql _ _ _ _) ?_
    refine r_done ?_
    refine s_keep [39] (e' := [(39, _)]) rfl ?_
    refine k_then_n ?_
    refine c_cond_p rfl (fun hbr => ?_) (fun hbr => ?_)
    · skip
      refine c_exit ?_
      refine k_blk_out rfl ?_
      refine s_heap (fun _ h => Bun.fold ((by (repeat ((with_reducible apply Takes.cons); focus (first | (with_reducible (repeat (first | exact Take.here | apply Take.there)); done) | (repeat (first | exact Take.here | apply Take.there))))); exact Takes.nil : Takes _ [cells b5 0 [.int .i64 lv], cells b6 0 [.bool false], cells b7 0 [.slice wa Lz.length wc], own 2 encT wa wc (sl (fs Lz)), cells b9 0 [.int .i64 (((s + 1) : Nat) : Int)]] _) _ h)) ?_
      refine rr_exit ((s + 1, some (.exit 0))) (by rfl) (by exact ⟨fun h => (by cases h), fun c hc => (by cases hc; exact ⟨rfl, (by omega), (by omega), (by omega)⟩)⟩) (by with_reducible (repeat (first | exact Take.here | apply Take.there))) ?_
      (try simp only [List.cons_append, List.nil_append]); (repeat ((with_reducible apply Takes.cons); focus (first | (with_reducible (repeat (first | exact Take.here | apply Take.there)); done) | (repeat (first | exact Take.here | apply Take.there))))); (repeat (first | exact Takes.nil | exact Takes.self | refine takes_drop2 ?_))
    · skip
      refine c_skip ?_
      refine k_blk_n ?_
      refine s_heap (fun _ h => Bun.fold ((by (repeat ((with_reducible apply Takes.cons); focus (first | (with_reducible (repeat (first | exact Take.here | apply Take.there)); done) | (repeat (first | exact Take.here | apply Take.there))))); exact Takes.nil : Takes _ [cells b5 0 [.int .i64 lv], cells b6 0 [.bool false], cells b7 0 [.slice wa Lz.length wc], own 2 encT wa wc (sl (fs Lz)), cells b9 0 [.int .i64 (((s + 1) : Nat) : Int)]] _) _ h)) ?_
      refine rr_n ((s + 1, none)) (by rfl) (by exact ⟨fun _ => ⟨rfl, by omega⟩, fun c hc => (by cases hc)⟩) (by with_reducible (repeat (first | exact Take.here | apply Take.there))) ?_
      (try simp only [List.cons_append, List.nil_append]); (repeat ((with_reducible apply Takes.cons); focus (first | (with_reducible (repeat (first | exact Take.here | apply Take.there)); done) | (repeat (first | exact Take.here | apply Take.there))))); (repeat (first | exact Takes.nil | exact Takes.self | refine takes_drop2 ?_))
  rintro ⟨k, p⟩ (⟨h1, h2, h3⟩ | ⟨c, h1, h2, h3, h4⟩) blk_3
  try simp only [List.cons_append, List.nil_append]
  · skip
    simp only at h1 h2 h3
    subst h1
    show Le _ _
    try simp only [List.cons_append, List.nil_append]
    refine s_take (A := Bun [cells b5 0 [.int .i64 lv], cells b6 0 [.bool false], cells b7 0 [.slice wa Lz.length wc], own 2 encT wa wc (sl (fs Lz)), cells b9 0 [.int .i64 ((k : Nat) : Int)]]) (by with_reducible (repeat (first | exact Take.here | apply Take.there))) ?_
    refine s_bun ?_
    try simp only [List.cons_append, List.nil_append]
    refine k_blk_n ?_
    refine k_then_n ?_
    refine c_seq ?_
    refine c_seq ?_
    have hsl := sl_len _ (fs Lz) rfl
    rw [fs_len] at hsl
    refine c_plain (.q 0 (.q 1 (.q 2 (.q 3 (.q 4 (.q 5 (.q 6 (.q 7 (.q 8 (.q 9 (.q 10 (.q 11 (.q 12 (.q 13 (.q 14 (.q 15 (.q 16 (.q 17 (.q 18 (.q 19 (.done))))))))))))))))))))) (by kernel_rfl) ?_
    refine q_load_c (j := 0) rfl rfl rfl rfl Try.isAgg3 (by with_reducible (repeat (first | exact Take.here | apply Take.there))) (by first | rfl | exact (Nat.add_zero _).symm) (by rfl) ?_
    refine q_int rfl rfl rfl rfl rfl (b_gtr _ _ _ _) ?_
    refine q_move rfl rfl rfl rfl ?_
    refine s_bool_p 42 rfl (fun hl1 => ?_) (fun hl1 => ?_)
    · skip
      refine q_load_c (j := 0) rfl rfl rfl rfl Try.isAgg3 (by with_reducible (repeat (first | exact Take.here | apply Take.there))) (by first | rfl | exact (Nat.add_zero _).symm) (by rfl) ?_
      refine q_load_c (j := 0) rfl rfl rfl rfl Try.isAgg3 (by with_reducible (repeat (first | exact Take.here | apply Take.there))) (by first | rfl | exact (Nat.add_zero _).symm) (by rfl) ?_
      refine q_load_c (j := 0) rfl rfl rfl rfl Try.isAgg49 (by with_reducible (repeat (first | exact Take.here | apply Take.there))) (by first | rfl | exact (Nat.add_zero _).symm) (by rfl) ?_
      refine q_len rfl rfl rfl rfl Try.underlying49 ?_
      refine q_min rfl rfl rfl rfl rfl ?_
      refine q_int rfl rfl rfl rfl rfl (b_neq _ _ _ _) ?_
      refine q_pick_t rfl rfl rfl rfl rfl ?_
      refine q_move rfl rfl rfl rfl ?_
      refine s_bool_p 50 rfl (fun hg => by exfalso; omega) (fun hg => ?_)
      refine q_load_c (j := 0) rfl rfl rfl rfl Try.isAgg3 (by with_reducible (repeat (first | exact Take.here | apply Take.there))) (by first | rfl | exact (Nat.add_zero _).symm) (by rfl) ?_
      refine q_int rfl rfl rfl rfl rfl (b_leq _ _ _ _) ?_
      refine q_move rfl rfl rfl rfl ?_
      refine s_bool_p 53 rfl (fun hl2 => ?_) (fun hl2 => ?_)
      · skip
        refine q_load_c (j := 0) rfl rfl rfl rfl Try.isAgg3 (by with_reducible (repeat (first | exact Take.here | apply Take.there))) (by first | rfl | exact (Nat.add_zero _).symm) (by rfl) ?_
        refine q_load_c (j := 0) rfl rfl rfl rfl Try.isAgg49 (by with_reducible (repeat (first | exact Take.here | apply Take.there))) (by first | rfl | exact (Nat.add_zero _).symm) (by rfl) ?_
        refine q_len rfl rfl rfl rfl Try.underlying49 ?_
        refine q_int rfl rfl rfl rfl rfl (b_neq _ _ _ _) ?_
        refine q_pick_t rfl rfl rfl rfl rfl ?_
        refine q_pick_f rfl rfl rfl rfl rfl ?_
        refine r_done ?_
        refine s_keep [6, 7, 8, 9, 59] (e' := [(6, _), (7, _), (8, _), (9, _), (59, _)]) rfl ?_
        refine k_then_n ?_
        refine c_cond_p rfl (fun hg => by exfalso; omega) (fun hg => ?_)
        refine c_skip ?_
        refine k_then_n ?_
        refine c_seq ?_
        refine c_plain ((.l 0 [] (.done))) (by kernel_rfl) ?_
        refine l_store (j := 0) rfl rfl rfl rfl Try.sizeOf3 (us := [_]) rfl rfl rfl (by with_reducible (repeat (first | exact Take.here | apply Take.there))) (by first | rfl | exact (Nat.add_zero _).symm) (by first | decide | (simp; done) | omega) ?_
        simp only [setL, List.set]
        refine ag_nil ?_
        refine r_done ?_
        refine k_then_n ?_
        refine c_seq ?_
        refine c_seq ?_
        refine c_plain (.q 0 (.done)) (by kernel_rfl) ?_
        refine q_move rfl rfl rfl rfl ?_
        refine r_done ?_
        refine k_then_n ?_
        refine c_block ?_
        refine s_heap (fun _ h => Bun.fold ((by (repeat ((with_reducible apply Takes.cons); focus (first | (with_reducible (repeat (first | exact Take.here | apply Take.there)); done) | (repeat (first | exact Take.here | apply Take.there))))); exact Takes.nil : Takes _ [cells b5 0 [.int .i64 lv], cells b6 0 [.bool false], cells b7 0 [.slice wa Lz.length wc], own 2 encT wa wc (sl (fs Lz)), cells b9 0 [.int .i64 0]] _) _ h)) ?_
        refine c_rangeF _ rfl Try.call51 (fun lp => all1_spec b bx m m Lz hz (by omega) (yv lp) (LoopJ lp _ _ _ _ _) (fun s => Bun [cells b5 0 [.int .i64 lv], cells b6 0 [.bool false], cells b7 0 [.slice wa Lz.length wc], own 2 encT wa wc (sl (fs Lz)), cells b9 0 [.int .i64 ((s : Nat) : Int)]]) (fun i s => s = i ∧ True) (fun s c => False) (fun i x s hx hI => callF_yield rfl (by decide) (by decide) (fun Γ w0 => ?_)) 0 (⟨rfl, trivial⟩)) (by (repeat ((with_reducible apply Takes.cons); focus (first | (with_reducible (repeat (first | exact Take.here | apply Take.there)); done) | (repeat (first | exact Take.here | apply Take.there))))); exact Takes.nil) ?_
        · skip
          try simp only [zipE, List.cons_append, List.nil_append]
          obtain ⟨rfl, hI2⟩ := hI
          have hil := (List.getElem?_eq_some_iff.1 hx).1
          refine s_take (A := Bun [cells b5 0 [.int .i64 lv], cells b6 0 [.bool false], cells b7 0 [.slice wa Lz.length wc], own 2 encT wa wc (sl (fs Lz)), cells b9 0 [.int .i64 ((s : Nat) : Int)]]) (by with_reducible (repeat (first | exact Take.here | apply Take.there))) ?_
          refine s_bun ?_
          try simp only [List.cons_append, List.nil_append]
          refine s_take (A := own 2 encT wa wc (sl (fs Lz))) (by with_reducible (repeat (first | exact Take.here | apply Take.there))) ?_
          refine own_fc fun w1 w2 w3 => ?_
          refine c_plain ((.l 0 [] ((.l 1 [] (.done))))) (by kernel_rfl) ?_
          refine l_alloc rfl rfl rfl Try.zeroValue28 (zs := [.int .i64 0, .int .i64 0]) rfl ?_
          intro b11
          refine ag_nil ?_
          refine l_store (j := 0) rfl rfl rfl rfl Try.sizeOf28 (us := [_, _]) rfl rfl rfl (by with_reducible (repeat (first | exact Take.here | apply Take.there))) (by first | rfl | exact (Nat.add_zero _).symm) (by first | decide | (simp; done) | omega) ?_
          simp only [setL, List.set]
          refine ag_nil ?_
          refine r_done ?_
          refine k_then_n ?_
          refine k_begin (by with_reducible (repeat (first | exact Take.here | apply Take.there))) ?_
          refine c_block ?_
          refine c_seq ?_
          refine c_seq ?_
          refine c_draw rfl (.q 0 (.q 1 (.q 2 (.q 3 (.q 4 (.q 5 (.q 6 (.q 7 (.q 8 (.q 9 (.q 10 (.q 11 (.done))))))))))))) (by kernel_rfl) ?_
          refine q_load_c (j := 0) rfl rfl rfl rfl Try.isAgg3 (by with_reducible (repeat (first | exact Take.here | apply Take.there))) (by first | rfl | exact (Nat.add_zero _).symm) (by rfl) ?_
          refine q_load_c (j := 0) rfl rfl rfl rfl Try.isAgg49 (by with_reducible (repeat (first | exact Take.here | apply Take.there))) (by first | rfl | exact (Nat.add_zero _).symm) (by rfl) ?_
          refine q_len rfl rfl rfl rfl Try.underlying49 ?_
          refine q_int rfl rfl rfl rfl rfl (b_geq _ _ _ _) ?_
          refine q_move rfl rfl rfl rfl ?_
          refine s_bool_p 66 rfl (fun hg => by exfalso; omega) (fun hg => ?_)
          refine q_loadN_c rfl rfl rfl rfl Try.isAgg28 Try.sizeOf28 (by with_reducible (repeat (first | exact Take.here | apply Take.there))) 0 (us := [_, _]) (by first | rfl | exact (Nat.add_zero _).symm) rfl rfl ?_
          refine q_load_c (j := 0) rfl rfl rfl rfl Try.isAgg49 (by with_reducible (repeat (first | exact Take.here | apply Take.there))) (by first | rfl | exact (Nat.add_zero _).symm) (by rfl) ?_
          refine q_load_c (j := 0) rfl rfl rfl rfl Try.isAgg3 (by with_reducible (repeat (first | exact Take.here | apply Take.there))) (by first | rfl | exact (Nat.add_zero _).symm) (by rfl) ?_
          refine q_idxO (sz := 1) (k := s) (enc := encT) (xs := (sl (fs Lz))) rfl rfl rfl rfl rfl Try.underlying49 Try.sizeOf28 hx (by first | rfl | omega) (by omega) (by with_reducible (repeat (first | exact Take.here | apply Take.there))) ?_
          intro ib70 io70 ha70 hl70 hc70
          refine q_loadN_O (j := 0) (k' := s) (us := [_, _]) (enc := encT) (off := io70) rfl rfl rfl rfl Try.isAgg28 Try.sizeOf28 ha70 encT_len hx (by with_reducible (repeat (first | exact Take.here | apply Take.there))) (by first | rfl | exact (Nat.add_zero _).symm | omega) (by rfl) rfl ?_
          refine q_neS rfl rfl rfl rfl rfl (by kernel_rfl) (eqc_struct Try.underlying28 (by kernel_rfl) (eqf_cons rfl Try.isAgg3 rfl rfl (eqc_int Try.underlying3) (eqf_last rfl Try.isAgg3 rfl rfl (eqc_int Try.underlying3)))) ?_
          refine s_eq 72 rfl (v' := .bool (decide ((x.1, x.2) ≠ x))) (by first | (congr 1; done) | (congr 1; rw [Bool.eq_iff_iff]; simp [Prod.ext_iff, and_assoc])) ?_
          refine s_eq 72 rfl (v' := .bool false) (by simp) ?_
          refine q_pick_f rfl rfl rfl rfl rfl ?_
          refine r_done ?_
          refine s_keep [6, 9, 73] (e' := [(6, _), (9, _), (73, _)]) rfl ?_
          refine k_then_n ?_
          refine c_cond_f rfl ?_
          refine c_skip ?_
          refine k_then_n ?_
          refine c_plain (.q 0 (.q 1 ((.l 2 [] (.done))))) (by kernel_rfl) ?_
          refine q_load_c (j := 0) rfl rfl rfl rfl Try.isAgg3 (by with_reducible (repeat (first | exact Take.here | apply Take.there))) (by first | rfl | exact (Nat.add_zero _).symm) (by rfl) ?_
          refine q_int rfl rfl rfl rfl rfl (b_add' _ (by (first | exact fits_i64 (by omega) (by omega) | exact fits_u64 (by omega) (by omega) | exact fits_u32 (by omega) (by omega) | exact fits_u8 (by omega) (by omega)))) ?_
          refine l_store (j := 0) rfl rfl rfl rfl Try.sizeOf3 (us := [_]) rfl rfl rfl (by with_reducible (repeat (first | exact Take.here | apply Take.there))) (by first | rfl | exact (Nat.add_zero _).symm) (by first | decide | (simp; done) | omega) ?_
          simp only [setL, List.set]
          refine ag_nil ?_
          refine r_done ?_
          refine s_keep [] (e' := []) rfl ?_
          refine k_blk_n ?_
          refine s_heap (fun _ h => Bun.fold ((by (repeat ((with_reducible apply Takes.cons); focus (first | (with_reducible (repeat (first | exact Take.here | apply Take.there)); done) | (repeat (first | exact Take.here | apply Take.there))))); exact Takes.nil : Takes _ [cells b5 0 [.int .i64 lv], cells b6 0 [.bool false], cells b7 0 [.slice wa Lz.length wc], own 2 encT wa wc (sl (fs Lz)), cells b9 0 [.int .i64 (((s + 1) : Nat) : Int)]] _) _ h)) ?_
          refine rr_n ((s + 1, none)) (by rfl) (by exact ⟨fun _ => ⟨rfl, trivial⟩, fun c hc => (by cases hc)⟩) (by with_reducible (repeat (first | exact Take.here | apply Take.there))) ?_
          (try simp only [List.cons_append, List.nil_append]); (repeat ((with_reducible apply Takes.cons); focus (first | (with_reducible (repeat (first | exact Take.here | apply Take.there)); done) | (repeat (first | exact Take.here | apply Take.there))))); (repeat (first | exact Takes.nil | exact Takes.self | refine takes_drop2 ?_))
        rintro ⟨k2, p2⟩ (⟨g1, g2, -⟩ | ⟨c, g1, g2⟩) blk_4
        try simp only [List.cons_append, List.nil_append]
        · skip
          simp only at g1 g2
          subst g1
          show Le _ _
          try simp only [List.cons_append, List.nil_append]
          refine s_take (A := Bun [cells b5 0 [.int .i64 lv], cells b6 0 [.bool false], cells b7 0 [.slice wa Lz.length wc], own 2 encT wa wc (sl (fs Lz)), cells b9 0 [.int .i64 ((k2 : Nat) : Int)]]) (by with_reducible (repeat (first | exact Take.here | apply Take.there))) ?_
          refine s_bun ?_
          try simp only [List.cons_append, List.nil_append]
          refine k_blk_n ?_
          refine k_then_n ?_
          refine c_seq ?_
          refine c_plain (.q 0 (.q 1 (.q 2 (.q 3 ((.l 4 [] (.done))))))) (by kernel_rfl) ?_
          refine q_load_c (j := 0) rfl rfl rfl rfl Try.isAgg3 (by with_reducible (repeat (first | exact Take.here | apply Take.there))) (by first | rfl | exact (Nat.add_zero _).symm) (by rfl) ?_
          refine q_load_c (j := 0) rfl rfl rfl rfl Try.isAgg49 (by with_reducible (repeat (first | exact Take.here | apply Take.there))) (by first | rfl | exact (Nat.add_zero _).symm) (by rfl) ?_
          refine q_len rfl rfl rfl rfl Try.underlying49 ?_
          refine q_int rfl rfl rfl rfl rfl (b_eql _ _ _ _) ?_
          refine s_eq 79 rfl (v' := .bool true) (by rw [decide_eq_true (by omega)]) ?_
          refine l_store (j := 0) rfl rfl rfl rfl Try.sizeOf4 (us := [_]) rfl rfl rfl (by with_reducible (repeat (first | exact Take.here | apply Take.there))) (by first | rfl | exact (Nat.add_zero _).symm) (by first | decide | (simp; done) | omega) ?_
          simp only [setL, List.set]
          refine ag_nil ?_
          refine r_done ?_
          refine s_keep [6] (e' := [(6, _)]) rfl ?_
          refine k_then_n ?_
          refine c_ret ?_
          refine rm_ret ?_
          refine rm_mark (blk := blk_4) (by with_reducible (repeat (first | exact Take.here | apply Take.there))) ?_
          refine rm_mark (blk := blk_3) (by with_reducible (repeat (first | exact Take.here | apply Take.there))) ?_
          refine rm_done (us := [_]) rfl ⟨rv_cell1 rfl Try.isAgg4 (by with_reducible (repeat (first | exact Take.here | apply Take.there))) (j := 0) rfl rfl, trivial⟩ (()) (by first | rfl | (first | rfl | (congr 1; done) | (congr 1 <;> first | rfl | omega | (simp; done) | (simp; omega)))) (by trivial) ?_
          (repeat ((with_reducible apply Takes.cons); focus (first | (with_reducible (repeat (first | exact Take.here | apply Take.there)); done) | (repeat (first | exact Take.here | apply Take.there))))); (repeat (first | exact Takes.nil | exact Takes.self | refine takes_drop2 ?_))
        · skip
          exact g2.elim
      · skip
        refine q_skip rfl rfl rfl rfl ?_
        refine q_skip rfl rfl rfl rfl ?_
        refine q_skip rfl rfl rfl rfl ?_
        refine q_skip rfl rfl rfl rfl ?_
        refine q_pick_f rfl rfl rfl rfl rfl ?_
        refine q_pick_f rfl rfl rfl rfl rfl ?_
        refine r_done ?_
        refine s_keep [6, 7, 8, 9, 59] (e' := [(6, _), (7, _), (8, _), (9, _), (59, _)]) rfl ?_
        refine k_then_n ?_
        refine c_cond_f rfl ?_
        refine c_skip ?_
        refine k_then_n ?_
        refine c_seq ?_
        refine c_plain ((.l 0 [] (.done))) (by kernel_rfl) ?_
        refine l_store (j := 0) rfl rfl rfl rfl Try.sizeOf3 (us := [_]) rfl rfl rfl (by with_reducible (repeat (first | exact Take.here | apply Take.there))) (by first | rfl | exact (Nat.add_zero _).symm) (by first | decide | (simp; done) | omega) ?_
        simp only [setL, List.set]
        refine ag_nil ?_
        refine r_done ?_
        refine k_then_n ?_
        refine c_seq ?_
        refine c_seq ?_
        refine c_plain (.q 0 (.done)) (by kernel_rfl) ?_
        refine q_move rfl rfl rfl rfl ?_
        refine r_done ?_
        refine k_then_n ?_
        refine c_block ?_
        refine s_heap (fun _ h => Bun.fold ((by (repeat ((with_reducible apply Takes.cons); focus (first | (with_reducible (repeat (first | exact Take.here | apply Take.there)); done) | (repeat (first | exact Take.here | apply Take.there))))); exact Takes.nil : Takes _ [cells b5 0 [.int .i64 lv], cells b6 0 [.bool false], cells b7 0 [.slice wa Lz.length wc], own 2 encT wa wc (sl (fs Lz)), cells b9 0 [.int .i64 0]] _) _ h)) ?_
        refine c_rangeF _ rfl Try.call51 (fun lp => all1_spec b bx m m Lz hz (by omega) (yv lp) (LoopJ lp _ _ _ _ _) (fun s => Bun [cells b5 0 [.int .i64 lv], cells b6 0 [.bool false], cells b7 0 [.slice wa Lz.length wc], own 2 encT wa wc (sl (fs Lz)), cells b9 0 [.int .i64 ((s : Nat) : Int)]]) (fun i s => s = i ∧ True) (fun s c => False) (fun i x s hx hI => callF_yield rfl (by decide) (by decide) (fun Γ w0 => ?_)) 0 (⟨rfl, trivial⟩)) (by (repeat ((with_reducible apply Takes.cons); focus (first | (with_reducible (repeat (first | exact Take.here | apply Take.there)); done) | (repeat (first | exact Take.here | apply Take.there))))); exact Takes.nil) ?_
        · skip
          try simp only [zipE, List.cons_append, List.nil_append]
          obtain ⟨rfl, hI2⟩ := hI
          have hil := (List.getElem?_eq_some_iff.1 hx).1
          refine s_take (A := Bun [cells b5 0 [.int .i64 lv], cells b6 0 [.bool false], cells b7 0 [.slice wa Lz.length wc], own 2 encT wa wc (sl (fs Lz)), cells b9 0 [.int .i64 ((s : Nat) : Int)]]) (by with_reducible (repeat (first | exact Take.here | apply Take.there))) ?_
          refine s_bun ?_
          try simp only [List.cons_append, List.nil_append]
          refine s_take (A := own 2 encT wa wc (sl (fs Lz))) (by with_reducible (repeat (first | exact Take.here | apply Take.there))) ?_
          refine own_fc fun w1 w2 w3 => ?_
          refine c_plain ((.l 0 [] ((.l 1 [] (.done))))) (by kernel_rfl) ?_
          refine l_alloc rfl rfl rfl Try.zeroValue28 (zs := [.int .i64 0, .int .i64 0]) rfl ?_
          intro b11
          refine ag_nil ?_
          refine l_store (j := 0) rfl rfl rfl rfl Try.sizeOf28 (us := [_, _]) rfl rfl rfl (by with_reducible (repeat (first | exact Take.here | apply Take.there))) (by first | rfl | exact (Nat.add_zero _).symm) (by first | decide | (simp; done) | omega) ?_
          simp only [setL, List.set]
          refine ag_nil ?_
          refine r_done ?_
          refine k_then_n ?_
          refine k_begin (by with_reducible (repeat (first | exact Take.here | apply Take.there))) ?_
          refine c_block ?_
          refine c_seq ?_
          refine c_seq ?_
          refine c_draw rfl (.q 0 (.q 1 (.q 2 (.q 3 (.q 4 (.q 5 (.q 6 (.q 7 (.q 8 (.q 9 (.q 10 (.q 11 (.done))))))))))))) (by kernel_rfl) ?_
          refine q_load_c (j := 0) rfl rfl rfl rfl Try.isAgg3 (by with_reducible (repeat (first | exact Take.here | apply Take.there))) (by first | rfl | exact (Nat.add_zero _).symm) (by rfl) ?_
          refine q_load_c (j := 0) rfl rfl rfl rfl Try.isAgg49 (by with_reducible (repeat (first | exact Take.here | apply Take.there))) (by first | rfl | exact (Nat.add_zero _).symm) (by rfl) ?_
          refine q_len rfl rfl rfl rfl Try.underlying49 ?_
          refine q_int rfl rfl rfl rfl rfl (b_geq _ _ _ _) ?_
          refine q_move rfl rfl rfl rfl ?_
          refine s_bool_p 66 rfl (fun hg => by exfalso; omega) (fun hg => ?_)
          refine q_loadN_c rfl rfl rfl rfl Try.isAgg28 Try.sizeOf28 (by with_reducible (repeat (first | exact Take.here | apply Take.there))) 0 (us := [_, _]) (by first | rfl | exact (Nat.add_zero _).symm) rfl rfl ?_
          refine q_load_c (j := 0) rfl rfl rfl rfl Try.isAgg49 (by with_reducible (repeat (first | exact Take.here | apply Take.there))) (by first | rfl | exact (Nat.add_zero _).symm) (by rfl) ?_
          refine q_load_c (j := 0) rfl rfl rfl rfl Try.isAgg3 (by with_reducible (repeat (first | exact Take.here | apply Take.there))) (by first | rfl | exact (Nat.add_zero _).symm) (by rfl) ?_
          refine q_idxO (sz := 1) (k := s) (enc := encT) (xs := (sl (fs Lz))) rfl rfl rfl rfl rfl Try.underlying49 Try.sizeOf28 hx (by first | rfl | omega) (by omega) (by with_reducible (repeat (first | exact Take.here | apply Take.there))) ?_
          intro ib70 io70 ha70 hl70 hc70
          refine q_loadN_O (j := 0) (k' := s) (us := [_, _]) (enc := encT) (off := io70) rfl rfl rfl rfl Try.isAgg28 Try.sizeOf28 ha70 encT_len hx (by with_reducible (repeat (first | exact Take.here | apply Take.there))) (by first | rfl | exact (Nat.add_zero _).symm | omega) (by rfl) rfl ?_
          refine q_neS rfl rfl rfl rfl rfl (by kernel_rfl) (eqc_struct Try.underlying28 (by kernel_rfl) (eqf_cons rfl Try.isAgg3 rfl rfl (eqc_int Try.underlying3) (eqf_last rfl Try.isAgg3 rfl rfl (eqc_int Try.underlying3)))) ?_
          refine s_eq 72 rfl (v' := .bool (decide ((x.1, x.2) ≠ x))) (by first | (congr 1; done) | (congr 1; rw [Bool.eq_iff_iff]; simp [Prod.ext_iff, and_assoc])) ?_
          refine s_eq 72 rfl (v' := .bool false) (by simp) ?_
          refine q_pick_f rfl rfl rfl rfl rfl ?_
          refine r_done ?_
          refine s_keep [6, 9, 73] (e' := [(6, _), (9, _), (73, _)]) rfl ?_
          refine k_then_n ?_
          refine c_cond_f rfl ?_
          refine c_skip ?_
          refine k_then_n ?_
          refine c_plain (.q 0 (.q 1 ((.l 2 [] (.done))))) (by kernel_rfl) ?_
          refine q_load_c (j := 0) rfl rfl rfl rfl Try.isAgg3 (by with_reducible (repeat (first | exact Take.here | apply Take.there))) (by first | rfl | exact (Nat.add_zero _).symm) (by rfl) ?_
          refine q_int rfl rfl rfl rfl rfl (b_add' _ (by (first | exact fits_i64 (by omega) (by omega) | exact fits_u64 (by omega) (by omega) | exact fits_u32 (by omega) (by omega) | exact fits_u8 (by omega) (by omega)))) ?_
          refine l_store (j := 0) rfl rfl rfl rfl Try.sizeOf3 (us := [_]) rfl rfl rfl (by with_reducible (repeat (first | exact Take.here | apply Take.there))) (by first | rfl | exact (Nat.add_zero _).symm) (by first | decide | (simp; done) | omega) ?_
          simp only [setL, List.set]
          refine ag_nil ?_
          refine r_done ?_
          refine s_keep [] (e' := []) rfl ?_
          refine k_blk_n ?_
          refine s_heap (fun _ h => Bun.fold ((by (repeat ((with_reducible apply Takes.cons); focus (first | (with_reducible (repeat (first | exact Take.here | apply Take.there)); done) | (repeat (first | exact Take.here | apply Take.there))))); exact Takes.nil : Takes _ [cells b5 0 [.int .i64 lv], cells b6 0 [.bool false], cells b7 0 [.slice wa Lz.length wc], own 2 encT wa wc (sl (fs Lz)), cells b9 0 [.int .i64 (((s + 1) : Nat) : Int)]] _) _ h)) ?_
          refine rr_n ((s + 1, none)) (by rfl) (by exact ⟨fun _ => ⟨rfl, trivial⟩, fun c hc => (by cases hc)⟩) (by with_reducible (repeat (first | exact Take.here | apply Take.there))) ?_
          (try simp only [List.cons_append, List.nil_append]); (repeat ((with_reducible apply Takes.cons); focus (first | (with_reducible (repeat (first | exact Take.here | apply Take.there)); done) | (repeat (first | exact Take.here | apply Take.there))))); (repeat (first | exact Takes.nil | exact Takes.self | refine takes_drop2 ?_))
        rintro ⟨k2, p2⟩ (⟨g1, g2, -⟩ | ⟨c, g1, g2⟩) blk_5
        try simp only [List.cons_append, List.nil_append]
        · skip
          simp only at g1 g2
          subst g1
          show Le _ _
          try simp only [List.cons_append, List.nil_append]
          refine s_take (A := Bun [cells b5 0 [.int .i64 lv], cells b6 0 [.bool false], cells b7 0 [.slice wa Lz.length wc], own 2 encT wa wc (sl (fs Lz)), cells b9 0 [.int .i64 ((k2 : Nat) : Int)]]) (by with_reducible (repeat (first | exact Take.here | apply Take.there))) ?_
          refine s_bun ?_
          try simp only [List.cons_append, List.nil_append]
          refine k_blk_n ?_
          refine k_then_n ?_
          refine c_seq ?_
          refine c_plain (.q 0 (.q 1 (.q 2 (.q 3 ((.l 4 [] (.done))))))) (by kernel_rfl) ?_
          refine q_load_c (j := 0) rfl rfl rfl rfl Try.isAgg3 (by with_reducible (repeat (first | exact Take.here | apply Take.there))) (by first | rfl | exact (Nat.add_zero _).symm) (by rfl) ?_
          refine q_load_c (j := 0) rfl rfl rfl rfl Try.isAgg49 (by with_reducible (repeat (first | exact Take.here | apply Take.there))) (by first | rfl | exact (Nat.add_zero _).symm) (by rfl) ?_
          refine q_len rfl rfl rfl rfl Try.underlying49 ?_
          refine q_int rfl rfl rfl rfl rfl (b_eql _ _ _ _) ?_
          refine s_eq 79 rfl (v' := .bool true) (by rw [decide_eq_true (by omega)]) ?_
          refine l_store (j := 0) rfl rfl rfl rfl Try.sizeOf4 (us := [_]) rfl rfl rfl (by with_reducible (repeat (first | exact Take.here | apply Take.there))) (by first | rfl | exact (Nat.add_zero _).symm) (by first | decide | (simp; done) | omega) ?_
          simp only [setL, List.set]
          refine ag_nil ?_
          refine r_done ?_
          refine s_keep [6] (e' := [(6, _)]) rfl ?_
          refine k_then_n ?_
          refine c_ret ?_
          refine rm_ret ?_
          refine rm_mark (blk := blk_5) (by with_reducible (repeat (first | exact Take.here | apply Take.there))) ?_
          refine rm_mark (blk := blk_3) (by with_reducible (repeat (first | exact Take.here | apply Take.there))) ?_
          refine rm_done (us := [_]) rfl ⟨rv_cell1 rfl Try.isAgg4 (by with_reducible (repeat (first | exact Take.here | apply Take.there))) (j := 0) rfl rfl, trivial⟩ (()) (by first | rfl | (first | rfl | (congr 1; done) | (congr 1 <;> first | rfl | omega | (simp; done) | (simp; omega)))) (by trivial) ?_
          (repeat ((with_reducible apply Takes.cons); focus (first | (with_reducible (repeat (first | exact Take.here | apply Take.there)); done) | (repeat (first | exact Take.here | apply Take.there))))); (repeat (first | exact Takes.nil | exact Takes.self | refine takes_drop2 ?_))
        · skip
          exact g2.elim
    · skip
      refine q_skip rfl rfl rfl rfl ?_
      refine q_skip rfl rfl rfl rfl ?_
      refine q_skip rfl rfl rfl rfl ?_
      refine q_skip rfl rfl rfl rfl ?_
      refine q_skip rfl rfl rfl rfl ?_
      refine q_skip rfl rfl rfl rfl ?_
      refine q_pick_f rfl rfl rfl rfl rfl ?_
      refine q_move rfl rfl rfl rfl ?_
      refine q_load_c (j := 0) rfl rfl rfl rfl Try.isAgg3 (by with_reducible (repeat (first | exact Take.here | apply Take.there))) (by first | rfl | exact (Nat.add_zero _).symm) (by rfl) ?_
      refine q_int rfl rfl rfl rfl rfl (b_leq _ _ _ _) ?_
      refine q_move rfl rfl rfl rfl ?_
      refine s_bool_p 53 rfl (fun hl2 => ?_) (fun hl2 => ?_)
      · skip
        refine q_load_c (j := 0) rfl rfl rfl rfl Try.isAgg3 (by with_reducible (repeat (first | exact Take.here | apply Take.there))) (by first | rfl | exact (Nat.add_zero _).symm) (by rfl) ?_
        refine q_load_c (j := 0) rfl rfl rfl rfl Try.isAgg49 (by with_reducible (repeat (first | exact Take.here | apply Take.there))) (by first | rfl | exact (Nat.add_zero _).symm) (by rfl) ?_
        refine q_len rfl rfl rfl rfl Try.underlying49 ?_
        refine q_int rfl rfl rfl rfl rfl (b_neq _ _ _ _) ?_
        refine q_pick_t rfl rfl rfl rfl rfl ?_
        refine q_pick_f rfl rfl rfl rfl rfl ?_
        refine r_done ?_
        refine s_keep [6, 7, 8, 9, 59] (e' := [(6, _), (7, _), (8, _), (9, _), (59, _)]) rfl ?_
        refine k_then_n ?_
        refine c_cond_p rfl (fun hg => by exfalso; omega) (fun hg => ?_)
        refine c_skip ?_
        refine k_then_n ?_
        refine c_seq ?_
        refine c_plain ((.l 0 [] (.done))) (by kernel_rfl) ?_
        refine l_store (j := 0) rfl rfl rfl rfl Try.sizeOf3 (us := [_]) rfl rfl rfl (by with_reducible (repeat (first | exact Take.here | apply Take.there))) (by first | rfl | exact (Nat.add_zero _).symm) (by first | decide | (simp; done) | omega) ?_
        simp only [setL, List.set]
        refine ag_nil ?_
        refine r_done ?_
        refine k_then_n ?_
        refine c_seq ?_
        refine c_seq ?_
        refine c_plain (.q 0 (.done)) (by kernel_rfl) ?_
        refine q_move rfl rfl rfl rfl ?_
        refine r_done ?_
        refine k_then_n ?_
        refine c_block ?_
        refine s_heap (fun _ h => Bun.fold ((by (repeat ((with_reducible apply Takes.cons); focus (first | (with_reducible (repeat (first | exact Take.here | apply Take.there)); done) | (repeat (first | exact Take.here | apply Take.there))))); exact Takes.nil : Takes _ [cells b5 0 [.int .i64 lv], cells b6 0 [.bool false], cells b7 0 [.slice wa Lz.length wc], own 2 encT wa wc (sl (fs Lz)), cells b9 0 [.int .i64 0]] _) _ h)) ?_
        refine c_rangeF _ rfl Try.call51 (fun lp => all1_spec b bx m m Lz hz (by omega) (yv lp) (LoopJ lp _ _ _ _ _) (fun s => Bun [cells b5 0 [.int .i64 lv], cells b6 0 [.bool false], cells b7 0 [.slice wa Lz.length wc], own 2 encT wa wc (sl (fs Lz)), cells b9 0 [.int .i64 ((s : Nat) : Int)]]) (fun i s => s = i ∧ True) (fun s c => False) (fun i x s hx hI => callF_yield rfl (by decide) (by decide) (fun Γ w0 => ?_)) 0 (⟨rfl, trivial⟩)) (by (repeat ((with_reducible apply Takes.cons); focus (first | (with_reducible (repeat (first | exact Take.here | apply Take.there)); done) | (repeat (first | exact Take.here | apply Take.there))))); exact Takes.nil) ?_
        · skip
          try simp only [zipE, List.cons_append, List.nil_append]
          obtain ⟨rfl, hI2⟩ := hI
          have hil := (List.getElem?_eq_some_iff.1 hx).1
          refine s_take (A := Bun [cells b5 0 [.int .i64 lv], cells b6 0 [.bool false], cells b7 0 [.slice wa Lz.length wc], own 2 encT wa wc (sl (fs Lz)), cells b9 0 [.int .i64 ((s : Nat) : Int)]]) (by with_reducible (repeat (first | exact Take.here | apply Take.there))) ?_
          refine s_bun ?_
          try simp only [List.cons_append, List.nil_append]
          refine s_take (A := own 2 encT wa wc (sl (fs Lz))) (by with_reducible (repeat (first | exact Take.here | apply Take.there))) ?_
          refine own_fc fun w1 w2 w3 => ?_
          refine c_plain ((.l 0 [] ((.l 1 [] (.done))))) (by kernel_rfl) ?_
          refine l_alloc rfl rfl rfl Try.zeroValue28 (zs := [.int .i64 0, .int .i64 0]) rfl ?_
          intro b11
          refine ag_nil ?_
          refine l_store (j := 0) rfl rfl rfl rfl Try.sizeOf28 (us := [_, _]) rfl rfl rfl (by with_reducible (repeat (first | exact Take.here | apply Take.there))) (by first | rfl | exact (Nat.add_zero _).symm) (by first | decide | (simp; done) | omega) ?_
          simp only [setL, List.set]
          refine ag_nil ?_
          refine r_done ?_
          refine k_then_n ?_
          refine k_begin (by with_reducible (repeat (first | exact Take.here | apply Take.there))) ?_
          refine c_block ?_
          refine c_seq ?_
          refine c_seq ?_
          refine c_draw rfl (.q 0 (.q 1 (.q 2 (.q 3 (.q 4 (.q 5 (.q 6 (.q 7 (.q 8 (.q 9 (.q 10 (.q 11 (.done))))))))))))) (by kernel_rfl) ?_
          refine q_load_c (j := 0) rfl rfl rfl rfl Try.isAgg3 (by with_reducible (repeat (first | exact Take.here | apply Take.there))) (by first | rfl | exact (Nat.add_zero _).symm) (by rfl) ?_
          refine q_load_c (j := 0) rfl rfl rfl rfl Try.isAgg49 (by with_reducible (repeat (first | exact Take.here | apply Take.there))) (by first | rfl | exact (Nat.add_zero _).symm) (by rfl) ?_
          refine q_len rfl rfl rfl rfl Try.underlying49 ?_
          refine q_int rfl rfl rfl rfl rfl (b_geq _ _ _ _) ?_
          refine q_move rfl rfl rfl rfl ?_
          refine s_bool_p 66 rfl (fun hg => by exfalso; omega) (fun hg => ?_)
          refine q_loadN_c rfl rfl rfl rfl Try.isAgg28 Try.sizeOf28 (by with_reducible (repeat (first | exact Take.here | apply Take.there))) 0 (us := [_, _]) (by first | rfl | exact (Nat.add_zero _).symm) rfl rfl ?_
          refine q_load_c (j := 0) rfl rfl rfl rfl Try.isAgg49 (by with_reducible (repeat (first | exact Take.here | apply Take.there))) (by first | rfl | exact (Nat.add_zero _).symm) (by rfl) ?_
          refine q_load_c (j := 0) rfl rfl rfl rfl Try.isAgg3 (by with_reducible (repeat (first | exact Take.here | apply Take.there))) (by first | rfl | exact (Nat.add_zero _).symm) (by rfl) ?_
          refine q_idxO (sz := 1) (k := s) (enc := encT) (xs := (sl (fs Lz))) rfl rfl rfl rfl rfl Try.underlying49 Try.sizeOf28 hx (by first | rfl | omega) (by omega) (by with_reducible (repeat (first | exact Take.here | apply Take.there))) ?_
          intro ib70 io70 ha70 hl70 hc70
          refine q_loadN_O (j := 0) (k' := s) (us := [_, _]) (enc := encT) (off := io70) rfl rfl rfl rfl Try.isAgg28 Try.sizeOf28 ha70 encT_len hx (by with_reducible (repeat (first | exact Take.here | apply Take.there))) (by first | rfl | exact (Nat.add_zero _).symm | omega) (by rfl) rfl ?_
          refine q_neS rfl rfl rfl rfl rfl (by kernel_rfl) (eqc_struct Try.underlying28 (by kernel_rfl) (eqf_cons rfl Try.isAgg3 rfl rfl (eqc_int Try.underlying3) (eqf_last rfl Try.isAgg3 rfl rfl (eqc_int Try.underlying3)))) ?_
          refine s_eq 72 rfl (v' := .bool (decide ((x.1, x.2) ≠ x))) (by first | (congr 1; done) | (congr 1; rw [Bool.eq_iff_iff]; simp [Prod.ext_iff, and_assoc])) ?_
          refine s_eq 72 rfl (v' := .bool false) (by simp) ?_
          refine q_pick_f rfl rfl rfl rfl rfl ?_
          refine r_done ?_
          refine s_keep [6, 9, 73] (e' := [(6, _), (9, _), (73, _)]) rfl ?_
          refine k_then_n ?_
          refine c_cond_f rfl ?_
          refine c_skip ?_
          refine k_then_n ?_
          refine c_plain (.q 0 (.q 1 ((.l 2 [] (.done))))) (by kernel_rfl) ?_
          refine q_load_c (j := 0) rfl rfl rfl rfl Try.isAgg3 (by with_reducible (repeat (first | exact Take.here | apply Take.there))) (by first | rfl | exact (Nat.add_zero _).symm) (by rfl) ?_
          refine q_int rfl rfl rfl rfl rfl (b_add' _ (by (first | exact fits_i64 (by omega) (by omega) | exact fits_u64 (by omega) (by omega) | exact fits_u32 (by omega) (by omega) | exact fits_u8 (by omega) (by omega)))) ?_
          refine l_store (j := 0) rfl rfl rfl rfl Try.sizeOf3 (us := [_]) rfl rfl rfl (by with_reducible (repeat (first | exact Take.here | apply Take.there))) (by first | rfl | exact (Nat.add_zero _).symm) (by first | decide | (simp; done) | omega) ?_
          simp only [setL, List.set]
          refine ag_nil ?_
          refine r_done ?_
          refine s_keep [] (e' := []) rfl ?_
          refine k_blk_n ?_
          refine s_heap (fun _ h => Bun.fold ((by (repeat ((with_reducible apply Takes.cons); focus (first | (with_reducible (repeat (first | exact Take.here | apply Take.there)); done) | (repeat (first | exact Take.here | apply Take.there))))); exact Takes.nil : Takes _ [cells b5 0 [.int .i64 lv], cells b6 0 [.bool false], cells b7 0 [.slice wa Lz.length wc], own 2 encT wa wc (sl (fs Lz)), cells b9 0 [.int .i64 (((s + 1) : Nat) : Int)]] _) _ h)) ?_
          refine rr_n ((s + 1, none)) (by rfl) (by exact ⟨fun _ => ⟨rfl, trivial⟩, fun c hc => (by cases hc)⟩) (by with_reducible (repeat (first | exact Take.here | apply Take.there))) ?_
          (try simp only [List.cons_append, List.nil_append]); (repeat ((with_reducible apply Takes.cons); focus (first | (with_reducible (repeat (first | exact Take.here | apply Take.there)); done) | (repeat (first | exact Take.here | apply Take.there))))); (repeat (first | exact Takes.nil | exact Takes.self | refine takes_drop2 ?_))
        rintro ⟨k2, p2⟩ (⟨g1, g2, -⟩ | ⟨c, g1, g2⟩) blk_6
        try simp only [List.cons_append, List.nil_append]
        · skip
          simp only at g1 g2
          subst g1
          show Le _ _
          try simp only [List.cons_append, List.nil_append]
          refine s_take (A := Bun [cells b5 0 [.int .i64 lv], cells b6 0 [.bool false], cells b7 0 [.slice wa Lz.length wc], own 2 encT wa wc (sl (fs Lz)), cells b9 0 [.int .i64 ((k2 : Nat) : Int)]]) (by with_reducible (repeat (first | exact Take.here | apply Take.there))) ?_
          refine s_bun ?_
          try simp only [List.cons_append, List.nil_append]
          refine k_blk_n ?_
          refine k_then_n ?_
          refine c_seq ?_
          refine c_plain (.q 0 (.q 1 (.q 2 (.q 3 ((.l 4 [] (.done))))))) (by kernel_rfl) ?_
          refine q_load_c (j := 0) rfl rfl rfl rfl Try.isAgg3 (by with_reducible (repeat (first | exact Take.here | apply Take.there))) (by first | rfl | exact (Nat.add_zero _).symm) (by rfl) ?_
          refine q_load_c (j := 0) rfl rfl rfl rfl Try.isAgg49 (by with_reducible (repeat (first | exact Take.here | apply Take.there))) (by first | rfl | exact (Nat.add_zero _).symm) (by rfl) ?_
          refine q_len rfl rfl rfl rfl Try.underlying49 ?_
          refine q_int rfl rfl rfl rfl rfl (b_eql _ _ _ _) ?_
          refine s_eq 79 rfl (v' := .bool true) (by rw [decide_eq_true (by omega)]) ?_
          refine l_store (j := 0) rfl rfl rfl rfl Try.sizeOf4 (us := [_]) rfl rfl rfl (by with_reducible (repeat (first | exact Take.here | apply Take.there))) (by first | rfl | exact (Nat.add_zero _).symm) (by first | decide | (simp; done) | omega) ?_
          simp only [setL, List.set]
          refine ag_nil ?_
          refine r_done ?_
          refine s_keep [6] (e' := [(6, _)]) rfl ?_
          refine k_then_n ?_
          refine c_ret ?_
          refine rm_ret ?_
          refine rm_mark (blk := blk_6) (by with_reducible (repeat (first | exact Take.here | apply Take.there))) ?_
          refine rm_mark (blk := blk_3) (by with_reducible (repeat (first | exact Take.here | apply Take.there))) ?_
          refine rm_done (us := [_]) rfl ⟨rv_cell1 rfl Try.isAgg4 (by with_reducible (repeat (first | exact Take.here | apply Take.there))) (j := 0) rfl rfl, trivial⟩ (()) (by first | rfl | (first | rfl | (congr 1; done) | (congr 1 <;> first | rfl | omega | (simp; done) | (simp; omega)))) (by trivial) ?_
          (repeat ((with_reducible apply Takes.cons); focus (first | (with_reducible (repeat (first | exact Take.here | apply Take.there)); done) | (repeat (first | exact Take.here | apply Take.there))))); (repeat (first | exact Takes.nil | exact Takes.self | refine takes_drop2 ?_))
        · skip
          exact g2.elim
      · skip
        refine q_skip rfl rfl rfl rfl ?_
        refine q_skip rfl rfl rfl rfl ?_
        refine q_skip rfl rfl rfl rfl ?_
        refine q_skip rfl rfl rfl rfl ?_
        refine q_pick_f rfl rfl rfl rfl rfl ?_
        refine q_pick_f rfl rfl rfl rfl rfl ?_
        refine r_done ?_
        refine s_keep [6, 7, 8, 9, 59] (e' := [(6, _), (7, _), (8, _), (9, _), (59, _)]) rfl ?_
        refine k_then_n ?_
        refine c_cond_f rfl ?_
        refine c_skip ?_
        refine k_then_n ?_
        refine c_seq ?_
        refine c_plain ((.l 0 [] (.done))) (by kernel_rfl) ?_
        refine l_store (j := 0) rfl rfl rfl rfl Try.sizeOf3 (us := [_]) rfl rfl rfl (by with_reducible (repeat (first | exact Take.here | apply Take.there))) (by first | rfl | exact (Nat.add_zero _).symm) (by first | decide | (simp; done) | omega) ?_
        simp only [setL, List.set]
        refine ag_nil ?_
        refine r_done ?_
        refine k_then_n ?_
        refine c_seq ?_
        refine c_seq ?_
        refine c_plain (.q 0 (.done)) (by kernel_rfl) ?_
        refine q_move rfl rfl rfl rfl ?_
        refine r_done ?_
        refine k_then_n ?_
        refine c_block ?_
        refine s_heap (fun _ h => Bun.fold ((by (repeat ((with_reducible apply Takes.cons); focus (first | (with_reducible (repeat (first | exact Take.here | apply Take.there)); done) | (repeat (first | exact Take.here | apply Take.there))))); exact Takes.nil : Takes _ [cells b5 0 [.int .i64 lv], cells b6 0 [.bool false], cells b7 0 [.slice wa Lz.length wc], own 2 encT wa wc (sl (fs Lz)), cells b9 0 [.int .i64 0]] _) _ h)) ?_
        refine c_rangeF _ rfl Try.call51 (fun lp => all1_spec b bx m m Lz hz (by omega) (yv lp) (LoopJ lp _ _ _ _ _) (fun s => Bun [cells b5 0 [.int .i64 lv], cells b6 0 [.bool false], cells b7 0 [.slice wa Lz.length wc], own 2 encT wa wc (sl (fs Lz)), cells b9 0 [.int .i64 ((s : Nat) : Int)]]) (fun i s => s = i ∧ True) (fun s c => False) (fun i x s hx hI => callF_yield rfl (by decide) (by decide) (fun Γ w0 => ?_)) 0 (⟨rfl, trivial⟩)) (by (repeat ((with_reducible apply Takes.cons); focus (first | (with_reducible (repeat (first | exact Take.here | apply Take.there)); done) | (repeat (first | exact Take.here | apply Take.there))))); exact Takes.nil) ?_
        · skip
          try simp only [zipE, List.cons_append, List.nil_append]
          obtain ⟨rfl, hI2⟩ := hI
          have hil := (List.getElem?_eq_some_iff.1 hx).1
          refine s_take (A := Bun [cells b5 0 [.int .i64 lv], cells b6 0 [.bool false], cells b7 0 [.slice wa Lz.length wc], own 2 encT wa wc (sl (fs Lz)), cells b9 0 [.int .i64 ((s : Nat) : Int)]]) (by with_reducible (repeat (first | exact Take.here | apply Take.there))) ?_
          refine s_bun ?_
          try simp only [List.cons_append, List.nil_append]
          refine s_take (A := own 2 encT wa wc (sl (fs Lz))) (by with_reducible (repeat (first | exact Take.here | apply Take.there))) ?_
          refine own_fc fun w1 w2 w3 => ?_
          refine c_plain ((.l 0 [] ((.l 1 [] (.done))))) (by kernel_rfl) ?_
          refine l_alloc rfl rfl rfl Try.zeroValue28 (zs := [.int .i64 0, .int .i64 0]) rfl ?_
          intro b11
          refine ag_nil ?_
          refine l_store (j := 0) rfl rfl rfl rfl Try.sizeOf28 (us := [_, _]) rfl rfl rfl (by with_reducible (repeat (first | exact Take.here | apply Take.there))) (by first | rfl | exact (Nat.add_zero _).symm) (by first | decide | (simp; done) | omega) ?_
          simp only [setL, List.set]
          refine ag_nil ?_
          refine r_done ?_
          refine k_then_n ?_
          refine k_begin (by with_reducible (repeat (first | exact Take.here | apply Take.there))) ?_
          refine c_block ?_
          refine c_seq ?_
          refine c_seq ?_
          refine c_draw rfl (.q 0 (.q 1 (.q 2 (.q 3 (.q 4 (.q 5 (.q 6 (.q 7 (.q 8 (.q 9 (.q 10 (.q 11 (.done))))))))))))) (by kernel_rfl) ?_
          refine q_load_c (j := 0) rfl rfl rfl rfl Try.isAgg3 (by with_reducible (repeat (first | exact Take.here | apply Take.there))) (by first | rfl | exact (Nat.add_zero _).symm) (by rfl) ?_
          refine q_load_c (j := 0) rfl rfl rfl rfl Try.isAgg49 (by with_reducible (repeat (first | exact Take.here | apply Take.there))) (by first | rfl | exact (Nat.add_zero _).symm) (by rfl) ?_
          refine q_len rfl rfl rfl rfl Try.underlying49 ?_
          refine q_int rfl rfl rfl rfl rfl (b_geq _ _ _ _) ?_
          refine q_move rfl rfl rfl rfl ?_
          refine s_bool_p 66 rfl (fun hg => by exfalso; omega) (fun hg => ?_)
          refine q_loadN_c rfl rfl rfl rfl Try.isAgg28 Try.sizeOf28 (by with_reducible (repeat (first | exact Take.here | apply Take.there))) 0 (us := [_, _]) (by first | rfl | exact (Nat.add_zero _).symm) rfl rfl ?_
          refine q_load_c (j := 0) rfl rfl rfl rfl Try.isAgg49 (by with_reducible (repeat (first | exact Take.here | apply Take.there))) (by first | rfl | exact (Nat.add_zero _).symm) (by rfl) ?_
          refine q_load_c (j := 0) rfl rfl rfl rfl Try.isAgg3 (by with_reducible (repeat (first | exact Take.here | apply Take.there))) (by first | rfl | exact (Nat.add_zero _).symm) (by rfl) ?_
          refine q_idxO (sz := 1) (k := s) (enc := encT) (xs := (sl (fs Lz))) rfl rfl rfl rfl rfl Try.underlying49 Try.sizeOf28 hx (by first | rfl | omega) (by omega) (by with_reducible (repeat (first | exact Take.here | apply Take.there))) ?_
          intro ib70 io70 ha70 hl70 hc70
          refine q_loadN_O (j := 0) (k' := s) (us := [_, _]) (enc := encT) (off := io70) rfl rfl rfl rfl Try.isAgg28 Try.sizeOf28 ha70 encT_len hx (by with_reducible (repeat (first | exact Take.here | apply Take.there))) (by first | rfl | exact (Nat.add_zero _).symm | omega) (by rfl) rfl ?_
          refine q_neS rfl rfl rfl rfl rfl (by kernel_rfl) (eqc_struct Try.underlying28 (by kernel_rfl) (eqf_cons rfl Try.isAgg3 rfl rfl (eqc_int Try.underlying3) (eqf_last rfl Try.isAgg3 rfl rfl (eqc_int Try.underlying3)))) ?_
          refine s_eq 72 rfl (v' := .bool (decide ((x.1, x.2) ≠ x))) (by first | (congr 1; done) | (congr 1; rw [Bool.eq_iff_iff]; simp [Prod.ext_iff, and_assoc])) ?_
          refine s_eq 72 rfl (v' := .bool false) (by simp) ?_
          refine q_pick_f rfl rfl rfl rfl rfl ?_
          refine r_done ?_
          refine s_keep [6, 9, 73] (e' := [(6, _), (9, _), (73, _)]) rfl ?_
          refine k_then_n ?_
          refine c_cond_f rfl ?_
          refine c_skip ?_
          refine k_then_n ?_
          refine c_plain (.q 0 (.q 1 ((.l 2 [] (.done))))) (by kernel_rfl) ?_
          refine q_load_c (j := 0) rfl rfl rfl rfl Try.isAgg3 (by with_reducible (repeat (first | exact Take.here | apply Take.there))) (by first | rfl | exact (Nat.add_zero _).symm) (by rfl) ?_
          refine q_int rfl rfl rfl rfl rfl (b_add' _ (by (first | exact fits_i64 (by omega) (by omega) | exact fits_u64 (by omega) (by omega) | exact fits_u32 (by omega) (by omega) | exact fits_u8 (by omega) (by omega)))) ?_
          refine l_store (j := 0) rfl rfl rfl rfl Try.sizeOf3 (us := [_]) rfl rfl rfl (by with_reducible (repeat (first | exact Take.here | apply Take.there))) (by first | rfl | exact (Nat.add_zero _).symm) (by first | decide | (simp; done) | omega) ?_
          simp only [setL, List.set]
          refine ag_nil ?_
          refine r_done ?_
          refine s_keep [] (e' := []) rfl ?_
          refine k_blk_n ?_
          refine s_heap (fun _ h => Bun.fold ((by (repeat ((with_reducible apply Takes.cons); focus (first | (with_reducible (repeat (first | exact Take.here | apply Take.there)); done) | (repeat (first | exact Take.here | apply Take.there))))); exact Takes.nil : Takes _ [cells b5 0 [.int .i64 lv], cells b6 0 [.bool false], cells b7 0 [.slice wa Lz.length wc], own 2 encT wa wc (sl (fs Lz)), cells b9 0 [.int .i64 (((s + 1) : Nat) : Int)]] _) _ h)) ?_
          refine rr_n ((s + 1, none)) (by rfl) (by exact ⟨fun _ => ⟨rfl, trivial⟩, fun c hc => (by cases hc)⟩) (by with_reducible (repeat (first | exact Take.here | apply Take.there))) ?_
          (try simp only [List.cons_append, List.nil_append]); (repeat ((with_reducible apply Takes.cons); focus (first | (with_reducible (repeat (first | exact Take.here | apply Take.there)); done) | (repeat (first | exact Take.here | apply Take.there))))); (repeat (first | exact Takes.nil | exact Takes.self | refine takes_drop2 ?_))
        rintro ⟨k2, p2⟩ (⟨g1, g2, -⟩ | ⟨c, g1, g2⟩) blk_7
        try simp only [List.cons_append, List.nil_append]
        · skip
          simp only at g1 g2
          subst g1
          show Le _ _
          try simp only [List.cons_append, List.nil_append]
          refine s_take (A := Bun [cells b5 0 [.int .i64 lv], cells b6 0 [.bool false], cells b7 0 [.slice wa Lz.length wc], own 2 encT wa wc (sl (fs Lz)), cells b9 0 [.int .i64 ((k2 : Nat) : Int)]]) (by with_reducible (repeat (first | exact Take.here | apply Take.there))) ?_
          refine s_bun ?_
          try simp only [List.cons_append, List.nil_append]
          refine k_blk_n ?_
          refine k_then_n ?_
          refine c_seq ?_
          refine c_plain (.q 0 (.q 1 (.q 2 (.q 3 ((.l 4 [] (.done))))))) (by kernel_rfl) ?_
          refine q_load_c (j := 0) rfl rfl rfl rfl Try.isAgg3 (by with_reducible (repeat (first | exact Take.here | apply Take.there))) (by first | rfl | exact (Nat.add_zero _).symm) (by rfl) ?_
          refine q_load_c (j := 0) rfl rfl rfl rfl Try.isAgg49 (by with_reducible (repeat (first | exact Take.here | apply Take.there))) (by first | rfl | exact (Nat.add_zero _).symm) (by rfl) ?_
          refine q_len rfl rfl rfl rfl Try.underlying49 ?_
          refine q_int rfl rfl rfl rfl rfl (b_eql _ _ _ _) ?_
          refine s_eq 79 rfl (v' := .bool true) (by rw [decide_eq_true (by omega)]) ?_
          refine l_store (j := 0) rfl rfl rfl rfl Try.sizeOf4 (us := [_]) rfl rfl rfl (by with_reducible (repeat (first | exact Take.here | apply Take.there))) (by first | rfl | exact (Nat.add_zero _).symm) (by first | decide | (simp; done) | omega) ?_
          simp only [setL, List.set]
          refine ag_nil ?_
          refine r_done ?_
          refine s_keep [6] (e' := [(6, _)]) rfl ?_
          refine k_then_n ?_
          refine c_ret ?_
          refine rm_ret ?_
          refine rm_mark (blk := blk_7) (by with_reducible (repeat (first | exact Take.here | apply Take.there))) ?_
          refine rm_mark (blk := blk_3) (by with_reducible (repeat (first | exact Take.here | apply Take.there))) ?_
          refine rm_done (us := [_]) rfl ⟨rv_cell1 rfl Try.isAgg4 (by with_reducible (repeat (first | exact Take.here | apply Take.there))) (j := 0) rfl rfl, trivial⟩ (()) (by first | rfl | (first | rfl | (congr 1; done) | (congr 1 <;> first | rfl | omega | (simp; done) | (simp; omega)))) (by trivial) ?_
          (repeat ((with_reducible apply Takes.cons); focus (first | (with_reducible (repeat (first | exact Take.here | apply Take.there)); done) | (repeat (first | exact Take.here | apply Take.there))))); (repeat (first | exact Takes.nil | exact Takes.self | refine takes_drop2 ?_))
        · skip
          exact g2.elim
  · skip
    simp only at h1 h2 h3 h4
    subst h2
    subst h1
    show Le _ _
    try simp only [List.cons_append, List.nil_append]
    refine s_take (A := Bun [cells b5 0 [.int .i64 lv], cells b6 0 [.bool false], cells b7 0 [.slice wa Lz.length wc], own 2 encT wa wc (sl (fs Lz)), cells b9 0 [.int .i64 ((k : Nat) : Int)]]) (by with_reducible (repeat (first | exact Take.here | apply Take.there))) ?_
    refine s_bun ?_
    try simp only [List.cons_append, List.nil_append]
    refine c_exit ?_
    refine k_blk_here ?_
    refine k_then_n ?_
    refine c_seq ?_
    refine c_seq ?_
    have hsl := sl_len _ (fs Lz) rfl
    rw [fs_len] at hsl
    refine c_plain (.q 0 (.q 1 (.q 2 (.q 3 (.q 4 (.q 5 (.q 6 (.q 7 (.q 8 (.q 9 (.q 10 (.q 11 (.q 12 (.q 13 (.q 14 (.q 15 (.q 16 (.q 17 (.q 18 (.q 19 (.done))))))))))))))))))))) (by kernel_rfl) ?_
    refine q_load_c (j := 0) rfl rfl rfl rfl Try.isAgg3 (by with_reducible (repeat (first | exact Take.here | apply Take.there))) (by first | rfl | exact (Nat.add_zero _).symm) (by rfl) ?_
    refine q_int rfl rfl rfl rfl rfl (b_gtr _ _ _ _) ?_
    refine q_move rfl rfl rfl rfl ?_
    refine s_bool_p 42 rfl (fun hl1 => ?_) (fun hl1 => ?_)
    · skip
      refine q_load_c (j := 0) rfl rfl rfl rfl Try.isAgg3 (by with_reducible (repeat (first | exact Take.here | apply Take.there))) (by first | rfl | exact (Nat.add_zero _).symm) (by rfl) ?_
      refine q_load_c (j := 0) rfl rfl rfl rfl Try.isAgg3 (by with_reducible (repeat (first | exact Take.here | apply Take.there))) (by first | rfl | exact (Nat.add_zero _).symm) (by rfl) ?_
      refine q_load_c (j := 0) rfl rfl rfl rfl Try.isAgg49 (by with_reducible (repeat (first | exact Take.here | apply Take.there))) (by first | rfl | exact (Nat.add_zero _).symm) (by rfl) ?_
      refine q_len rfl rfl rfl rfl Try.underlying49 ?_
      refine q_min rfl rfl rfl rfl rfl ?_
      refine q_int rfl rfl rfl rfl rfl (b_neq _ _ _ _) ?_
      refine q_pick_t rfl rfl rfl rfl rfl ?_
      refine q_move rfl rfl rfl rfl ?_
      refine s_bool_p 50 rfl (fun hg => by exfalso; omega) (fun hg => ?_)
      refine q_load_c (j := 0) rfl rfl rfl rfl Try.isAgg3 (by with_reducible (repeat (first | exact Take.here | apply Take.there))) (by first | rfl | exact (Nat.add_zero _).symm) (by rfl) ?_
      refine q_int rfl rfl rfl rfl rfl (b_leq _ _ _ _) ?_
      refine q_move rfl rfl rfl rfl ?_
      refine s_bool_p 53 rfl (fun hl2 => ?_) (fun hl2 => ?_)
      · skip
        refine q_load_c (j := 0) rfl rfl rfl rfl Try.isAgg3 (by with_reducible (repeat (first | exact Take.here | apply Take.there))) (by first | rfl | exact (Nat.add_zero _).symm) (by rfl) ?_
        refine q_load_c (j := 0) rfl rfl rfl rfl Try.isAgg49 (by with_reducible (repeat (first | exact Take.here | apply Take.there))) (by first | rfl | exact (Nat.add_zero _).symm) (by rfl) ?_
        refine q_len rfl rfl rfl rfl Try.underlying49 ?_
        refine q_int rfl rfl rfl rfl rfl (b_neq _ _ _ _) ?_
        refine q_pick_t rfl rfl rfl rfl rfl ?_
        refine q_pick_f rfl rfl rfl rfl rfl ?_
        refine r_done ?_
        refine s_keep [6, 7, 8, 9, 59] (e' := [(6, _), (7, _), (8, _), (9, _), (59, _)]) rfl ?_
        refine k_then_n ?_
        refine c_cond_p rfl (fun hg => by exfalso; omega) (fun hg => ?_)
        refine c_skip ?_
        refine k_then_n ?_
        refine c_seq ?_
        refine c_plain ((.l 0 [] (.done))) (by kernel_rfl) ?_
        refine l_store (j := 0) rfl rfl rfl rfl Try.sizeOf3 (us := [_]) rfl rfl rfl (by with_reducible (repeat (first | exact Take.here | apply Take.there))) (by first | rfl | exact (Nat.add_zero _).symm) (by first | decide | (simp; done) | omega) ?_
        simp only [setL, List.set]
        refine ag_nil ?_
        refine r_done ?_
        refine k_then_n ?_
        refine c_seq ?_
        refine c_seq ?_
        refine c_plain (.q 0 (.done)) (by kernel_rfl) ?_
        refine q_move rfl rfl rfl rfl ?_
        refine r_done ?_
        refine k_then_n ?_
        refine c_block ?_
        refine s_heap (fun _ h => Bun.fold ((by (repeat ((with_reducible apply Takes.cons); focus (first | (with_reducible (repeat (first | exact Take.here | apply Take.there)); done) | (repeat (first | exact Take.here | apply Take.there))))); exact Takes.nil : Takes _ [cells b5 0 [.int .i64 lv], cells b6 0 [.bool false], cells b7 0 [.slice wa Lz.length wc], own 2 encT wa wc (sl (fs Lz)), cells b9 0 [.int .i64 0]] _) _ h)) ?_
        refine c_rangeF _ rfl Try.call51 (fun lp => all1_spec b bx m m Lz hz (by omega) (yv lp) (LoopJ lp _ _ _ _ _) (fun s => Bun [cells b5 0 [.int .i64 lv], cells b6 0 [.bool false], cells b7 0 [.slice wa Lz.length wc], own 2 encT wa wc (sl (fs Lz)), cells b9 0 [.int .i64 ((s : Nat) : Int)]]) (fun i s => s = i ∧ True) (fun s c => False) (fun i x s hx hI => callF_yield rfl (by decide) (by decide) (fun Γ w0 => ?_)) 0 (⟨rfl, trivial⟩)) (by (repeat ((with_reducible apply Takes.cons); focus (first | (with_reducible (repeat (first | exact Take.here | apply Take.there)); done) | (repeat (first | exact Take.here | apply Take.there))))); exact Takes.nil) ?_
        · skip
          try simp only [zipE, List.cons_append, List.nil_append]
          obtain ⟨rfl, hI2⟩ := hI
          have hil := (List.getElem?_eq_some_iff.1 hx).1
          refine s_take (A := Bun [cells b5 0 [.int .i64 lv], cells b6 0 [.bool false], cells b7 0 [.slice wa Lz.length wc], own 2 encT wa wc (sl (fs Lz)), cells b9 0 [.int .i64 ((s : Nat) : Int)]]) (by with_reducible (repeat (first | exact Take.here | apply Take.there))) ?_
          refine s_bun ?_
          try simp only [List.cons_append, List.nil_append]
          refine s_take (A := own 2 encT wa wc (sl (fs Lz))) (by with_reducible (repeat (first | exact Take.here | apply Take.there))) ?_
          refine own_fc fun w1 w2 w3 => ?_
          refine c_plain ((.l 0 [] ((.l 1 [] (.done))))) (by kernel_rfl) ?_
          refine l_alloc rfl rfl rfl Try.zeroValue28 (zs := [.int .i64 0, .int .i64 0]) rfl ?_
          intro b11
          refine ag_nil ?_
          refine l_store (j := 0) rfl rfl rfl rfl Try.sizeOf28 (us := [_, _]) rfl rfl rfl (by with_reducible (repeat (first | exact Take.here | apply Take.there))) (by first | rfl | exact (Nat.add_zero _).symm) (by first | decide | (simp; done) | omega) ?_
          simp only [setL, List.set]
          refine ag_nil ?_
          refine r_done ?_
          refine k_then_n ?_
          refine k_begin (by with_reducible (repeat (first | exact Take.here | apply Take.there))) ?_
          refine c_block ?_
          refine c_seq ?_
          refine c_seq ?_
          refine c_draw rfl (.q 0 (.q 1 (.q 2 (.q 3 (.q 4 (.q 5 (.q 6 (.q 7 (.q 8 (.q 9 (.q 10 (.q 11 (.done))))))))))))) (by kernel_rfl) ?_
          refine q_load_c (j := 0) rfl rfl rfl rfl Try.isAgg3 (by with_reducible (repeat (first | exact Take.here | apply Take.there))) (by first | rfl | exact (Nat.add_zero _).symm) (by rfl) ?_
          refine q_load_c (j := 0) rfl rfl rfl rfl Try.isAgg49 (by with_reducible (repeat (first | exact Take.here | apply Take.there))) (by first | rfl | exact (Nat.add_zero _).symm) (by rfl) ?_
          refine q_len rfl rfl rfl rfl Try.underlying49 ?_
          refine q_int rfl rfl rfl rfl rfl (b_geq _ _ _ _) ?_
          refine q_move rfl rfl rfl rfl ?_
          refine s_bool_p 66 rfl (fun hg => by exfalso; omega) (fun hg => ?_)
          refine q_loadN_c rfl rfl rfl rfl Try.isAgg28 Try.sizeOf28 (by with_reducible (repeat (first | exact Take.here | apply Take.there))) 0 (us := [_, _]) (by first | rfl | exact (Nat.add_zero _).symm) rfl rfl ?_
          refine q_load_c (j := 0) rfl rfl rfl rfl Try.isAgg49 (by with_reducible (repeat (first | exact Take.here | apply Take.there))) (by first | rfl | exact (Nat.add_zero _).symm) (by rfl) ?_
          refine q_load_c (j := 0) rfl rfl rfl rfl Try.isAgg3 (by with_reducible (repeat (first | exact Take.here | apply Take.there))) (by first | rfl | exact (Nat.add_zero _).symm) (by rfl) ?_
          refine q_idxO (sz := 1) (k := s) (enc := encT) (xs := (sl (fs Lz))) rfl rfl rfl rfl rfl Try.underlying49 Try.sizeOf28 hx (by first | rfl | omega) (by omega) (by with_reducible (repeat (first | exact Take.here | apply Take.there))) ?_
          intro ib70 io70 ha70 hl70 hc70
          refine q_loadN_O (j := 0) (k' := s) (us := [_, _]) (enc := encT) (off := io70) rfl rfl rfl rfl Try.isAgg28 Try.sizeOf28 ha70 encT_len hx (by with_reducible (repeat (first | exact Take.here | apply Take.there))) (by first | rfl | exact (Nat.add_zero _).symm | omega) (by rfl) rfl ?_
          refine q_neS rfl rfl rfl rfl rfl (by kernel_rfl) (eqc_struct Try.underlying28 (by kernel_rfl) (eqf_cons rfl Try.isAgg3 rfl rfl (eqc_int Try.underlying3) (eqf_last rfl Try.isAgg3 rfl rfl (eqc_int Try.underlying3)))) ?_
          refine s_eq 72 rfl (v' := .bool (decide ((x.1, x.2) ≠ x))) (by first | (congr 1; done) | (congr 1; rw [Bool.eq_iff_iff]; simp [Prod.ext_iff, and_assoc])) ?_
          refine s_eq 72 rfl (v' := .bool false) (by simp) ?_
          refine q_pick_f rfl rfl rfl rfl rfl ?_
          refine r_done ?_
          refine s_keep [6, 9, 73] (e' := [(6, _), (9, _), (73, _)]) rfl ?_
          refine k_then_n ?_
          refine c_cond_f rfl ?_
          refine c_skip ?_
          refine k_then_n ?_
          refine c_plain (.q 0 (.q 1 ((.l 2 [] (.done))))) (by kernel_rfl) ?_
          refine q_load_c (j := 0) rfl rfl rfl rfl Try.isAgg3 (by with_reducible (repeat (first | exact Take.here | apply Take.there))) (by first | rfl | exact (Nat.add_zero _).symm) (by rfl) ?_
          refine q_int rfl rfl rfl rfl rfl (b_add' _ (by (first | exact fits_i64 (by omega) (by omega) | exact fits_u64 (by omega) (by omega) | exact fits_u32 (by omega) (by omega) | exact fits_u8 (by omega) (by omega)))) ?_
          refine l_store (j := 0) rfl rfl rfl rfl Try.sizeOf3 (us := [_]) rfl rfl rfl (by with_reducible (repeat (first | exact Take.here | apply Take.there))) (by first | rfl | exact (Nat.add_zero _).symm) (by first | decide | (simp; done) | omega) ?_
          simp only [setL, List.set]
          refine ag_nil ?_
          refine r_done ?_
          refine s_keep [] (e' := []) rfl ?_
          refine k_blk_n ?_
          refine s_heap (fun _ h => Bun.fold ((by (repeat ((with_reducible apply Takes.cons); focus (first | (with_reducible (repeat (first | exact Take.here | apply Take.there)); done) | (repeat (first | exact Take.here | apply Take.there))))); exact Takes.nil : Takes _ [cells b5 0 [.int .i64 lv], cells b6 0 [.bool false], cells b7 0 [.slice wa Lz.length wc], own 2 encT wa wc (sl (fs Lz)), cells b9 0 [.int .i64 (((s + 1) : Nat) : Int)]] _) _ h)) ?_
          refine rr_n ((s + 1, none)) (by rfl) (by exact ⟨fun _ => ⟨rfl, trivial⟩, fun c hc => (by cases hc)⟩) (by with_reducible (repeat (first | exact Take.here | apply Take.there))) ?_
          (try simp only [List.cons_append, List.nil_append]); (repeat ((with_reducible apply Takes.cons); focus (first | (with_reducible (repeat (first | exact Take.here | apply Take.there)); done) | (repeat (first | exact Take.here | apply Take.there))))); (repeat (first | exact Takes.nil | exact Takes.self | refine takes_drop2 ?_))
        rintro ⟨k2, p2⟩ (⟨g1, g2, -⟩ | ⟨c, g1, g2⟩) blk_8
        try simp only [List.cons_append, List.nil_append]
        · skip
          simp only at g1 g2
          subst g1
          show Le _ _
          try simp only [List.cons_append, List.nil_append]
          refine s_take (A := Bun [cells b5 0 [.int .i64 lv], cells b6 0 [.bool false], cells b7 0 [.slice wa Lz.length wc], own 2 encT wa wc (sl (fs Lz)), cells b9 0 [.int .i64 ((k2 : Nat) : Int)]]) (by with_reducible (repeat (first | exact Take.here | apply Take.there))) ?_
          refine s_bun ?_
          try simp only [List.cons_append, List.nil_append]
          refine k_blk_n ?_
          refine k_then_n ?_
          refine c_seq ?_
          refine c_plain (.q 0 (.q 1 (.q 2 (.q 3 ((.l 4 [] (.done))))))) (by kernel_rfl) ?_
          refine q_load_c (j := 0) rfl rfl rfl rfl Try.isAgg3 (by with_reducible (repeat (first | exact Take.here | apply Take.there))) (by first | rfl | exact (Nat.add_zero _).symm) (by rfl) ?_
          refine q_load_c (j := 0) rfl rfl rfl rfl Try.isAgg49 (by with_reducible (repeat (first | exact Take.here | apply Take.there))) (by first | rfl | exact (Nat.add_zero _).symm) (by rfl) ?_
          refine q_len rfl rfl rfl rfl Try.underlying49 ?_
          refine q_int rfl rfl rfl rfl rfl (b_eql _ _ _ _) ?_
          refine s_eq 79 rfl (v' := .bool true) (by rw [decide_eq_true (by omega)]) ?_
          refine l_store (j := 0) rfl rfl rfl rfl Try.sizeOf4 (us := [_]) rfl rfl rfl (by with_reducible (repeat (first | exact Take.here | apply Take.there))) (by first | rfl | exact (Nat.add_zero _).symm) (by first | decide | (simp; done) | omega) ?_
          simp only [setL, List.set]
          refine ag_nil ?_
          refine r_done ?_
          refine s_keep [6] (e' := [(6, _)]) rfl ?_
          refine k_then_n ?_
          refine c_ret ?_
          refine rm_ret ?_
          refine rm_mark (blk := blk_8) (by with_reducible (repeat (first | exact Take.here | apply Take.there))) ?_
          refine rm_mark (blk := blk_3) (by with_reducible (repeat (first | exact Take.here | apply Take.there))) ?_
          refine rm_done (us := [_]) rfl ⟨rv_cell1 rfl Try.isAgg4 (by with_reducible (repeat (first | exact Take.here | apply Take.there))) (j := 0) rfl rfl, trivial⟩ (()) (by first | rfl | (first | rfl | (congr 1; done) | (congr 1 <;> first | rfl | omega | (simp; done) | (simp; omega)))) (by trivial) ?_
          (repeat ((with_reducible apply Takes.cons); focus (first | (with_reducible (repeat (first | exact Take.here | apply Take.there)); done) | (repeat (first | exact Take.here | apply Take.there))))); (repeat (first | exact Takes.nil | exact Takes.self | refine takes_drop2 ?_))
        · skip
          exact g2.elim
      · skip
        refine q_skip rfl rfl rfl rfl ?_
        refine q_skip rfl rfl rfl rfl ?_
        refine q_skip rfl rfl rfl rfl ?_
        refine q_skip rfl rfl rfl rfl ?_
        refine q_pick_f rfl rfl rfl rfl rfl ?_
        refine q_pick_f rfl rfl rfl rfl rfl ?_
        refine r_done ?_
        refine s_keep [6, 7, 8, 9, 59] (e' := [(6, _), (7, _), (8, _), (9, _), (59, _)]) rfl ?_
        refine k_then_n ?_
        refine c_cond_f rfl ?_
        refine c_skip ?_
        refine k_then_n ?_
        refine c_seq ?_
        refine c_plain ((.l 0 [] (.done))) (by kernel_rfl) ?_
        refine l_store (j := 0) rfl rfl rfl rfl Try.sizeOf3 (us := [_]) rfl rfl rfl (by with_reducible (repeat (first | exact Take.here | apply Take.there))) (by first | rfl | exact (Nat.add_zero _).symm) (by first | decide | (simp; done) | omega) ?_
        simp only [setL, List.set]
        refine ag_nil ?_
        refine r_done ?_
        refine k_then_n ?_
        refine c_seq ?_
        refine c_seq ?_
        refine c_plain (.q 0 (.done)) (by kernel_rfl) ?_
        refine q_move rfl rfl rfl rfl ?_
        refine r_done ?_
        refine k_then_n ?_
        refine c_block ?_
        refine s_heap (fun _ h => Bun.fold ((by (repeat ((with_reducible apply Takes.cons); focus (first | (with_reducible (repeat (first | exact Take.here | apply Take.there)); done) | (repeat (first | exact Take.here | apply Take.there))))); exact Takes.nil : Takes _ [cells b5 0 [.int .i64 lv], cells b6 0 [.bool false], cells b7 0 [.slice wa Lz.length wc], own 2 encT wa wc (sl (fs Lz)), cells b9 0 [.int .i64 0]] _) _ h)) ?_
        refine c_rangeF _ rfl Try.call51 (fun lp => all1_spec b bx m m Lz hz (by omega) (yv lp) (LoopJ lp _ _ _ _ _) (fun s => Bun [cells b5 0 [.int .i64 lv], cells b6 0 [.bool false], cells b7 0 [.slice wa Lz.length wc], own 2 encT wa wc (sl (fs Lz)), cells b9 0 [.int .i64 ((s : Nat) : Int)]]) (fun i s => s = i ∧ True) (fun s c => False) (fun i x s hx hI => callF_yield rfl (by decide) (by decide) (fun Γ w0 => ?_)) 0 (⟨rfl, trivial⟩)) (by (repeat ((with_reducible apply Takes.cons); focus (first | (with_reducible (repeat (first | exact Take.here | apply Take.there)); done) | (repeat (first | exact Take.here | apply Take.there))))); exact Takes.nil) ?_
        · skip
          try simp only [zipE, List.cons_append, List.nil_append]
          obtain ⟨rfl, hI2⟩ := hI
          have hil := (List.getElem?_eq_some_iff.1 hx).1
          refine s_take (A := Bun [cells b5 0 [.int .i64 lv], cells b6 0 [.bool false], cells b7 0 [.slice wa Lz.length wc], own 2 encT wa wc (sl (fs Lz)), cells b9 0 [.int .i64 ((s : Nat) : Int)]]) (by with_reducible (repeat (first | exact Take.here | apply Take.there))) ?_
          refine s_bun ?_
          try simp only [List.cons_append, List.nil_append]
          refine s_take (A := own 2 encT wa wc (sl (fs Lz))) (by with_reducible (repeat (first | exact Take.here | apply Take.there))) ?_
          refine own_fc fun w1 w2 w3 => ?_
          refine c_plain ((.l 0 [] ((.l 1 [] (.done))))) (by kernel_rfl) ?_
          refine l_alloc rfl rfl rfl Try.zeroValue28 (zs := [.int .i64 0, .int .i64 0]) rfl ?_
          intro b11
          refine ag_nil ?_
          refine l_store (j := 0) rfl rfl rfl rfl Try.sizeOf28 (us := [_, _]) rfl rfl rfl (by with_reducible (repeat (first | exact Take.here | apply Take.there))) (by first | rfl | exact (Nat.add_zero _).symm) (by first | decide | (simp; done) | omega) ?_
          simp only [setL, List.set]
          refine ag_nil ?_
          refine r_done ?_
          refine k_then_n ?_
          refine k_begin (by with_reducible (repeat (first | exact Take.here | apply Take.there))) ?_
          refine c_block ?_
          refine c_seq ?_
          refine c_seq ?_
          refine c_draw rfl (.q 0 (.q 1 (.q 2 (.q 3 (.q 4 (.q 5 (.q 6 (.q 7 (.q 8 (.q 9 (.q 10 (.q 11 (.done))))))))))))) (by kernel_rfl) ?_
          refine q_load_c (j := 0) rfl rfl rfl rfl Try.isAgg3 (by with_reducible (repeat (first | exact Take.here | apply Take.there))) (by first | rfl | exact (Nat.add_zero _).symm) (by rfl) ?_
          refine q_load_c (j := 0) rfl rfl rfl rfl Try.isAgg49 (by with_reducible (repeat (first | exact Take.here | apply Take.there))) (by first | rfl | exact (Nat.add_zero _).symm) (by rfl) ?_
          refine q_len rfl rfl rfl rfl Try.underlying49 ?_
          refine q_int rfl rfl rfl rfl rfl (b_geq _ _ _ _) ?_
          refine q_move rfl rfl rfl rfl ?_
          refine s_bool_p 66 rfl (fun hg => by exfalso; omega) (fun hg => ?_)
          refine q_loadN_c rfl rfl rfl rfl Try.isAgg28 Try.sizeOf28 (by with_reducible (repeat (first | exact Take.here | apply Take.there))) 0 (us := [_, _]) (by first | rfl | exact (Nat.add_zero _).symm) rfl rfl ?_
          refine q_load_c (j := 0) rfl rfl rfl rfl Try.isAgg49 (by with_reducible (repeat (first | exact Take.here | apply Take.there))) (by first | rfl | exact (Nat.add_zero _).symm) (by rfl) ?_
          refine q_load_c (j := 0) rfl rfl rfl rfl Try.isAgg3 (by with_reducible (repeat (first | exact Take.here | apply Take.there))) (by first | rfl | exact (Nat.add_zero _).symm) (by rfl) ?_
          refine q_idxO (sz := 1) (k := s) (enc := encT) (xs := (sl (fs Lz))) rfl rfl rfl rfl rfl Try.underlying49 Try.sizeOf28 hx (by first | rfl | omega) (by omega) (by with_reducible (repeat (first | exact Take.here | apply Take.there))) ?_
          intro ib70 io70 ha70 hl70 hc70
          refine q_loadN_O (j := 0) (k' := s) (us := [_, _]) (enc := encT) (off := io70) rfl rfl rfl rfl Try.isAgg28 Try.sizeOf28 ha70 encT_len hx (by with_reducible (repeat (first | exact Take.here | apply Take.there))) (by first | rfl | exact (Nat.add_zero _).symm | omega) (by rfl) rfl ?_
          refine q_neS rfl rfl rfl rfl rfl (by kernel_rfl) (eqc_struct Try.underlying28 (by kernel_rfl) (eqf_cons rfl Try.isAgg3 rfl rfl (eqc_int Try.underlying3) (eqf_last rfl Try.isAgg3 rfl rfl (eqc_int Try.underlying3)))) ?_
          refine s_eq 72 rfl (v' := .bool (decide ((x.1, x.2) ≠ x))) (by first | (congr 1; done) | (congr 1; rw [Bool.eq_iff_iff]; simp [Prod.ext_iff, and_assoc])) ?_
          refine s_eq 72 rfl (v' := .bool false) (by simp) ?_
          refine q_pick_f rfl rfl rfl rfl rfl ?_
          refine r_done ?_
          refine s_keep [6, 9, 73] (e' := [(6, _), (9, _), (73, _)]) rfl ?_
          refine k_then_n ?_
          refine c_cond_f rfl ?_
          refine c_skip ?_
          refine k_then_n ?_
          refine c_plain (.q 0 (.q 1 ((.l 2 [] (.done))))) (by kernel_rfl) ?_
          refine q_load_c (j := 0) rfl rfl rfl rfl Try.isAgg3 (by with_reducible (repeat (first | exact Take.here | apply Take.there))) (by first | rfl | exact (Nat.add_zero _).symm) (by rfl) ?_
          refine q_int rfl rfl rfl rfl rfl (b_add' _ (by (first | exact fits_i64 (by omega) (by omega) | exact fits_u64 (by omega) (by omega) | exact fits_u32 (by omega) (by omega) | exact fits_u8 (by omega) (by omega)))) ?_
          refine l_store (j := 0) rfl rfl rfl rfl Try.sizeOf3 (us := [_]) rfl rfl rfl (by with_reducible (repeat (first | exact Take.here | apply Take.there))) (by first | rfl | exact (Nat.add_zero _).symm) (by first | decide | (simp; done) | omega) ?_
          simp only [setL, List.set]
          refine ag_nil ?_
          refine r_done ?_
          refine s_keep [] (e' := []) rfl ?_
          refine k_blk_n ?_
          refine s_heap (fun _ h => Bun.fold ((by (repeat ((with_reducible apply Takes.cons); focus (first | (with_reducible (repeat (first | exact Take.here | apply Take.there)); done) | (repeat (first | exact Take.here | apply Take.there))))); exact Takes.nil : Takes _ [cells b5 0 [.int .i64 lv], cells b6 0 [.bool false], cells b7 0 [.slice wa Lz.length wc], own 2 encT wa wc (sl (fs Lz)), cells b9 0 [.int .i64 (((s + 1) : Nat) : Int)]] _) _ h)) ?_
          refine rr_n ((s + 1, none)) (by rfl) (by exact ⟨fun _ => ⟨rfl, trivial⟩, fun c hc => (by cases hc)⟩) (by with_reducible (repeat (first | exact Take.here | apply Take.there))) ?_
          (try simp only [List.cons_append, List.nil_append]); (repeat ((with_reducible apply Takes.cons); focus (first | (with_reducible (repeat (first | exact Take.here | apply Take.there)); done) | (repeat (first | exact Take.here | apply Take.there))))); (repeat (first | exact Takes.nil | exact Takes.self | refine takes_drop2 ?_))
        rintro ⟨k2, p2⟩ (⟨g1, g2, -⟩ | ⟨c, g1, g2⟩) blk_9
        try simp only [List.cons_append, List.nil_append]
        · skip
          simp only at g1 g2
          subst g1
          show Le _ _
          try simp only [List.cons_append, List.nil_append]
          refine s_take (A := Bun [cells b5 0 [.int .i64 lv], cells b6 0 [.bool false], cells b7 0 [.slice wa Lz.length wc], own 2 encT wa wc (sl (fs Lz)), cells b9 0 [.int .i64 ((k2 : Nat) : Int)]]) (by with_reducible (repeat (first | exact Take.here | apply Take.there))) ?_
          refine s_bun ?_
          try simp only [List.cons_append, List.nil_append]
          refine k_blk_n ?_
          refine k_then_n ?_
          refine c_seq ?_
          refine c_plain (.q 0 (.q 1 (.q 2 (.q 3 ((.l 4 [] (.done))))))) (by kernel_rfl) ?_
          refine q_load_c (j := 0) rfl rfl rfl rfl Try.isAgg3 (by with_reducible (repeat (first | exact Take.here | apply Take.there))) (by first | rfl | exact (Nat.add_zero _).symm) (by rfl) ?_
          refine q_load_c (j := 0) rfl rfl rfl rfl Try.isAgg49 (by with_reducible (repeat (first | exact Take.here | apply Take.there))) (by first | rfl | exact (Nat.add_zero _).symm) (by rfl) ?_
          refine q_len rfl rfl rfl rfl Try.underlying49 ?_
          refine q_int rfl rfl rfl rfl rfl (b_eql _ _ _ _) ?_
          refine s_eq 79 rfl (v' := .bool true) (by rw [decide_eq_true (by omega)]) ?_
          refine l_store (j := 0) rfl rfl rfl rfl Try.sizeOf4 (us := [_]) rfl rfl rfl (by with_reducible (repeat (first | exact Take.here | apply Take.there))) (by first | rfl | exact (Nat.add_zero _).symm) (by first | decide | (simp; done) | omega) ?_
          simp only [setL, List.set]
          refine ag_nil ?_
          refine r_done ?_
          refine s_keep [6] (e' := [(6, _)]) rfl ?_
          refine k_then_n ?_
          refine c_ret ?_
          refine rm_ret ?_
          refine rm_mark (blk := blk_9) (by with_reducible (repeat (first | exact Take.here | apply Take.there))) ?_
          refine rm_mark (blk := blk_3) (by with_reducible (repeat (first | exact Take.here | apply Take.there))) ?_
          refine rm_done (us := [_]) rfl ⟨rv_cell1 rfl Try.isAgg4 (by with_reducible (repeat (first | exact Take.here | apply Take.there))) (j := 0) rfl rfl, trivial⟩ (()) (by first | rfl | (first | rfl | (congr 1; done) | (congr 1 <;> first | rfl | omega | (simp; done) | (simp; omega)))) (by trivial) ?_
          (repeat ((with_reducible apply Takes.cons); focus (first | (with_reducible (repeat (first | exact Take.here | apply Take.there)); done) | (repeat (first | exact Take.here | apply Take.there))))); (repeat (first | exact Takes.nil | exact Takes.self | refine takes_drop2 ?_))
        · skip
          exact g2.elim
    · skip
      refine q_skip rfl rfl rfl rfl ?_
      refine q_skip rfl rfl rfl rfl ?_
      refine q_skip rfl rfl rfl rfl ?_
      refine q_skip rfl rfl rfl rfl ?_
      refine q_skip rfl rfl rfl rfl ?_
      refine q_skip rfl rfl rfl rfl ?_
      refine q_pick_f rfl rfl rfl rfl rfl ?_
      refine q_move rfl rfl rfl rfl ?_
      refine q_load_c (j := 0) rfl rfl rfl rfl Try.isAgg3 (by with_reducible (repeat (first | exact Take.here | apply Take.there))) (by first | rfl | exact (Nat.add_zero _).symm) (by rfl) ?_
      refine q_int rfl rfl rfl rfl rfl (b_leq _ _ _ _) ?_
      refine q_move rfl rfl rfl rfl ?_
      refine s_bool_p 53 rfl (fun hl2 => ?_) (fun hl2 => ?_)
      · skip
        refine q_load_c (j := 0) rfl rfl rfl rfl Try.isAgg3 (by with_reducible (repeat (first | exact Take.here | apply Take.there))) (by first | rfl | exact (Nat.add_zero _).symm) (by rfl) ?_
        refine q_load_c (j := 0) rfl rfl rfl rfl Try.isAgg49 (by with_reducible (repeat (first | exact Take.here | apply Take.there))) (by first | rfl | exact (Nat.add_zero _).symm) (by rfl) ?_
        refine q_len rfl rfl rfl rfl Try.underlying49 ?_
        refine q_int rfl rfl rfl rfl rfl (b_neq _ _ _ _) ?_
        refine q_pick_t rfl rfl rfl rfl rfl ?_
        refine q_pick_f rfl rfl rfl rfl rfl ?_
        refine r_done ?_
        refine s_keep [6, 7, 8, 9, 59] (e' := [(6, _), (7, _), (8, _), (9, _), (59, _)]) rfl ?_
        refine k_then_n ?_
        refine c_cond_p rfl (fun hg => by exfalso; omega) (fun hg => ?_)
        refine c_skip ?_
        refine k_then_n ?_
        refine c_seq ?_
        refine c_plain ((.l 0 [] (.done))) (by kernel_rfl) ?_
        refine l_store (j := 0) rfl rfl rfl rfl Try.sizeOf3 (us := [_]) rfl rfl rfl (by with_reducible (repeat (first | exact Take.here | apply Take.there))) (by first | rfl | exact (Nat.add_zero _).symm) (by first | decide | (simp; done) | omega) ?_
        simp only [setL, List.set]
        refine ag_nil ?_
        refine r_done ?_
        refine k_then_n ?_
        refine c_seq ?_
        refine c_seq ?_
        refine c_plain (.q 0 (.done)) (by kernel_rfl) ?_
        refine q_move rfl rfl rfl rfl ?_
        refine r_done ?_
        refine k_then_n ?_
        refine c_block ?_
        refine s_heap (fun _ h => Bun.fold ((by (repeat ((with_reducible apply Takes.cons); focus (first | (with_reducible (repeat (first | exact Take.here | apply Take.there)); done) | (repeat (first | exact Take.here | apply Take.there))))); exact Takes.nil : Takes _ [cells b5 0 [.int .i64 lv], cells b6 0 [.bool false], cells b7 0 [.slice wa Lz.length wc], own 2 encT wa wc (sl (fs Lz)), cells b9 0 [.int .i64 0]] _) _ h)) ?_
        refine c_rangeF _ rfl Try.call51 (fun lp => all1_spec b bx m m Lz hz (by omega) (yv lp) (LoopJ lp _ _ _ _ _) (fun s => Bun [cells b5 0 [.int .i64 lv], cells b6 0 [.bool false], cells b7 0 [.slice wa Lz.length wc], own 2 encT wa wc (sl (fs Lz)), cells b9 0 [.int .i64 ((s : Nat) : Int)]]) (fun i s => s = i ∧ True) (fun s c => False) (fun i x s hx hI => callF_yield rfl (by decide) (by decide) (fun Γ w0 => ?_)) 0 (⟨rfl, trivial⟩)) (by (repeat ((with_reducible apply Takes.cons); focus (first | (with_reducible (repeat (first | exact Take.here | apply Take.there)); done) | (repeat (first | exact Take.here | apply Take.there))))); exact Takes.nil) ?_
        · skip
          try simp only [zipE, List.cons_append, List.nil_append]
          obtain ⟨rfl, hI2⟩ := hI
          have hil := (List.getElem?_eq_some_iff.1 hx).1
          refine s_take (A := Bun [cells b5 0 [.int .i64 lv], cells b6 0 [.bool false], cells b7 0 [.slice wa Lz.length wc], own 2 encT wa wc (sl (fs Lz)), cells b9 0 [.int .i64 ((s : Nat) : Int)]]) (by with_reducible (repeat (first | exact Take.here | apply Take.there))) ?_
          refine s_bun ?_
          try simp only [List.cons_append, List.nil_append]
          refine s_take (A := own 2 encT wa wc (sl (fs Lz))) (by with_reducible (repeat (first | exact Take.here | apply Take.there))) ?_
          refine own_fc fun w1 w2 w3 => ?_
          refine c_plain ((.l 0 [] ((.l 1 [] (.done))))) (by kernel_rfl) ?_
          refine l_alloc rfl rfl rfl Try.zeroValue28 (zs := [.int .i64 0, .int .i64 0]) rfl ?_
          intro b11
          refine ag_nil ?_
          refine l_store (j := 0) rfl rfl rfl rfl Try.sizeOf28 (us := [_, _]) rfl rfl rfl (by with_reducible (repeat (first | exact Take.here | apply Take.there))) (by first | rfl | exact (Nat.add_zero _).symm) (by first | decide | (simp; done) | omega) ?_
          simp only [setL, List.set]
          refine ag_nil ?_
          refine r_done ?_
          refine k_then_n ?_
          refine k_begin (by with_reducible (repeat (first | exact Take.here | apply Take.there))) ?_
          refine c_block ?_
          refine c_seq ?_
          refine c_seq ?_
          refine c_draw rfl (.q 0 (.q 1 (.q 2 (.q 3 (.q 4 (.q 5 (.q 6 (.q 7 (.q 8 (.q 9 (.q 10 (.q 11 (.done))))))))))))) (by kernel_rfl) ?_
          refine q_load_c (j := 0) rfl rfl rfl rfl Try.isAgg3 (by with_reducible (repeat (first | exact Take.here | apply Take.there))) (by first | rfl | exact (Nat.add_zero _).symm) (by rfl) ?_
          refine q_load_c (j := 0) rfl rfl rfl rfl Try.isAgg49 (by with_reducible (repeat (first | exact Take.here | apply Take.there))) (by first | rfl | exact (Nat.add_zero _).symm) (by rfl) ?_
          refine q_len rfl rfl rfl rfl Try.underlying49 ?_
          refine q_int rfl rfl rfl rfl rfl (b_geq _ _ _ _) ?_
          refine q_move rfl rfl rfl rfl ?_
          refine s_bool_p 66 rfl (fun hg => by exfalso; omega) (fun hg => ?_)
          refine q_loadN_c rfl rfl rfl rfl Try.isAgg28 Try.sizeOf28 (by with_reducible (repeat (first | exact Take.here | apply Take.there))) 0 (us := [_, _]) (by first | rfl | exact (Nat.add_zero _).symm) rfl rfl ?_
          refine q_load_c (j := 0) rfl rfl rfl rfl Try.isAgg49 (by with_reducible (repeat (first | exact Take.here | apply Take.there))) (by first | rfl | exact (Nat.add_zero _).symm) (by rfl) ?_
          refine q_load_c (j := 0) rfl rfl rfl rfl Try.isAgg3 (by with_reducible (repeat (first | exact Take.here | apply Take.there))) (by first | rfl | exact (Nat.add_zero _).symm) (by rfl) ?_
          refine q_idxO (sz := 1) (k := s) (enc := encT) (xs := (sl (fs Lz))) rfl rfl rfl rfl rfl Try.underlying49 Try.sizeOf28 hx (by first | rfl | omega) (by omega) (by with_reducible (repeat (first | exact Take.here | apply Take.there))) ?_
          intro ib70 io70 ha70 hl70 hc70
          refine q_loadN_O (j := 0) (k' := s) (us := [_, _]) (enc := encT) (off := io70) rfl rfl rfl rfl Try.isAgg28 Try.sizeOf28 ha70 encT_len hx (by with_reducible (repeat (first | exact Take.here | apply Take.there))) (by first | rfl | exact (Nat.add_zero _).symm | omega) (by rfl) rfl ?_
          refine q_neS rfl rfl rfl rfl rfl (by kernel_rfl) (eqc_struct Try.underlying28 (by kernel_rfl) (eqf_cons rfl Try.isAgg3 rfl rfl (eqc_int Try.underlying3) (eqf_last rfl Try.isAgg3 rfl rfl (eqc_int Try.underlying3)))) ?_
          refine s_eq 72 rfl (v' := .bool (decide ((x.1, x.2) ≠ x))) (by first | (congr 1; done) | (congr 1; rw [Bool.eq_iff_iff]; simp [Prod.ext_iff, and_assoc])) ?_
          refine s_eq 72 rfl (v' := .bool false) (by simp) ?_
          refine q_pick_f rfl rfl rfl rfl rfl ?_
          refine r_done ?_
          refine s_keep [6, 9, 73] (e' := [(6, _), (9, _), (73, _)]) rfl ?_
          refine k_then_n ?_
          refine c_cond_f rfl ?_
          refine c_skip ?_
          refine k_then_n ?_
          refine c_plain (.q 0 (.q 1 ((.l 2 [] (.done))))) (by kernel_rfl) ?_
          refine q_load_c (j := 0) rfl rfl rfl rfl Try.isAgg3 (by with_reducible (repeat (first | exact Take.here | apply Take.there))) (by first | rfl | exact (Nat.add_zero _).symm) (by rfl) ?_
          refine q_int rfl rfl rfl rfl rfl (b_add' _ (by (first | exact fits_i64 (by omega) (by omega) | exact fits_u64 (by omega) (by omega) | exact fits_u32 (by omega) (by omega) | exact fits_u8 (by omega) (by omega)))) ?_
          refine l_store (j := 0) rfl rfl rfl rfl Try.sizeOf3 (us := [_]) rfl rfl rfl (by with_reducible (repeat (first | exact Take.here | apply Take.there))) (by first | rfl | exact (Nat.add_zero _).symm) (by first | decide | (simp; done) | omega) ?_
          simp only [setL, List.set]
          refine ag_nil ?_
          refine r_done ?_
          refine s_keep [] (e' := []) rfl ?_
          refine k_blk_n ?_
          refine s_heap (fun _ h => Bun.fold ((by (repeat ((with_reducible apply Takes.cons); focus (first | (with_reducible (repeat (first | exact Take.here | apply Take.there)); done) | (repeat (first | exact Take.here | apply Take.there))))); exact Takes.nil : Takes _ [cells b5 0 [.int .i64 lv], cells b6 0 [.bool false], cells b7 0 [.slice wa Lz.length wc], own 2 encT wa wc (sl (fs Lz)), cells b9 0 [.int .i64 (((s + 1) : Nat) : Int)]] _) _ h)) ?_
          refine rr_n ((s + 1, none)) (by rfl) (by exact ⟨fun _ => ⟨rfl, trivial⟩, fun c hc => (by cases hc)⟩) (by with_reducible (repeat (first | exact Take.here | apply Take.there))) ?_
          (try simp only [List.cons_append, List.nil_append]); (repeat ((with_reducible apply Takes.cons); focus (first | (with_reducible (repeat (first | exact Take.here | apply Take.there)); done) | (repeat (first | exact Take.here | apply Take.there))))); (repeat (first | exact Takes.nil | exact Takes.self | refine takes_drop2 ?_))
        rintro ⟨k2, p2⟩ (⟨g1, g2, -⟩ | ⟨c, g1, g2⟩) blk_10
        try simp only [List.cons_append, List.nil_append]
        · skip
          simp only at g1 g2
          subst g1
          show Le _ _
          try simp only [List.cons_append, List.nil_append]
          refine s_take (A := Bun [cells b5 0 [.int .i64 lv], cells b6 0 [.bool false], cells b7 0 [.slice wa Lz.length wc], own 2 encT wa wc (sl (fs Lz)), cells b9 0 [.int .i64 ((k2 : Nat) : Int)]]) (by with_reducible (repeat (first | exact Take.here | apply Take.there))) ?_
          refine s_bun ?_
          try simp only [List.cons_append, List.nil_append]
          refine k_blk_n ?_
          refine k_then_n ?_
          refine c_seq ?_
          refine c_plain (.q 0 (.q 1 (.q 2 (.q 3 ((.l 4 [] (.done))))))) (by kernel_rfl) ?_
          refine q_load_c (j := 0) rfl rfl rfl rfl Try.isAgg3 (by with_reducible (repeat (first | exact Take.here | apply Take.there))) (by first | rfl | exact (Nat.add_zero _).symm) (by rfl) ?_
          refine q_load_c (j := 0) rfl rfl rfl rfl Try.isAgg49 (by with_reducible (repeat (first | exact Take.here | apply Take.there))) (by first | rfl | exact (Nat.add_zero _).symm) (by rfl) ?_
          refine q_len rfl rfl rfl rfl Try.underlying49 ?_
          refine q_int rfl rfl rfl rfl rfl (b_eql _ _ _ _) ?_
          refine s_eq 79 rfl (v' := .bool true) (by rw [decide_eq_true (by omega)]) ?_
          refine l_store (j := 0) rfl rfl rfl rfl Try.sizeOf4 (us := [_]) rfl rfl rfl (by with_reducible (repeat (first | exact Take.here | apply Take.there))) (by first | rfl | exact (Nat.add_zero _).symm) (by first | decide | (simp; done) | omega) ?_
          simp only [setL, List.set]
          refine ag_nil ?_
          refine r_done ?_
          refine s_keep [6] (e' := [(6, _)]) rfl ?_
          refine k_then_n ?_
          refine c_ret ?_
          refine rm_ret ?_
          refine rm_mark (blk := blk_10) (by with_reducible (repeat (first | exact Take.here | apply Take.there))) ?_
          refine rm_mark (blk := blk_3) (by with_reducible (repeat (first | exact Take.here | apply Take.there))) ?_
          refine rm_done (us := [_]) rfl ⟨rv_cell1 rfl Try.isAgg4 (by with_reducible (repeat (first | exact Take.here | apply Take.there))) (j := 0) rfl rfl, trivial⟩ (()) (by first | rfl | (first | rfl | (congr 1; done) | (congr 1 <;> first | rfl | omega | (simp; done) | (simp; omega)))) (by trivial) ?_
          (repeat ((with_reducible apply Takes.cons); focus (first | (with_reducible (repeat (first | exact Take.here | apply Take.there)); done) | (repeat (first | exact Take.here | apply Take.there))))); (repeat (first | exact Takes.nil | exact Takes.self | refine takes_drop2 ?_))
        · skip
          exact g2.elim
      · skip
        refine q_skip rfl rfl rfl rfl ?_
        refine q_skip rfl rfl rfl rfl ?_
        refine q_skip rfl rfl rfl rfl ?_
        refine q_skip rfl rfl rfl rfl ?_
        refine q_pick_f rfl rfl rfl rfl rfl ?_
        refine q_pick_f rfl rfl rfl rfl rfl ?_
        refine r_done ?_
        refine s_keep [6, 7, 8, 9, 59] (e' := [(6, _), (7, _), (8, _), (9, _), (59, _)]) rfl ?_
        refine k_then_n ?_
        refine c_cond_f rfl ?_
        refine c_skip ?_
        refine k_then_n ?_
        refine c_seq ?_
        refine c_plain ((.l 0 [] (.done))) (by kernel_rfl) ?_
        refine l_store (j := 0) rfl rfl rfl rfl Try.sizeOf3 (us := [_]) rfl rfl rfl (by with_reducible (repeat (first | exact Take.here | apply Take.there))) (by first | rfl | exact (Nat.add_zero _).symm) (by first | decide | (simp; done) | omega) ?_
        simp only [setL, List.set]
        refine ag_nil ?_
        refine r_done ?_
        refine k_then_n ?_
        refine c_seq ?_
        refine c_seq ?_
        refine c_plain (.q 0 (.done)) (by kernel_rfl) ?_
        refine q_move rfl rfl rfl rfl ?_
        refine r_done ?_
        refine k_then_n ?_
        refine c_block ?_
        refine s_heap (fun _ h => Bun.fold ((by (repeat ((with_reducible apply Takes.cons); focus (first | (with_reducible (repeat (first | exact Take.here | apply Take.there)); done) | (repeat (first | exact Take.here | apply Take.there))))); exact Takes.nil : Takes _ [cells b5 0 [.int .i64 lv], cells b6 0 [.bool false], cells b7 0 [.slice wa Lz.length wc], own 2 encT wa wc (sl (fs Lz)), cells b9 0 [.int .i64 0]] _) _ h)) ?_
        refine c_rangeF _ rfl Try.call51 (fun lp => all1_spec b bx m m Lz hz (by omega) (yv lp) (LoopJ lp _ _ _ _ _) (fun s => Bun [cells b5 0 [.int .i64 lv], cells b6 0 [.bool false], cells b7 0 [.slice wa Lz.length wc], own 2 encT wa wc (sl (fs Lz)), cells b9 0 [.int .i64 ((s : Nat) : Int)]]) (fun i s => s = i ∧ True) (fun s c => False) (fun i x s hx hI => callF_yield rfl (by decide) (by decide) (fun Γ w0 => ?_)) 0 (⟨rfl, trivial⟩)) (by (repeat ((with_reducible apply Takes.cons); focus (first | (with_reducible (repeat (first | exact Take.here | apply Take.there)); done) | (repeat (first | exact Take.here | apply Take.there))))); exact Takes.nil) ?_
        · skip
          try simp only [zipE, List.cons_append, List.nil_append]
          obtain ⟨rfl, hI2⟩ := hI
          have hil := (List.getElem?_eq_some_iff.1 hx).1
          refine s_take (A := Bun [cells b5 0 [.int .i64 lv], cells b6 0 [.bool false], cells b7 0 [.slice wa Lz.length wc], own 2 encT wa wc (sl (fs Lz)), cells b9 0 [.int .i64 ((s : Nat) : Int)]]) (by with_reducible (repeat (first | exact Take.here | apply Take.there))) ?_
          refine s_bun ?_
          try simp only [List.cons_append, List.nil_append]
          refine s_take (A := own 2 encT wa wc (sl (fs Lz))) (by with_reducible (repeat (first | exact Take.here | apply Take.there))) ?_
          refine own_fc fun w1 w2 w3 => ?_
          refine c_plain ((.l 0 [] ((.l 1 [] (.done))))) (by kernel_rfl) ?_
          refine l_alloc rfl rfl rfl Try.zeroValue28 (zs := [.int .i64 0, .int .i64 0]) rfl ?_
          intro b11
          refine ag_nil ?_
          refine l_store (j := 0) rfl rfl rfl rfl Try.sizeOf28 (us := [_, _]) rfl rfl rfl (by with_reducible (repeat (first | exact Take.here | apply Take.there))) (by first | rfl | exact (Nat.add_zero _).symm) (by first | decide | (simp; done) | omega) ?_
          simp only [setL, List.set]
          refine ag_nil ?_
          refine r_done ?_
          refine k_then_n ?_
          refine k_begin (by with_reducible (repeat (first | exact Take.here | apply Take.there))) ?_
          refine c_block ?_
          refine c_seq ?_
          refine c_seq ?_
          refine c_draw rfl (.q 0 (.q 1 (.q 2 (.q 3 (.q 4 (.q 5 (.q 6 (.q 7 (.q 8 (.q 9 (.q 10 (.q 11 (.done))))))))))))) (by kernel_rfl) ?_
          refine q_load_c (j := 0) rfl rfl rfl rfl Try.isAgg3 (by with_reducible (repeat (first | exact Take.here | apply Take.there))) (by first | rfl | exact (Nat.add_zero _).symm) (by rfl) ?_
          refine q_load_c (j := 0) rfl rfl rfl rfl Try.isAgg49 (by with_reducible (repeat (first | exact Take.here | apply Take.there))) (by first | rfl | exact (Nat.add_zero _).symm) (by rfl) ?_
          refine q_len rfl rfl rfl rfl Try.underlying49 ?_
          refine q_int rfl rfl rfl rfl rfl (b_geq _ _ _ _) ?_
          refine q_move rfl rfl rfl rfl ?_
          refine s_bool_p 66 rfl (fun hg => by exfalso; omega) (fun hg => ?_)
          refine q_loadN_c rfl rfl rfl rfl Try.isAgg28 Try.sizeOf28 (by with_reducible (repeat (first | exact Take.here | apply Take.there))) 0 (us := [_, _]) (by first | rfl | exact (Nat.add_zero _).symm) rfl rfl ?_
          refine q_load_c (j := 0) rfl rfl rfl rfl Try.isAgg49 (by with_reducible (repeat (first | exact Take.here | apply Take.there))) (by first | rfl | exact (Nat.add_zero _).symm) (by rfl) ?_
          refine q_load_c (j := 0) rfl rfl rfl rfl Try.isAgg3 (by with_reducible (repeat (first | exact Take.here | apply Take.there))) (by first | rfl | exact (Nat.add_zero _).symm) (by rfl) ?_
          refine q_idxO (sz := 1) (k := s) (enc := encT) (xs := (sl (fs Lz))) rfl rfl rfl rfl rfl Try.underlying49 Try.sizeOf28 hx (by first | rfl | omega) (by omega) (by with_reducible (repeat (first | exact Take.here | apply Take.there))) ?_
          intro ib70 io70 ha70 hl70 hc70
          refine q_loadN_O (j := 0) (k' := s) (us := [_, _]) (enc := encT) (off := io70) rfl rfl rfl rfl Try.isAgg28 Try.sizeOf28 ha70 encT_len hx (by with_reducible (repeat (first | exact Take.here | apply Take.there))) (by first | rfl | exact (Nat.add_zero _).symm | omega) (by rfl) rfl ?_
          refine q_neS rfl rfl rfl rfl rfl (by kernel_rfl) (eqc_struct Try.underlying28 (by kernel_rfl) (eqf_cons rfl Try.isAgg3 rfl rfl (eqc_int Try.underlying3) (eqf_last rfl Try.isAgg3 rfl rfl (eqc_int Try.underlying3)))) ?_
          refine s_eq 72 rfl (v' := .bool (decide ((x.1, x.2) ≠ x))) (by first | (congr 1; done) | (congr 1; rw [Bool.eq_iff_iff]; simp [Prod.ext_iff, and_assoc])) ?_
          refine s_eq 72 rfl (v' := .bool false) (by simp) ?_
          refine q_pick_f rfl rfl rfl rfl rfl ?_
          refine r_done ?_
          refine s_keep [6, 9, 73] (e' := [(6, _), (9, _), (73, _)]) rfl ?_
          refine k_then_n ?_
          refine c_cond_f rfl ?_
          refine c_skip ?_
          refine k_then_n ?_
          refine c_plain (.q 0 (.q 1 ((.l 2 [] (.done))))) (by kernel_rfl) ?_
          refine q_load_c (j := 0) rfl rfl rfl rfl Try.isAgg3 (by with_reducible (repeat (first | exact Take.here | apply Take.there))) (by first | rfl | exact (Nat.add_zero _).symm) (by rfl) ?_
          refine q_int rfl rfl rfl rfl rfl (b_add' _ (by (first | exact fits_i64 (by omega) (by omega) | exact fits_u64 (by omega) (by omega) | exact fits_u32 (by omega) (by omega) | exact fits_u8 (by omega) (by omega)))) ?_
          refine l_store (j := 0) rfl rfl rfl rfl Try.sizeOf3 (us := [_]) rfl rfl rfl (by with_reducible (repeat (first | exact Take.here | apply Take.there))) (by first | rfl | exact (Nat.add_zero _).symm) (by first | decide | (simp; done) | omega) ?_
          simp only [setL, List.set]
          refine ag_nil ?_
          refine r_done ?_
          refine s_keep [] (e' := []) rfl ?_
          refine k_blk_n ?_
          refine s_heap (fun _ h => Bun.fold ((by (repeat ((with_reducible apply Takes.cons); focus (first | (with_reducible (repeat (first | exact Take.here | apply Take.there)); done) | (repeat (first | exact Take.here | apply Take.there))))); exact Takes.nil : Takes _ [cells b5 0 [.int .i64 lv], cells b6 0 [.bool false], cells b7 0 [.slice wa Lz.length wc], own 2 encT wa wc (sl (fs Lz)), cells b9 0 [.int .i64 (((s + 1) : Nat) : Int)]] _) _ h)) ?_
          refine rr_n ((s + 1, none)) (by rfl) (by exact ⟨fun _ => ⟨rfl, trivial⟩, fun c hc => (by cases hc)⟩) (by with_reducible (repeat (first | exact Take.here | apply Take.there))) ?_
          (try simp only [List.cons_append, List.nil_append]); (repeat ((with_reducible apply Takes.cons); focus (first | (with_reducible (repeat (first | exact Take.here | apply Take.there)); done) | (repeat (first | exact Take.here | apply Take.there))))); (repeat (first | exact Takes.nil | exact Takes.self | refine takes_drop2 ?_))
        rintro ⟨k2, p2⟩ (⟨g1, g2, -⟩ | ⟨c, g1, g2⟩) blk_11
        try simp only [List.cons_append, List.nil_append]
        · skip
          simp only at g1 g2
          subst g1
          show Le _ _
          try simp only [List.cons_append, List.nil_append]
          refine s_take (A := Bun [cells b5 0 [.int .i64 lv], cells b6 0 [.bool false], cells b7 0 [.slice wa Lz.length wc], own 2 encT wa wc (sl (fs Lz)), cells b9 0 [.int .i64 ((k2 : Nat) : Int)]]) (by with_reducible (repeat (first | exact Take.here | apply Take.there))) ?_
          refine s_bun ?_
          try simp only [List.cons_append, List.nil_append]
          refine k_blk_n ?_
          refine k_then_n ?_
          refine c_seq ?_
          refine c_plain (.q 0 (.q 1 (.q 2 (.q 3 ((.l 4 [] (.done))))))) (by kernel_rfl) ?_
          refine q_load_c (j := 0) rfl rfl rfl rfl Try.isAgg3 (by with_reducible (repeat (first | exact Take.here | apply Take.there))) (by first | rfl | exact (Nat.add_zero _).symm) (by rfl) ?_
          refine q_load_c (j := 0) rfl rfl rfl rfl Try.isAgg49 (by with_reducible (repeat (first | exact Take.here | apply Take.there))) (by first | rfl | exact (Nat.add_zero _).symm) (by rfl) ?_
          refine q_len rfl rfl rfl rfl Try.underlying49 ?_
          refine q_int rfl rfl rfl rfl rfl (b_eql _ _ _ _) ?_
          refine s_eq 79 rfl (v' := .bool true) (by rw [decide_eq_true (by omega)]) ?_
          refine l_store (j := 0) rfl rfl rfl rfl Try.sizeOf4 (us := [_]) rfl rfl rfl (by with_reducible (repeat (first | exact Take.here | apply Take.there))) (by first | rfl | exact (Nat.add_zero _).symm) (by first | decide | (simp; done) | omega) ?_
          simp only [setL, List.set]
          refine ag_nil ?_
          refine r_done ?_
          refine s_keep [6] (e' := [(6, _)]) rfl ?_
          refine k_then_n ?_
          refine c_ret ?_
          refine rm_ret ?_
          refine rm_mark (blk := blk_11) (by with_reducible (repeat (first | exact Take.here | apply Take.there))) ?_
          refine rm_mark (blk := blk_3) (by with_reducible (repeat (first | exact Take.here | apply Take.there))) ?_
          refine rm_done (us := [_]) rfl ⟨rv_cell1 rfl Try.isAgg4 (by with_reducible (repeat (first | exact Take.here | apply Take.there))) (j := 0) rfl rfl, trivial⟩ (()) (by first | rfl | (first | rfl | (congr 1; done) | (congr 1 <;> first | rfl | omega | (simp; done) | (simp; omega)))) (by trivial) ?_
          (repeat ((with_reducible apply Takes.cons); focus (first | (with_reducible (repeat (first | exact Take.here | apply Take.there)); done) | (repeat (first | exact Take.here | apply Take.there))))); (repeat (first | exact Takes.nil | exact Takes.self | refine takes_drop2 ?_))
        · skip
          exact g2.elim
end Go.Ab.HpT
