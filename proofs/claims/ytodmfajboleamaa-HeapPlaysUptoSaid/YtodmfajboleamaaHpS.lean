/- The laws' helpers over heaps of things, and HeapStable: what its code answers. -/
import Derived.Test.YtodmfajboleamaaHpT
set_option linter.unusedVariables false
set_option linter.unusedSimpArgs false
set_option maxRecDepth 100000
namespace Go.Ab.HpT
open Go Go.Proofs Go.Ab
theorem less_spec (a b : Th) : Spec Try.prog 10 [vT a, vT b] [] (fun (_ : Unit) => .bool (decide (a.1 < b.1))) (fun _ => True) (fun _ => []) := by
  refine spec_mk (n := 10) Try.func10 rfl rfl rfl ?_
  intro Γ w0
  simp only [argE, List.cons_append, List.nil_append, Nat.zero_add, Nat.reduceAdd]
  refine c_seq ?_
  refine c_plain ((.l 0 [] ((.l 1 [] (.q 2 (.done)))))) (by kernel_rfl) ?_
  refine l_box rfl rfl rfl rfl (us := [_, _]) rfl ?_
  intro b1
  refine ag_nil ?_
  refine l_box rfl rfl rfl rfl (us := [_, _]) rfl ?_
  intro b2
  refine ag_nil ?_
  refine q_assign rfl rfl rfl rfl ?_
  refine r_done ?_
  refine k_then_n ?_
  refine c_seq ?_
  refine c_plain (.q 0 (.q 1 (.q 2 (.q 3 (.q 4 (.q 5 (.done))))))) (by kernel_rfl) ?_
  refine q_field (k := 0) rfl rfl rfl rfl Try.underlying28 rfl Try.sizeOf3 rfl ?_
  refine q_load_c rfl rfl rfl rfl Try.isAgg3 (by with_reducible (repeat (first | exact Take.here | apply Take.there))) (by first | rfl | exact (Nat.add_zero _).symm) (by rfl) ?_
  refine q_field (k := 0) rfl rfl rfl rfl Try.underlying28 rfl Try.sizeOf3 rfl ?_
  refine q_load_c rfl rfl rfl rfl Try.isAgg3 (by with_reducible (repeat (first | exact Take.here | apply Take.there))) (by first | rfl | exact (Nat.add_zero _).symm) (by rfl) ?_
  refine q_int rfl rfl rfl rfl rfl (b_lss _ _ _ _) ?_
  refine q_assign rfl rfl rfl rfl ?_
  refine r_done ?_
  refine s_keep [4] (e' := [(4, _)]) rfl ?_
  refine k_then_n ?_
  refine c_ret ?_
  refine ret1 rfl rfl (()) (by rfl) (by trivial) ?_
  (repeat (with_reducible apply Takes.cons; focus (with_reducible (repeat (first | exact Take.here | apply Take.there))))); (repeat (first | exact Takes.nil | exact Takes.self | refine takes_drop2 ?_))


/-- The order of the keys. -/
abbrev kl (a b : Th) : Bool := decide (a.1 < b.1)
theorem kl_ok : LessOk kl 10 [] [] where
  spec := fun x y => less_spec x y
  call := Try.call10
  ord := ⟨fun a b h => by simp [kl] at h ⊢; omega, fun a b c h => by simp [kl] at h ⊢; omega⟩
def encK (z : Int) : List Value := [.int .i64 z]
theorem encK_len : ∀ x, (encK x).length = 1 := fun _ => rfl
theorem encK_one : ∀ x, (encK x).all Value.oneCell' = true := fun _ => rfl
def encB (z : Bool) : List Value := [.bool z]
theorem encB_len : ∀ x, (encB x).length = 1 := fun _ => rfl
theorem encB_one : ∀ x, (encB x).all Value.oneCell' = true := fun _ => rfl
theorem hinv0 {lt : Th → Th → Bool} : HInv lt [] 0 := HInv.nil lt 0
theorem head0 {α : Type} {l : List α} {x : α} (h : l[0]? = some x) : l.head? = some x := by rw [List.head?_eq_getElem?]; exact h

theorem known_spec : Spec Try.prog 14 [] [] (fun (_ : Unit) => .bool true) (fun _ => True) (fun _ => []) := by
  refine spec_mk (n := 39) Try.func14 rfl rfl rfl ?_
  intro Γ w0
  simp only [argE, List.cons_append, List.nil_append, Nat.zero_add, Nat.reduceAdd]
  refine c_seq ?_
  refine c_plain (.q 0 (.done)) (by kernel_rfl) ?_
  refine q_assign rfl rfl rfl rfl ?_
  refine r_done ?_
  refine k_then_n ?_
  refine c_seq ?_
  refine c_plain ((.l 0 [] (.q 1 (.q 2 (.q 3 (.q 4 (.q 5 (.done)))))))) (by kernel_rfl) ?_
  refine l_call rfl rfl rfl rfl rfl rfl Try.call9 (new_spec (lk := 10) (fi := []) (ca := [])) (by (repeat (with_reducible apply Takes.cons; focus (with_reducible (repeat (first | exact Take.here | apply Take.there))))); exact Takes.nil) ?_
  rintro b -
  try simp only [List.cons_append, List.nil_append]
  refine ag_nil ?_
  refine q_move rfl rfl rfl rfl ?_
  refine q_extract rfl rfl rfl rfl rfl ?_
  refine q_extract rfl rfl rfl rfl rfl ?_
  refine q_assign rfl rfl rfl rfl ?_
  refine q_assign rfl rfl rfl rfl ?_
  refine r_done ?_
  refine s_keep [1, 2] (e' := [(1, _), (2, _)]) rfl ?_
  refine k_then_n ?_
  refine c_seq ?_
  refine c_seq ?_
  refine c_plain (.q 0 (.q 1 (.q 2 (.q 3 (.q 4 (.q 5 (.q 6 (.q 7 (.q 8 (.q 9 ((.l 10 [] ((.l 11 [] (.q 12 (.q 13 (.done))))))))))))))))) (by kernel_rfl) ?_
  refine q_move rfl rfl rfl rfl ?_
  refine q_eq_nil rfl rfl rfl rfl Try.underlying23 ?_
  refine q_move rfl rfl rfl rfl ?_
  refine q_move rfl rfl rfl rfl ?_
  refine q_int rfl rfl rfl rfl rfl (b_neq _ _ _ _) ?_
  first | refine q_pick_t rfl rfl rfl rfl rfl ?_ | refine q_pick_f rfl rfl rfl rfl rfl ?_
  refine s_eq 14 rfl (v' := .bool false) rfl ?_
  refine q_move rfl rfl rfl rfl ?_
  refine q_move rfl rfl rfl rfl ?_
  refine q_build rfl rfl rfl rfl (vs := [_, _]) (run_buildS Try.underlying28 Try.zeroValue28 (ps := [(0, 1), (1, 1)]) ⟨rfl, Try.sizeOf3, rfl, Try.sizeOf3, trivial⟩ rfl) ?_
  refine q_build rfl rfl rfl rfl (vs := [_, _]) (run_buildS Try.underlying28 Try.zeroValue28 (ps := [(0, 1), (1, 1)]) ⟨rfl, Try.sizeOf3, rfl, Try.sizeOf3, trivial⟩ rfl) ?_
  refine l_buildSlice rfl rfl rfl rfl (vs := [_, _, _, _]) (run_buildSl Try.underlying49 Try.sizeOf28 Try.zeroValue28 rfl rfl rfl rfl) ?_
  intro vb
  refine ag_nil ?_
  refine l_call rfl rfl rfl rfl rfl rfl Try.call11 (push_spec kl_ok b 0 [] 0 [((3 : Int), (0 : Int)), (1, 5)] _ 2 2 (cells vb 0 [.int .i64 3, .int .i64 0, .int .i64 1, .int .i64 5]) (rds_some rdn_cells) rfl hinv0 (by decide) (by decide)) (by (repeat (with_reducible apply Takes.cons; focus (with_reducible (repeat (first | exact Take.here | apply Take.there))))); exact Takes.nil) ?_
  rintro l ⟨hL, hpm⟩
  try simp only [List.cons_append, List.nil_append]
  refine ag_nil ?_
  refine q_int rfl rfl rfl rfl rfl (b_neq _ _ _ _) ?_
  refine s_eq 21 rfl (v' := .bool false) rfl ?_
  first | refine q_pick_t rfl rfl rfl rfl rfl ?_ | refine q_pick_f rfl rfl rfl rfl rfl ?_
  refine r_done ?_
  have hll : l.length = 2 := hpm.length_eq
  obtain ⟨x, hx⟩ := get_lt (l := l) (i := 0) (by omega)
  have hx15 : x = (((1 : Int), (5 : Int)), 1) := by
    have h1 := hinv_least kl_ok.ord hL (head0 hx)
    have h2 := hpm.mem_iff.1 (List.mem_of_getElem? hx)
    have h3 := h1 (((1 : Int), (5 : Int)), 1) (hpm.mem_iff.2 (by simp))
    simp at h2
    rcases h2 with rfl | rfl
    · simp [ltI, kl] at h3
    · rfl
  subst hx15
  refine s_keep [1, 22] (e' := [(1, _), (22, _)]) rfl ?_
  refine k_then_n ?_
  refine c_cond_f rfl ?_
  refine c_skip ?_
  refine k_then_n ?_
  refine c_seq ?_
  refine c_plain (.q 0 ((.l 1 [] (.q 2 (.q 3 (.q 4 ((.l 5 [] ((.l 6 [] (.q 7 (.done)))))))))))) (by kernel_rfl) ?_
  refine q_move rfl rfl rfl rfl ?_
  refine l_call rfl rfl rfl rfl rfl rfl Try.call12 (pop_spec kl_ok b 0 l _ hL (by omega)) (by (repeat (with_reducible apply Takes.cons; focus (with_reducible (repeat (first | exact Take.here | apply Take.there))))); exact Takes.nil) ?_
  rw [pk_some hx]
  rintro l2 ⟨hL2, hp2, -⟩
  try simp only [List.cons_append, List.nil_append]
  refine ag_nil ?_
  refine q_move rfl rfl rfl rfl ?_
  refine q_extract rfl rfl rfl rfl rfl ?_
  refine q_extract rfl rfl rfl rfl rfl ?_
  refine l_alloc rfl rfl rfl Try.zeroValue28 (zs := [.int .i64 0, .int .i64 0]) rfl ?_
  intro v3
  refine ag_nil ?_
  refine l_store rfl rfl rfl rfl Try.sizeOf28 (us := [_, _]) rfl rfl rfl (by with_reducible (repeat (first | exact Take.here | apply Take.there))) (by first | rfl | exact (Nat.add_zero _).symm) (by first | decide | (simp; done) | omega) ?_
  simp only [setL, List.set]
  refine ag_nil ?_
  refine q_assign rfl rfl rfl rfl ?_
  refine r_done ?_
  refine s_keep [1, 3, 4] (e' := [(1, _), (3, _), (4, _)]) rfl ?_
  refine k_then_n ?_
  refine c_seq ?_
  refine c_plain (.q 0 (.q 1 (.q 2 (.q 3 (.q 4 (.q 5 (.q 6 (.q 7 ((.l 8 [] (.q 9 (.q 10 (.q 11 (.done)))))))))))))) (by kernel_rfl) ?_
  refine q_move rfl rfl rfl rfl ?_
  refine q_move rfl rfl rfl rfl ?_
  refine q_loadN_c rfl rfl rfl rfl Try.isAgg28 Try.sizeOf28 (by with_reducible (repeat (first | exact Take.here | apply Take.there))) 0 (us := [_, _]) (by first | rfl | exact (Nat.add_zero _).symm) rfl rfl ?_
  refine q_build rfl rfl rfl rfl (vs := [_, _]) (run_buildS Try.underlying28 Try.zeroValue28 (ps := [(0, 1), (1, 1)]) ⟨rfl, Try.sizeOf3, rfl, Try.sizeOf3, trivial⟩ rfl) ?_
  refine q_eqS rfl rfl rfl rfl rfl (by kernel_rfl) (eqc_struct Try.underlying28 (by kernel_rfl) (eqf_cons rfl Try.isAgg3 rfl rfl (eqc_int Try.underlying3) (eqf_last rfl Try.isAgg3 rfl rfl (eqc_int Try.underlying3)))) ?_
  refine s_eq 32 rfl (v' := .bool true) rfl ?_
  first | refine q_pick_t rfl rfl rfl rfl rfl ?_ | refine q_pick_f rfl rfl rfl rfl rfl ?_
  refine q_move rfl rfl rfl rfl ?_
  refine q_move rfl rfl rfl rfl ?_
  refine l_call rfl rfl rfl rfl rfl rfl Try.call13 (len_spec (lk := 10) (fi := []) (ca := []) _ _ _ _) (by (repeat (with_reducible apply Takes.cons; focus (with_reducible (repeat (first | exact Take.here | apply Take.there))))); exact Takes.nil) ?_
  rintro ⟨⟩ -
  try simp only [List.cons_append, List.nil_append]
  refine ag_nil ?_
  refine q_int rfl rfl rfl rfl rfl (b_eql _ _ _ _) ?_
  refine s_eq 37 rfl (v' := .bool true) (by
    have := (hp2 _ (head0 hx)).length_eq
    rw [List.length_cons] at this
    congr 1; simp only [decide_eq_true_eq]; omega) ?_
  first | refine q_pick_t rfl rfl rfl rfl rfl ?_ | refine q_pick_f rfl rfl rfl rfl rfl ?_
  refine q_assign rfl rfl rfl rfl ?_
  refine r_done ?_
  refine s_keep [0] (e' := [(0, _)]) rfl ?_
  refine k_then_n ?_
  refine c_ret ?_
  refine ret1 rfl rfl (()) (by rfl) (by trivial) ?_
  (repeat (with_reducible apply Takes.cons; focus (with_reducible (repeat (first | exact Take.here | apply Take.there))))); (repeat (first | exact Takes.nil | exact Takes.self | refine takes_drop2 ?_))

/-- What the heap holds: each of the keys' things at most once, under its place. -/
def Own1 (ks : List Int) (l : List (Th × Nat)) : Prop := ∀ x ∈ l, x.1.2 = (x.2 : Int) ∧ ks[x.2]? = some x.1.1
theorem stable_next {ks : List Int} {l l2 : List (Th × Nat)} {x : Th × Nat} {made : Nat} (hL : HInv kl l made) (hO : Own1 ks l) (hx : l[0]? = some x) (p : (x :: l2).Perm l) : Own1 ks l2 ∧ x.2 ∉ l2.map (·.2) ∧ (∀ y ∈ l2, x.1.1 < y.1.1 ∨ (x.1.1 = y.1.1 ∧ x.1.2 < y.1.2)) := by
  have hn := (p.map (·.2)).nodup_iff.2 hL.nodup
  have hx' : x ∈ l := List.mem_of_getElem? hx
  refine ⟨fun y hy => hO y (p.mem_iff.1 (List.mem_cons_of_mem _ hy)), (List.nodup_cons.1 hn).1, fun y hy => ?_⟩
  have hyl : y ∈ l := p.mem_iff.1 (List.mem_cons_of_mem _ hy)
  have h1 := hinv_least kl_ok.ord hL (head0 hx) y hyl
  have h2 : x.2 ≠ y.2 := fun e => (List.nodup_cons.1 hn).1 (by show x.2 ∈ _; rw [e]; exact List.mem_map_of_mem hy)
  have h3 := (hO x hx').1
  have h4 := (hO y hyl).1
  simp only [ltI, kl, Bool.or_eq_false_iff, Bool.and_eq_false_iff, Bool.not_eq_false', decide_eq_false_iff_not, decide_eq_true_eq] at h1
  omega
theorem stable_push {ks : List Int} {l l2 : List (Th × Nat)} {i : Nat} {k : Int} (hO : Own1 ks l) (hk : ks[i]? = some k) (p : l2.Perm (l ++ [((k, (i : Int)), i)])) : Own1 ks l2 := by
  intro y hy
  rcases List.mem_append.1 (p.mem_iff.1 hy) with h | h
  · exact hO y h
  · simp at h; subst h; exact ⟨rfl, hk⟩

theorem stable_spec (ks : List Int) (bo : Option Addr) (m c : Nat) (A : HProp) (hr : RdS A bo (ks.flatMap encK)) (hm : ks.length = m) (hb : m ≤ 1048576) : Spec Try.prog 3 [.slice bo m c] [A] (fun (_ : Unit) => .bool true) (fun _ => True) (fun _ => [A]) := by
  refine spec_mk (n := 128) Try.func3 rfl rfl rfl ?_
  intro Γ w0
  simp only [argE, List.cons_append, List.nil_append, Nat.zero_add, Nat.reduceAdd]
  refine c_seq ?_
  refine c_plain (.q 0 (.done)) (by kernel_rfl) ?_
  refine q_assign rfl rfl rfl rfl ?_
  refine r_done ?_
  refine k_then_n ?_
  refine c_seq ?_
  refine c_plain ((.l 0 [] (.q 1 (.q 2 (.q 3 (.q 4 (.q 5 (.done)))))))) (by kernel_rfl) ?_
  refine l_call rfl rfl rfl rfl rfl rfl Try.call9 (new_spec (lk := 10) (fi := []) (ca := [])) (by (repeat (with_reducible apply Takes.cons; focus (with_reducible (repeat (first | exact Take.here | apply Take.there))))); exact Takes.nil) ?_
  rintro b -
  try simp only [List.cons_append, List.nil_append]
  refine ag_nil ?_
  refine q_move rfl rfl rfl rfl ?_
  refine q_extract rfl rfl rfl rfl rfl ?_
  refine q_extract rfl rfl rfl rfl rfl ?_
  refine q_assign rfl rfl rfl rfl ?_
  refine q_assign rfl rfl rfl rfl ?_
  refine r_done ?_
  refine s_keep [0, 3, 4] (e' := [(0, _), (3, _), (4, _)]) rfl ?_
  refine k_then_n ?_
  refine c_seq ?_
  refine c_seq ?_
  refine c_plain (.q 0 (.q 1 (.q 2 (.q 3 (.q 4 (.q 5 (.done))))))) (by kernel_rfl) ?_
  refine q_move rfl rfl rfl rfl ?_
  refine q_eq_nil rfl rfl rfl rfl Try.underlying23 ?_
  refine q_move rfl rfl rfl rfl ?_
  refine q_move rfl rfl rfl rfl ?_
  refine q_int rfl rfl rfl rfl rfl (b_neq _ _ _ _) ?_
  first | refine q_pick_t rfl rfl rfl rfl rfl ?_ | refine q_pick_f rfl rfl rfl rfl rfl ?_
  refine s_eq 22 rfl (v' := .bool false) rfl ?_
  refine r_done ?_
  refine s_keep [0, 3, 22] (e' := [(0, _), (3, _), (22, _)]) rfl ?_
  refine k_then_n ?_
  refine c_cond_f rfl ?_
  refine c_skip ?_
  refine k_then_n ?_
  refine c_seq ?_
  refine c_plain (.q 0 (.q 1 ((.l 2 [] (.q 3 (.done)))))) (by kernel_rfl) ?_
  refine q_move rfl rfl rfl rfl ?_
  refine q_len rfl rfl rfl rfl Try.underlying22 ?_
  refine l_make (sz := 1) (false) rfl rfl rfl rfl rfl (by rfl) (by rfl) Try.underlying30 Try.typeInfo4 rfl rfl rfl (by decide) (by omega) (by omega) (by show 1 * _ ≤ _; omega) (by rfl) (encB_len) ?_
  intro sb
  refine ag_nil ?_
  refine q_assign rfl rfl rfl rfl ?_
  refine r_done ?_
  refine s_keep [0, 3, 5] (e' := [(0, _), (3, _), (5, _)]) rfl ?_
  refine k_then_n ?_
  refine c_seq ?_
  refine c_seq ?_
  refine c_plain (.q 0 (.done)) (by kernel_rfl) ?_
  refine q_assign rfl rfl rfl rfl ?_
  refine r_done ?_
  refine k_then_n ?_
  refine c_block ?_
  refine s_eq 6 rfl (v' := .int .i64 ((0 : Nat) : Int)) rfl ?_
  refine c_loop2 (α := Nat × List (Th × Nat)) (fun (x_ : Nat × List (Th × Nat)) => match x_ with | (i, l) => i ≤ m ∧ HInv kl l i ∧ Own1 ks l ∧ l.length = i) (fun (x_ : Nat × List (Th × Nat)) => match x_ with | (i, l) => [(6, .int .i64 ((i : Nat) : Int))]) (fun (x_ : Nat × List (Th × Nat)) => match x_ with | (i, l) => [hp b 0 (lf 10 [] []) l i]) (fun (x_ : Nat × List (Th × Nat)) => match x_ with | (i, l) => m - i) [0, 3, 5] (er := [(0, _), (3, _), (5, _)]) rfl ((0, [])) ?_ (by exact ⟨rfl, trivial⟩) (by (try simp only [Nat.add_zero, Nat.zero_add]); (repeat (with_reducible apply Takes.cons; focus (with_reducible (repeat (first | exact Take.here | apply Take.there))))); exact Takes.nil) ?_
  · exact ⟨by omega, hinv0, fun _ h => (by cases h), rfl⟩
  rintro ⟨i, l⟩ ⟨hi, hL, hO, hll⟩
  try simp only [List.cons_append, List.nil_append]
  refine c_seq ?_
  refine c_seq ?_
  refine c_plain (.q 0 (.q 1 (.q 2 (.q 3 (.done))))) (by kernel_rfl) ?_
  refine q_move rfl rfl rfl rfl ?_
  refine q_move rfl rfl rfl rfl ?_
  refine q_len rfl rfl rfl rfl Try.underlying22 ?_
  refine q_int rfl rfl rfl rfl rfl (b_lss _ _ _ _) ?_
  refine r_done ?_
  refine k_then_n ?_
  refine c_cond_p rfl (fun hlt => ?_) (fun hlt => ?_)
  · skip
    have hlt : i < m := by omega
    obtain ⟨k, hk⟩ := get_lt (l := ks) (i := i) (by omega)
    obtain ⟨ka, ko, rfl, hrn⟩ := rds_get hr encK_len hk
    refine c_skip ?_
    refine k_then_n ?_
    refine c_seq ?_
    refine c_block ?_
    refine c_seq ?_
    refine c_plain (.q 0 (.q 1 (.q 2 (.q 3 (.q 4 (.q 5 (.q 6 ((.l 7 [] ((.l 8 [] (.q 9 (.done))))))))))))) (by kernel_rfl) ?_
    refine q_move rfl rfl rfl rfl ?_
    refine q_move rfl rfl rfl rfl ?_
    refine q_move rfl rfl rfl rfl ?_
    refine q_idx1 rfl rfl rfl rfl rfl Try.underlying22 Try.sizeOf3 (k := i) (by first | rfl | omega) (by omega) (by exact ⟨_, _, rfl⟩) ?_
    intro ib2 io3 hx; cases hx
    refine q_load rfl rfl rfl rfl Try.isAgg3 (by with_reducible (repeat (first | exact Take.here | apply Take.there))) (rd_flat1 hrn encK_len hk rfl) ?_
    refine q_move rfl rfl rfl rfl ?_
    refine q_build rfl rfl rfl rfl (vs := [_, _]) (run_buildS Try.underlying28 Try.zeroValue28 (ps := [(0, 1), (1, 1)]) ⟨rfl, Try.sizeOf3, rfl, Try.sizeOf3, trivial⟩ rfl) ?_
    refine l_buildSlice rfl rfl rfl rfl (run_build1 (us := [_, _]) Try.underlying49 Try.sizeOf28 rfl Try.zeroValue28 rfl rfl rfl) ?_
    intro vb
    refine ag_nil ?_
    refine l_call rfl rfl rfl rfl rfl rfl Try.call11 (push_spec kl_ok b 0 l i [(k, (i : Int))] _ 1 1 (cells vb 0 [.int .i64 k, .int .i64 (i : Int)]) (rds_some rdn_cells) rfl hL (by omega) (by omega)) (by (repeat (with_reducible apply Takes.cons; focus (with_reducible (repeat (first | exact Take.here | apply Take.there))))); exact Takes.nil) ?_
    rintro l2 ⟨hL2, hp2⟩
    try simp only [List.cons_append, List.nil_append]
    refine ag_nil ?_
    refine q_int rfl rfl rfl rfl rfl (b_neq _ _ _ _) ?_
    refine s_eq 41 rfl (v' := .bool false) rfl ?_
    refine r_done ?_
    refine s_keep [0, 3, 5, 6, 41] (e' := [(0, _), (3, _), (5, _), (6, _), (41, _)]) rfl ?_
    refine k_then_n ?_
    refine c_cond_f rfl ?_
    refine c_skip ?_
    refine k_blk_n ?_
    refine k_then_n ?_
    refine c_plain (.q 0 (.q 1 (.q 2 (.done)))) (by kernel_rfl) ?_
    refine q_move rfl rfl rfl rfl ?_
    refine q_int rfl rfl rfl rfl rfl (b_add' _ (by (first | exact fits_i64 (by omega) (by omega) | exact fits_u64 (by omega) (by omega) | exact fits_u32 (by omega) (by omega) | exact fits_u8 (by omega) (by omega)))) ?_
    refine q_assign rfl rfl rfl rfl ?_
    refine r_done ?_
    refine k_then_n ?_
    refine loop_next (x := (i, l)) ((i + 1, l2)) ?_ ?_ ?_ ?_
    · exact ⟨by omega, hL2, stable_push hO hk hp2, by have := hp2.length_eq; rw [List.length_append, List.length_zipIdx, List.length_singleton] at this; show l2.length = i + 1; omega⟩
    · show _ < _; omega
    · exact ⟨rfl, rfl, rfl, rfl, trivial⟩
    · (try simp only [List.cons_append, List.nil_append]); (repeat (with_reducible apply Takes.cons; focus (with_reducible (repeat (first | exact Take.here | apply Take.there))))); (repeat (first | exact Takes.nil | exact Takes.self | refine takes_drop2 ?_))
  · skip
    obtain rfl : i = m := by omega
    refine c_exit ?_
    refine k_then_exit ?_
    refine k_then_exit ?_
    refine k_blk_here ?_
    refine k_then_n ?_
    refine c_seq ?_
    refine c_plain (.q 0 ((.l 1 [] ((.l 2 [] (.done)))))) (by kernel_rfl) ?_
    refine q_build rfl rfl rfl rfl (vs := [_, _]) (run_buildS Try.underlying28 Try.zeroValue28 (ps := [(0, 1), (1, 1)]) ⟨rfl, Try.sizeOf3, rfl, Try.sizeOf3, trivial⟩ rfl) ?_
    refine l_alloc rfl rfl rfl Try.zeroValue28 (zs := [.int .i64 0, .int .i64 0]) rfl ?_
    intro lb
    refine ag_nil ?_
    refine l_store rfl rfl rfl rfl Try.sizeOf28 (us := [_, _]) rfl rfl rfl (by with_reducible (repeat (first | exact Take.here | apply Take.there))) (by first | rfl | exact (Nat.add_zero _).symm) (by first | decide | (simp; done) | omega) ?_
    simp only [setL, List.set]
    refine ag_nil ?_
    refine r_done ?_
    refine s_keep [0, 3, 5, 7] (e' := [(0, _), (3, _), (5, _), (7, _)]) rfl ?_
    refine k_then_n ?_
    refine c_seq ?_
    refine c_seq ?_
    refine c_plain (.q 0 (.done)) (by kernel_rfl) ?_
    refine q_assign rfl rfl rfl rfl ?_
    refine r_done ?_
    refine k_then_n ?_
    refine c_block ?_
    refine s_eq 8 rfl (v' := .int .i64 ((0 : Nat) : Int)) rfl ?_
    refine c_loop2 (α := Nat × List (Th × Nat) × List Bool × Th) (fun (x_ : Nat × List (Th × Nat) × List Bool × Th) => match x_ with | (j, l, sn, p) => j ≤ i ∧ HInv kl l i ∧ Own1 ks l ∧ l.length = i - j ∧ sn.length = i ∧ (∀ x ∈ l, sn[x.2]? = some false) ∧ (0 < j → ∀ y ∈ l, p.1 < y.1.1 ∨ (p.1 = y.1.1 ∧ p.2 < y.1.2))) (fun (x_ : Nat × List (Th × Nat) × List Bool × Th) => match x_ with | (j, l, sn, p) => [(8, .int .i64 ((j : Nat) : Int))]) (fun (x_ : Nat × List (Th × Nat) × List Bool × Th) => match x_ with | (j, l, sn, p) => [hp b 0 (lf 10 [] []) l i, own 1 encB (some ⟨sb, 0, none⟩) i sn, cells lb 0 [.int .i64 p.1, .int .i64 p.2]]) (fun (x_ : Nat × List (Th × Nat) × List Bool × Th) => match x_ with | (j, l, sn, p) => i - j) [0, 3, 5, 7] (er := [(0, _), (3, _), (5, _), (7, _)]) rfl ((0, l, List.replicate i false, (0, 0))) ?_ (by exact ⟨rfl, trivial⟩) (by (try simp only [Nat.add_zero, Nat.zero_add]); (repeat (with_reducible apply Takes.cons; focus (with_reducible (repeat (first | exact Take.here | apply Take.there))))); exact Takes.nil) ?_
    · exact ⟨by omega, hL, hO, by omega, by simp, fun x hx => (by have := hL.below x hx; simp [this]), fun h => absurd h (Nat.lt_irrefl 0)⟩
    rintro ⟨j, l, sn, p⟩ ⟨hj, hL, hO, hll, hsl, hsn, hpl⟩
    try simp only [List.cons_append, List.nil_append]
    refine c_seq ?_
    refine c_seq ?_
    refine c_plain (.q 0 (.q 1 (.q 2 (.q 3 (.done))))) (by kernel_rfl) ?_
    refine q_move rfl rfl rfl rfl ?_
    refine q_move rfl rfl rfl rfl ?_
    refine q_len rfl rfl rfl rfl Try.underlying22 ?_
    refine q_int rfl rfl rfl rfl rfl (b_lss _ _ _ _) ?_
    refine r_done ?_
    refine k_then_n ?_
    refine c_cond_p rfl (fun hjt => ?_) (fun hjt => ?_)
    · skip
      obtain ⟨x, hx⟩ := get_lt (l := l) (i := 0) (by omega)
      have hxm : x ∈ l := List.mem_of_getElem? hx
      have hxo := hO x hxm
      have hxb := hL.below x hxm
      obtain ⟨ka, ko, rfl, hrn⟩ := rds_get hr encK_len hxo.2
      refine c_skip ?_
      refine k_then_n ?_
      refine c_seq ?_
      refine c_block ?_
      refine c_seq ?_
      refine c_plain (.q 0 ((.l 1 [] (.q 2 (.q 3 (.q 4 ((.l 5 [] ((.l 6 [] (.q 7 (.done)))))))))))) (by kernel_rfl) ?_
      refine q_move rfl rfl rfl rfl ?_
      refine l_call rfl rfl rfl rfl rfl rfl Try.call12 (pop_spec kl_ok b 0 l _ hL (by omega)) (by (repeat (with_reducible apply Takes.cons; focus (with_reducible (repeat (first | exact Take.here | apply Take.there))))); exact Takes.nil) ?_
      rw [pk_some hx]
      rintro l2 ⟨hL2, hp2, -⟩
      try simp only [List.cons_append, List.nil_append]
      refine ag_nil ?_
      refine q_move rfl rfl rfl rfl ?_
      refine q_extract rfl rfl rfl rfl rfl ?_
      refine q_extract rfl rfl rfl rfl rfl ?_
      refine l_alloc rfl rfl rfl Try.zeroValue28 (zs := [.int .i64 0, .int .i64 0]) rfl ?_
      intro v9
      refine ag_nil ?_
      refine l_store rfl rfl rfl rfl Try.sizeOf28 (us := [_, _]) rfl rfl rfl (by with_reducible (repeat (first | exact Take.here | apply Take.there))) (by first | rfl | exact (Nat.add_zero _).symm) (by first | decide | (simp; done) | omega) ?_
      simp only [setL, List.set]
      refine ag_nil ?_
      refine q_assign rfl rfl rfl rfl ?_
      refine r_done ?_
      have hp3 := hp2 _ (head0 hx)
      obtain ⟨hO2, hn2, hlt2⟩ := stable_next hL hO hx hp3
      have hll2 := hp3.length_eq
      rw [List.length_cons] at hll2
      refine s_keep [0, 3, 5, 7, 8, 9, 10] (e' := [(0, _), (3, _), (5, _), (7, _), (8, _), (9, _), (10, _)]) rfl ?_
      refine k_then_n ?_
      refine c_seq ?_
      refine c_seq ?_
      refine c_draw rfl (.q 0 (.q 1 (.q 2 (.q 3 (.q 4 (.q 5 (.q 6 (.q 7 (.q 8 (.q 9 (.q 10 (.q 11 (.q 12 (.q 13 (.q 14 (.q 15 (.q 16 (.q 17 (.q 18 (.q 19 (.q 20 (.q 21 (.q 22 (.q 23 (.q 24 (.q 25 (.q 26 (.q 27 (.q 28 (.q 29 (.q 30 (.done)))))))))))))))))))))))))))))))) (by kernel_rfl) ?_
      refine q_move rfl rfl rfl rfl ?_
      refine q_not rfl rfl rfl rfl ?_
      refine s_eq 55 rfl (v' := .bool false) rfl ?_
      refine q_move rfl rfl rfl rfl ?_
      refine q_field (k := 1) rfl rfl rfl rfl Try.underlying28 rfl Try.sizeOf3 rfl ?_
      refine q_load_c rfl rfl rfl rfl Try.isAgg3 (by with_reducible (repeat (first | exact Take.here | apply Take.there))) (by first | rfl | exact (Nat.add_zero _).symm) (by rfl) ?_
      refine q_int rfl rfl rfl rfl rfl (b_lss _ _ _ _) ?_
      refine s_eq 59 rfl (v' := .bool false) (by congr 1; simp only [decide_eq_false_iff_not]; omega) ?_
      first | refine q_pick_t rfl rfl rfl rfl rfl ?_ | refine q_pick_f rfl rfl rfl rfl rfl ?_
      refine q_move rfl rfl rfl rfl ?_
      refine q_field (k := 1) rfl rfl rfl rfl Try.underlying28 rfl Try.sizeOf3 rfl ?_
      refine q_load_c rfl rfl rfl rfl Try.isAgg3 (by with_reducible (repeat (first | exact Take.here | apply Take.there))) (by first | rfl | exact (Nat.add_zero _).symm) (by rfl) ?_
      refine q_move rfl rfl rfl rfl ?_
      refine q_len rfl rfl rfl rfl Try.underlying22 ?_
      refine q_int rfl rfl rfl rfl rfl (b_geq _ _ _ _) ?_
      refine s_eq 66 rfl (v' := .bool false) (by congr 1; simp only [decide_eq_false_iff_not]; omega) ?_
      first | refine q_pick_t rfl rfl rfl rfl rfl ?_ | refine q_pick_f rfl rfl rfl rfl rfl ?_
      refine q_move rfl rfl rfl rfl ?_
      refine q_move rfl rfl rfl rfl ?_
      refine q_field (k := 1) rfl rfl rfl rfl Try.underlying28 rfl Try.sizeOf3 rfl ?_
      refine q_load_c rfl rfl rfl rfl Try.isAgg3 (by with_reducible (repeat (first | exact Take.here | apply Take.there))) (by first | rfl | exact (Nat.add_zero _).symm) (by rfl) ?_
      refine q_idx1 rfl rfl rfl rfl rfl Try.underlying30 Try.sizeOf4 (k := x.2) (by exact hxo.1) (by omega) (by exact ⟨_, _, rfl⟩) ?_
      intro ib7 io8 hx; cases hx
      refine q_load_o1 rfl rfl rfl rfl Try.isAgg4 (by with_reducible (repeat (first | exact Take.here | apply Take.there))) (encB_len) (by first | rfl | exact (Nat.add_zero _).symm) (by exact hsn x hxm) (by rfl) ?_
      first | refine q_pick_t rfl rfl rfl rfl rfl ?_ | refine q_pick_f rfl rfl rfl rfl rfl ?_
      refine q_move rfl rfl rfl rfl ?_
      refine q_move rfl rfl rfl rfl ?_
      refine q_field (k := 1) rfl rfl rfl rfl Try.underlying28 rfl Try.sizeOf3 rfl ?_
      refine q_load_c rfl rfl rfl rfl Try.isAgg3 (by with_reducible (repeat (first | exact Take.here | apply Take.there))) (by first | rfl | exact (Nat.add_zero _).symm) (by rfl) ?_
      refine q_idx1 rfl rfl rfl rfl rfl Try.underlying22 Try.sizeOf3 (k := x.2) (by exact hxo.1) (by omega) (by exact ⟨_, _, rfl⟩) ?_
      intro ib9 io10 hx; cases hx
      refine q_load rfl rfl rfl rfl Try.isAgg3 (by with_reducible (repeat (first | exact Take.here | apply Take.there))) (rd_flat1 hrn encK_len hxo.2 rfl) ?_
      refine q_field (k := 0) rfl rfl rfl rfl Try.underlying28 rfl Try.sizeOf3 rfl ?_
      refine q_load_c rfl rfl rfl rfl Try.isAgg3 (by with_reducible (repeat (first | exact Take.here | apply Take.there))) (by first | rfl | exact (Nat.add_zero _).symm) (by rfl) ?_
      refine q_int rfl rfl rfl rfl rfl (b_neq _ _ _ _) ?_
      refine s_eq 83 rfl (v' := .bool false) (by congr 1; simp) ?_
      first | refine q_pick_t rfl rfl rfl rfl rfl ?_ | refine q_pick_f rfl rfl rfl rfl rfl ?_
      refine r_done ?_
      refine s_keep [0, 3, 5, 7, 8, 9, 57, 58, 59, 62, 63, 64, 65, 66, 69, 70, 71, 72, 73, 76, 77, 78, 79, 80, 81, 82, 83, 84] (e' := [(0, _), (3, _), (5, _), (7, _), (8, _), (9, _), (57, _), (58, _), (59, _), (62, _), (63, _), (64, _), (65, _), (66, _), (69, _), (70, _), (71, _), (72, _), (73, _), (76, _), (77, _), (78, _), (79, _), (80, _), (81, _), (82, _), (83, _), (84, _)]) rfl ?_
      refine k_then_n ?_
      refine c_cond_f rfl ?_
      refine c_skip ?_
      refine k_then_n ?_
      refine c_seq ?_
      refine c_plain (.q 0 (.q 1 (.q 2 (.q 3 ((.l 4 [] (.done))))))) (by kernel_rfl) ?_
      refine q_move rfl rfl rfl rfl ?_
      refine q_field (k := 1) rfl rfl rfl rfl Try.underlying28 rfl Try.sizeOf3 rfl ?_
      refine q_load_c rfl rfl rfl rfl Try.isAgg3 (by with_reducible (repeat (first | exact Take.here | apply Take.there))) (by first | rfl | exact (Nat.add_zero _).symm) (by rfl) ?_
      refine q_idx1 rfl rfl rfl rfl rfl Try.underlying30 Try.sizeOf4 (k := x.2) (by exact hxo.1) (by omega) (by exact ⟨_, _, rfl⟩) ?_
      intro ib11 io12 hx; cases hx
      refine l_storeO rfl rfl rfl rfl Try.sizeOf4 (us := [_]) rfl rfl rfl (encB_len) (by with_reducible (repeat (first | exact Take.here | apply Take.there))) (j := 0) (by omega) (by exact hsn x hxm) (by first | decide | exact Nat.le_of_ble_eq_true rfl) (q := true) (by rfl) (k := x.2) ?_
      refine ag_nil ?_
      refine r_done ?_
      refine s_keep [0, 3, 5, 7, 8, 9, 57, 58, 59, 62, 63, 64, 65, 66, 69, 70, 71, 72, 73, 76, 77, 78, 79, 80, 81, 82, 83] (e' := [(0, _), (3, _), (5, _), (7, _), (8, _), (9, _), (57, _), (58, _), (59, _), (62, _), (63, _), (64, _), (65, _), (66, _), (69, _), (70, _), (71, _), (72, _), (73, _), (76, _), (77, _), (78, _), (79, _), (80, _), (81, _), (82, _), (83, _)]) rfl ?_
      refine k_then_n ?_
      refine c_seq ?_
      refine c_seq ?_
      refine c_plain (.q 0 (.q 1 (.q 2 (.q 3 (.q 4 (.q 5 (.q 6 (.q 7 (.q 8 (.q 9 (.q 10 (.q 11 (.q 12 (.q 13 (.q 14 (.q 15 (.q 16 (.q 17 (.q 18 (.q 19 (.q 20 (.q 21 (.q 22 (.done)))))))))))))))))))))))) (by kernel_rfl) ?_
      refine rt_res 111 (.bool false) ?_ ?_
      · skip
        refine q_move rfl rfl rfl rfl ?_
        refine q_int rfl rfl rfl rfl rfl (b_gtr _ _ _ _) ?_
        refine q_move rfl rfl rfl rfl ?_
        refine s_bool_p 91 rfl (fun hj0 => ?_) (fun hj0 => ?_)
        · skip
          have hpx := hpl (by omega) x hxm
          refine q_field (k := 0) rfl rfl rfl rfl Try.underlying28 rfl Try.sizeOf3 rfl ?_
          refine q_load_c rfl rfl rfl rfl Try.isAgg3 (by with_reducible (repeat (first | exact Take.here | apply Take.there))) (by first | rfl | exact (Nat.add_zero _).symm) (by rfl) ?_
          refine q_field (k := 0) rfl rfl rfl rfl Try.underlying28 rfl Try.sizeOf3 rfl ?_
          refine q_load_c rfl rfl rfl rfl Try.isAgg3 (by with_reducible (repeat (first | exact Take.here | apply Take.there))) (by first | rfl | exact (Nat.add_zero _).symm) (by rfl) ?_
          refine q_int rfl rfl rfl rfl rfl (b_lss _ _ _ _) ?_
          refine s_eq 96 rfl (v' := .bool false) (by congr 1; simp only [decide_eq_false_iff_not]; omega) ?_
          refine q_move rfl rfl rfl rfl ?_
          refine q_field (k := 0) rfl rfl rfl rfl Try.underlying28 rfl Try.sizeOf3 rfl ?_
          refine q_load_c rfl rfl rfl rfl Try.isAgg3 (by with_reducible (repeat (first | exact Take.here | apply Take.there))) (by first | rfl | exact (Nat.add_zero _).symm) (by rfl) ?_
          refine q_field (k := 0) rfl rfl rfl rfl Try.underlying28 rfl Try.sizeOf3 rfl ?_
          refine q_load_c rfl rfl rfl rfl Try.isAgg3 (by with_reducible (repeat (first | exact Take.here | apply Take.there))) (by first | rfl | exact (Nat.add_zero _).symm) (by rfl) ?_
          refine q_int rfl rfl rfl rfl rfl (b_eql _ _ _ _) ?_
          refine q_move rfl rfl rfl rfl ?_
          refine s_bool_p 103 rfl (fun hpe => ?_) (fun hpe => ?_)
          · skip
            refine q_field (k := 1) rfl rfl rfl rfl Try.underlying28 rfl Try.sizeOf3 rfl ?_
            refine q_load_c rfl rfl rfl rfl Try.isAgg3 (by with_reducible (repeat (first | exact Take.here | apply Take.there))) (by first | rfl | exact (Nat.add_zero _).symm) (by rfl) ?_
            refine q_field (k := 1) rfl rfl rfl rfl Try.underlying28 rfl Try.sizeOf3 rfl ?_
            refine q_load_c rfl rfl rfl rfl Try.isAgg3 (by with_reducible (repeat (first | exact Take.here | apply Take.there))) (by first | rfl | exact (Nat.add_zero _).symm) (by rfl) ?_
            refine q_int rfl rfl rfl rfl rfl (b_lss _ _ _ _) ?_
            refine s_eq 108 rfl (v' := .bool false) (by congr 1; simp only [decide_eq_false_iff_not]; omega) ?_
            first | refine q_pick_t rfl rfl rfl rfl rfl ?_ | refine q_pick_f rfl rfl rfl rfl rfl ?_
            first | refine q_pick_t rfl rfl rfl rfl rfl ?_ | refine q_pick_f rfl rfl rfl rfl rfl ?_
            first | refine q_pick_t rfl rfl rfl rfl rfl ?_ | refine q_pick_f rfl rfl rfl rfl rfl ?_
            refine r_done ?_
            refine le_st (by exact ⟨rfl, rfl, rfl, rfl, rfl, rfl, rfl, rfl, rfl, rfl, rfl, rfl, rfl, rfl, rfl, rfl, rfl, rfl, rfl, rfl, rfl, rfl, rfl, rfl, rfl, rfl, rfl, rfl, trivial⟩) ?_
            (repeat (with_reducible apply Takes.cons; focus (with_reducible (repeat (first | exact Take.here | apply Take.there))))); (repeat (first | exact Takes.nil | exact Takes.self | refine takes_drop2 ?_))
          · skip
            refine q_skip rfl rfl rfl rfl ?_
            refine q_skip rfl rfl rfl rfl ?_
            refine q_skip rfl rfl rfl rfl ?_
            refine q_skip rfl rfl rfl rfl ?_
            refine q_skip rfl rfl rfl rfl ?_
            first | refine q_pick_t rfl rfl rfl rfl rfl ?_ | refine q_pick_f rfl rfl rfl rfl rfl ?_
            first | refine q_pick_t rfl rfl rfl rfl rfl ?_ | refine q_pick_f rfl rfl rfl rfl rfl ?_
            first | refine q_pick_t rfl rfl rfl rfl rfl ?_ | refine q_pick_f rfl rfl rfl rfl rfl ?_
            refine r_done ?_
            refine le_st (by exact ⟨rfl, rfl, rfl, rfl, rfl, rfl, rfl, rfl, rfl, rfl, rfl, rfl, rfl, rfl, rfl, rfl, rfl, rfl, rfl, rfl, rfl, rfl, rfl, rfl, rfl, rfl, rfl, rfl, trivial⟩) ?_
            (repeat (with_reducible apply Takes.cons; focus (with_reducible (repeat (first | exact Take.here | apply Take.there))))); (repeat (first | exact Takes.nil | exact Takes.self | refine takes_drop2 ?_))
        · skip
          refine q_skip rfl rfl rfl rfl ?_
          refine q_skip rfl rfl rfl rfl ?_
          refine q_skip rfl rfl rfl rfl ?_
          refine q_skip rfl rfl rfl rfl ?_
          refine q_skip rfl rfl rfl rfl ?_
          refine q_skip rfl rfl rfl rfl ?_
          refine q_skip rfl rfl rfl rfl ?_
          refine q_skip rfl rfl rfl rfl ?_
          refine q_skip rfl rfl rfl rfl ?_
          refine q_skip rfl rfl rfl rfl ?_
          refine q_skip rfl rfl rfl rfl ?_
          refine q_skip rfl rfl rfl rfl ?_
          refine q_skip rfl rfl rfl rfl ?_
          refine q_skip rfl rfl rfl rfl ?_
          refine q_skip rfl rfl rfl rfl ?_
          refine q_skip rfl rfl rfl rfl ?_
          refine q_skip rfl rfl rfl rfl ?_
          refine q_skip rfl rfl rfl rfl ?_
          refine q_skip rfl rfl rfl rfl ?_
          first | refine q_pick_t rfl rfl rfl rfl rfl ?_ | refine q_pick_f rfl rfl rfl rfl rfl ?_
          refine r_done ?_
          refine le_st (by exact ⟨rfl, rfl, rfl, rfl, rfl, rfl, rfl, rfl, rfl, rfl, rfl, rfl, rfl, rfl, rfl, rfl, rfl, rfl, rfl, rfl, rfl, rfl, rfl, rfl, rfl, rfl, rfl, rfl, trivial⟩) ?_
          (repeat (with_reducible apply Takes.cons; focus (with_reducible (repeat (first | exact Take.here | apply Take.there))))); (repeat (first | exact Takes.nil | exact Takes.self | refine takes_drop2 ?_))
      refine k_then_n ?_
      refine c_cond_f rfl ?_
      refine c_skip ?_
      refine k_then_n ?_
      refine c_plain (.q 0 ((.l 1 [] (.done)))) (by kernel_rfl) ?_
      refine q_loadN_c rfl rfl rfl rfl Try.isAgg28 Try.sizeOf28 (by with_reducible (repeat (first | exact Take.here | apply Take.there))) 0 (us := [_, _]) (by first | rfl | exact (Nat.add_zero _).symm) rfl rfl ?_
      refine l_store rfl rfl rfl rfl Try.sizeOf28 (us := [_, _]) rfl rfl rfl (by with_reducible (repeat (first | exact Take.here | apply Take.there))) (by first | rfl | exact (Nat.add_zero _).symm) (by first | decide | (simp; done) | omega) ?_
      simp only [setL, List.set]
      refine ag_nil ?_
      refine r_done ?_
      refine k_blk_n ?_
      refine k_then_n ?_
      refine c_plain (.q 0 (.q 1 (.q 2 (.done)))) (by kernel_rfl) ?_
      refine q_move rfl rfl rfl rfl ?_
      refine q_int rfl rfl rfl rfl rfl (b_add' _ (by (first | exact fits_i64 (by omega) (by omega) | exact fits_u64 (by omega) (by omega) | exact fits_u32 (by omega) (by omega) | exact fits_u8 (by omega) (by omega)))) ?_
      refine q_assign rfl rfl rfl rfl ?_
      refine r_done ?_
      refine s_keep [0, 3, 5, 7, 8, 57, 58, 59, 62, 63, 64, 65, 66, 69, 70, 71, 72, 73, 76, 77, 78, 79, 80, 81, 82, 83] (e' := [(0, _), (3, _), (5, _), (7, _), (8, _), (57, _), (58, _), (59, _), (62, _), (63, _), (64, _), (65, _), (66, _), (69, _), (70, _), (71, _), (72, _), (73, _), (76, _), (77, _), (78, _), (79, _), (80, _), (81, _), (82, _), (83, _)]) rfl ?_
      refine k_then_n ?_
      refine loop_next (x := (j, l, sn, p)) ((j + 1, l2, sn.set x.2 true, x.1)) ?_ ?_ ?_ ?_
      · exact ⟨by omega, hL2, hO2, by show l2.length = i - (j + 1); omega, by rw [List.length_set]; exact hsl, fun y hy => (by rw [List.getElem?_set_ne (fun e => hn2 (by rw [e]; exact List.mem_map_of_mem hy))]; exact hsn y (hp3.mem_iff.1 (List.mem_cons_of_mem _ hy))), fun _ => hlt2⟩
      · show _ < _; omega
      · exact ⟨rfl, rfl, rfl, rfl, rfl, trivial⟩
      · (try simp only [List.cons_append, List.nil_append]); (repeat (with_reducible apply Takes.cons; focus (with_reducible (repeat (first | exact Take.here | apply Take.there))))); (repeat (first | exact Takes.nil | exact Takes.self | refine takes_drop2 ?_))
    · skip
      obtain rfl : l = [] := List.eq_nil_of_length_eq_zero (by omega)
      refine c_exit ?_
      refine k_then_exit ?_
      refine k_then_exit ?_
      refine k_blk_here ?_
      refine k_then_n ?_
      refine c_seq ?_
      refine c_plain (.q 0 ((.l 1 [] (.q 2 (.q 3 (.q 4 ((.l 5 [] ((.l 6 [] (.q 7 (.done)))))))))))) (by kernel_rfl) ?_
      refine q_move rfl rfl rfl rfl ?_
      refine l_call rfl rfl rfl rfl rfl rfl Try.call12 (pop_spec kl_ok b 0 [] _ hL (by simp)) (by (repeat (with_reducible apply Takes.cons; focus (with_reducible (repeat (first | exact Take.here | apply Take.there))))); exact Takes.nil) ?_
      rw [pk_nil]
      rintro l2 ⟨hL2, -, hn3⟩
      obtain rfl := hn3 rfl
      try simp only [List.cons_append, List.nil_append]
      refine ag_nil ?_
      refine q_move rfl rfl rfl rfl ?_
      refine q_extract rfl rfl rfl rfl rfl ?_
      refine q_extract rfl rfl rfl rfl rfl ?_
      refine l_alloc rfl rfl rfl Try.zeroValue28 (zs := [.int .i64 0, .int .i64 0]) rfl ?_
      intro v11
      refine ag_nil ?_
      refine l_store rfl rfl rfl rfl Try.sizeOf28 (us := [_, _]) rfl rfl rfl (by with_reducible (repeat (first | exact Take.here | apply Take.there))) (by first | rfl | exact (Nat.add_zero _).symm) (by first | decide | (simp; done) | omega) ?_
      simp only [setL, List.set]
      refine ag_nil ?_
      refine q_assign rfl rfl rfl rfl ?_
      refine r_done ?_
      refine s_keep [3, 12] (e' := [(3, _), (12, _)]) rfl ?_
      refine k_then_n ?_
      refine c_seq ?_
      refine c_plain (.q 0 (.q 1 (.q 2 (.q 3 ((.l 4 [] (.q 5 (.q 6 (.q 7 ((.l 8 [] (.q 9 (.q 10 (.done)))))))))))))) (by kernel_rfl) ?_
      refine q_move rfl rfl rfl rfl ?_
      refine q_not rfl rfl rfl rfl ?_
      refine s_eq 119 rfl (v' := .bool true) rfl ?_
      refine q_move rfl rfl rfl rfl ?_
      refine q_move rfl rfl rfl rfl ?_
      refine l_call rfl rfl rfl rfl rfl rfl Try.call13 (len_spec (lk := 10) (fi := []) (ca := []) _ _ _ _) (by (repeat (with_reducible apply Takes.cons; focus (with_reducible (repeat (first | exact Take.here | apply Take.there))))); exact Takes.nil) ?_
      rintro ⟨⟩ -
      try simp only [List.cons_append, List.nil_append]
      refine ag_nil ?_
      refine q_int rfl rfl rfl rfl rfl (b_eql _ _ _ _) ?_
      refine s_eq 123 rfl (v' := .bool true) rfl ?_
      first | refine q_pick_t rfl rfl rfl rfl rfl ?_ | refine q_pick_f rfl rfl rfl rfl rfl ?_
      refine q_move rfl rfl rfl rfl ?_
      refine l_call rfl rfl rfl rfl rfl rfl Try.call14 (known_spec) (by (repeat (with_reducible apply Takes.cons; focus (with_reducible (repeat (first | exact Take.here | apply Take.there))))); exact Takes.nil) ?_
      rintro ⟨⟩ -
      try simp only [List.cons_append, List.nil_append]
      refine ag_nil ?_
      first | refine q_pick_t rfl rfl rfl rfl rfl ?_ | refine q_pick_f rfl rfl rfl rfl rfl ?_
      refine q_assign rfl rfl rfl rfl ?_
      refine r_done ?_
      refine s_keep [2] (e' := [(2, _)]) rfl ?_
      refine k_then_n ?_
      refine c_ret ?_
      refine ret1 rfl rfl (()) (by rfl) (by trivial) ?_
      (repeat (with_reducible apply Takes.cons; focus (with_reducible (repeat (first | exact Take.here | apply Take.there))))); (repeat (first | exact Takes.nil | exact Takes.self | refine takes_drop2 ?_))
end Go.Ab.HpT
