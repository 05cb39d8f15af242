/- HeapTexts: what its code answers. -/
import Derived.Test.YtodmfajboleamaaHpX
set_option linter.unusedVariables false
set_option linter.unusedSimpArgs false
set_option maxRecDepth 100000
namespace Go.Ab.HpX
open Go Go.Proofs Go.Ab
theorem less_spec (a b : Th) : Spec Try.prog 16 [vT a, vT b] [] (fun (_ : Unit) => .bool (Op.bytesLess a.toList b.toList)) (fun _ => True) (fun _ => []) := by
  refine spec_mk (n := 8) Try.func16 rfl rfl rfl ?_
  intro Γ w0
  simp only [argE, List.cons_append, List.nil_append, Nat.zero_add, Nat.reduceAdd]
  refine c_seq ?_
  refine c_plain (.q 0 (.done)) (by kernel_rfl) ?_
  refine q_assign rfl rfl rfl rfl ?_
  refine r_done ?_
  refine k_then_n ?_
  refine c_seq ?_
  refine c_plain (.q 0 (.q 1 (.q 2 (.q 3 (.done))))) (by kernel_rfl) ?_
  refine q_move rfl rfl rfl rfl ?_
  refine q_move rfl rfl rfl rfl ?_
  refine q_str rfl rfl rfl rfl rfl (b_slss _ _ _) ?_
  refine q_assign rfl rfl rfl rfl ?_
  refine r_done ?_
  refine s_keep [4] (e' := [(4, _)]) rfl ?_
  refine k_then_n ?_
  refine c_ret ?_
  refine ret1 rfl rfl (()) (by rfl) (by trivial) ?_
  (repeat (with_reducible apply Takes.cons; focus (with_reducible (repeat (first | exact Take.here | apply Take.there))))); (repeat (first | exact Takes.nil | exact Takes.self | refine takes_drop2 ?_))


/-- The texts' own order. -/
abbrev sl (a b : ByteArray) : Bool := Op.bytesLess a.toList b.toList
theorem bl_asym : ∀ a b : List UInt8, Op.bytesLess a b = true → Op.bytesLess b a = false
  | [], [], h => by simp [Op.bytesLess] at h
  | _ :: _, [], h => by simp [Op.bytesLess] at h
  | [], _ :: _, _ => by simp [Op.bytesLess]
  | a :: x, b :: y, h => by
    simp only [Op.bytesLess, Bool.or_eq_true, decide_eq_true_eq, Bool.and_eq_true, beq_iff_eq] at h
    simp only [Op.bytesLess, Bool.or_eq_false_iff, decide_eq_false_iff_not, Bool.and_eq_false_iff]
    rcases h with h | ⟨h1, h2⟩
    · refine ⟨fun h' => absurd (UInt8.lt_trans h h') (UInt8.lt_irrefl _), .inl ?_⟩
      simp only [beq_eq_false_iff_ne]
      intro e; subst e; exact UInt8.lt_irrefl _ h
    · subst h1
      exact ⟨UInt8.lt_irrefl _, .inr (bl_asym x y h2)⟩
theorem bl_neg : ∀ a b c : List UInt8, Op.bytesLess a b = true → Op.bytesLess a c = true ∨ Op.bytesLess c b = true
  | _, [], _, h => by simp [Op.bytesLess] at h
  | _, _ :: _, [], _ => .inr (by simp [Op.bytesLess])
  | [], _ :: _, _ :: _, _ => .inl (by simp [Op.bytesLess])
  | a :: x, b :: y, c :: z, h => by
    simp only [Op.bytesLess, Bool.or_eq_true, decide_eq_true_eq, Bool.and_eq_true, beq_iff_eq] at h ⊢
    rcases h with h | ⟨h1, h2⟩
    · rcases Nat.lt_trichotomy a.toNat c.toNat with h3 | h3 | h3
      · exact .inl (.inl (UInt8.lt_iff_toNat_lt.2 h3))
      · have : a = c := UInt8.toNat_inj.1 h3
        subst this; exact .inr (.inl h)
      · have : c < a := UInt8.lt_iff_toNat_lt.2 h3
        exact .inr (.inl (UInt8.lt_trans this h))
    · subst h1
      rcases Nat.lt_trichotomy a.toNat c.toNat with h3 | h3 | h3
      · exact .inl (.inl (UInt8.lt_iff_toNat_lt.2 h3))
      · have : a = c := UInt8.toNat_inj.1 h3
        subst this
        rcases bl_neg x y z h2 with h4 | h4
        · exact .inl (.inr ⟨rfl, h4⟩)
        · exact .inr (.inr ⟨rfl, h4⟩)
      · exact .inr (.inl (UInt8.lt_iff_toNat_lt.2 h3))
theorem sl_ok : LessOk sl 16 [] [] where
  spec := fun x y => less_spec x y
  call := Try.call16
  ord := ⟨fun a b h => bl_asym _ _ h, fun a b c h => bl_neg _ _ _ h⟩
theorem hinv0 {lt : Th → Th → Bool} : HInv lt [] 0 := HInv.nil lt 0
theorem head0 {α : Type} {l : List α} {x : α} (h : l[0]? = some x) : l.head? = some x := by rw [List.head?_eq_getElem?]; exact h
theorem least_next {l l2 : List (Th × Nat)} {x : Th × Nat} {made : Nat} (hL : HInv sl l made) (hx : l[0]? = some x) (p : (x :: l2).Perm l) : ∀ y ∈ l2, sl y.1 x.1 = false := fun y hy => by
  have h1 := hinv_least sl_ok.ord hL (head0 hx) y (p.mem_iff.1 (List.mem_cons_of_mem _ hy))
  simp only [ltI, Bool.or_eq_false_iff] at h1
  exact h1.1

theorem texts_spec (ts : List ByteArray) (bo : Option Addr) (m c : Nat) (A : HProp) (hr : RdS A bo (ts.flatMap encT)) (hm : ts.length = m) (hb : m ≤ 1048576) : Spec Try.prog 4 [.slice bo m c] [A] (fun (_ : Unit) => .bool true) (fun _ => True) (fun _ => [A]) := by
  refine spec_mk (n := 64) Try.func4 rfl rfl rfl ?_
  intro Γ w0
  simp only [argE, List.cons_append, List.nil_append, Nat.zero_add, Nat.reduceAdd]
  refine c_seq ?_
  refine c_plain (.q 0 (.done)) (by kernel_rfl) ?_
  refine q_assign rfl rfl rfl rfl ?_
  refine r_done ?_
  refine k_then_n ?_
  refine c_seq ?_
  refine c_plain ((.l 0 [] (.q 1 (.q 2 (.q 3 (.q 4 (.q 5 (.done)))))))) (by kernel_rfl) ?_
  refine l_call rfl rfl rfl rfl rfl rfl Try.call15 (new_spec (lk := 16) (fi := []) (ca := [])) (by (repeat (with_reducible apply Takes.cons; focus (with_reducible (repeat (first | exact Take.here | apply Take.there))))); exact Takes.nil) ?_
  rintro b -
  try simp only [List.cons_append, List.nil_append]
  refine ag_nil ?_
  refine q_move rfl rfl rfl rfl ?_
  refine q_extract rfl rfl rfl rfl rfl ?_
  refine q_extract rfl rfl rfl rfl rfl ?_
  refine q_assign rfl rfl rfl rfl ?_
  refine q_assign rfl rfl rfl rfl ?_
  refine r_done ?_
  refine s_keep [0, 3, 4] (e' := [(0, _), (3, _), (4, _)]) rfl ?_
  refine k_then_n ?_
  refine c_seq ?_
  refine c_seq ?_
  refine c_plain (.q 0 (.q 1 (.q 2 (.q 3 (.q 4 (.q 5 (.q 6 (.q 7 (.q 8 ((.l 9 [] (.q 10 (.q 11 (.q 12 (.q 13 ((.l 14 [] (.q 15 (.q 16 (.q 17 (.q 18 (.done)))))))))))))))))))))) (by kernel_rfl) ?_
  refine q_move rfl rfl rfl rfl ?_
  refine q_eq_nil rfl rfl rfl rfl Try.underlying38 ?_
  refine q_move rfl rfl rfl rfl ?_
  refine q_move rfl rfl rfl rfl ?_
  refine q_int rfl rfl rfl rfl rfl (b_neq _ _ _ _) ?_
  first | refine q_pick_t rfl rfl rfl rfl rfl ?_ | refine q_pick_f rfl rfl rfl rfl rfl ?_
  refine s_eq 20 rfl (v' := .bool false) rfl ?_
  refine q_move rfl rfl rfl rfl ?_
  refine q_move rfl rfl rfl rfl ?_
  refine q_move rfl rfl rfl rfl ?_
  refine l_call rfl rfl rfl rfl rfl rfl Try.call17 (push_spec sl_ok b 0 [] 0 ts bo m c A hr hm hinv0 (by simp; omega) (by omega)) (by (repeat (with_reducible apply Takes.cons; focus (with_reducible (repeat (first | exact Take.here | apply Take.there))))); exact Takes.nil) ?_
  rintro l ⟨hL, hpm⟩
  simp only [Nat.zero_add] at hL
  try simp only [List.cons_append, List.nil_append]
  refine ag_nil ?_
  refine q_int rfl rfl rfl rfl rfl (b_neq _ _ _ _) ?_
  first | refine q_pick_t rfl rfl rfl rfl rfl ?_ | refine q_pick_f rfl rfl rfl rfl rfl ?_
  refine s_eq 26 rfl (v' := .bool false) rfl ?_
  have hll : l.length = m := by have := hpm.length_eq; simpa [hm] using this
  refine q_move rfl rfl rfl rfl ?_
  refine q_move rfl rfl rfl rfl ?_
  refine l_call rfl rfl rfl rfl rfl rfl Try.call18 (len_spec (lk := 16) (fi := []) (ca := []) _ _ _ _) (by (repeat (with_reducible apply Takes.cons; focus (with_reducible (repeat (first | exact Take.here | apply Take.there))))); exact Takes.nil) ?_
  rintro ⟨⟩ -
  try simp only [List.cons_append, List.nil_append]
  refine ag_nil ?_
  refine q_move rfl rfl rfl rfl ?_
  refine q_len rfl rfl rfl rfl Try.underlying37 ?_
  refine q_int rfl rfl rfl rfl rfl (b_neq _ _ _ _) ?_
  refine s_eq 32 rfl (v' := .bool false) (by congr 1; simp only [decide_eq_false_iff_not]; omega) ?_
  first | refine q_pick_t rfl rfl rfl rfl rfl ?_ | refine q_pick_f rfl rfl rfl rfl rfl ?_
  refine r_done ?_
  refine s_keep [0, 3, 33] (e' := [(0, _), (3, _), (33, _)]) rfl ?_
  refine k_then_n ?_
  refine c_cond_f rfl ?_
  refine c_skip ?_
  refine k_then_n ?_
  refine c_seq ?_
  refine c_plain (.q 0 (.done)) (by kernel_rfl) ?_
  refine q_assign rfl rfl rfl rfl ?_
  refine r_done ?_
  refine k_then_n ?_
  refine c_seq ?_
  refine c_seq ?_
  refine c_plain (.q 0 (.done)) (by kernel_rfl) ?_
  refine q_assign rfl rfl rfl rfl ?_
  refine r_done ?_
  refine k_then_n ?_
  refine c_block ?_
  refine s_eq 6 rfl (v' := .int .i64 ((0 : Nat) : Int)) rfl ?_
  refine s_eq 5 rfl (v' := .string ByteArray.empty) rfl ?_
  refine c_loop2 (α := Nat × List (Th × Nat) × Th) (fun (x_ : Nat × List (Th × Nat) × Th) => match x_ with | (i, l, p) => i ≤ m ∧ HInv sl l m ∧ l.length = m - i ∧ (∀ y ∈ l, sl y.1 p = false)) (fun (x_ : Nat × List (Th × Nat) × Th) => match x_ with | (i, l, p) => [(5, .string p), (6, .int .i64 ((i : Nat) : Int))]) (fun (x_ : Nat × List (Th × Nat) × Th) => match x_ with | (i, l, p) => [hp b 0 (lf 16 [] []) l (0 + m)]) (fun (x_ : Nat × List (Th × Nat) × Th) => match x_ with | (i, l, p) => m - i) [0, 3] (er := [(0, _), (3, _)]) rfl ((0, l, ByteArray.empty)) ?_ (by exact ⟨rfl, rfl, trivial⟩) (by (repeat (with_reducible apply Takes.cons; focus (with_reducible (repeat (first | exact Take.here | apply Take.there))))); exact Takes.nil) ?_
  · exact ⟨by omega, hL, by omega, fun y _ => (by show Op.bytesLess _ ByteArray.empty.toList = false; rw [show ByteArray.empty.toList = [] from by rw [ByteArray.toList_eq]; rfl]; simp [Op.bytesLess])⟩
  rintro ⟨i, l, p⟩ ⟨hi, hL, hll, hpl⟩
  try simp only [List.cons_append, List.nil_append]
  refine c_seq ?_
  refine c_seq ?_
  refine c_plain (.q 0 (.q 1 (.q 2 (.q 3 (.done))))) (by kernel_rfl) ?_
  refine q_move rfl rfl rfl rfl ?_
  refine q_move rfl rfl rfl rfl ?_
  refine q_len rfl rfl rfl rfl Try.underlying37 ?_
  refine q_int rfl rfl rfl rfl rfl (b_lss _ _ _ _) ?_
  refine r_done ?_
  refine k_then_n ?_
  refine c_cond_p rfl (fun hlt => ?_) (fun hlt => ?_)
  · skip
    obtain ⟨x, hx⟩ := get_lt (l := l) (i := 0) (by omega)
    have hxm : x ∈ l := List.mem_of_getElem? hx
    refine c_skip ?_
    refine k_then_n ?_
    refine c_seq ?_
    refine c_block ?_
    refine c_seq ?_
    refine c_plain (.q 0 ((.l 1 [] (.q 2 (.q 3 (.q 4 (.q 5 (.q 6 (.done))))))))) (by kernel_rfl) ?_
    refine q_move rfl rfl rfl rfl ?_
    refine l_call rfl rfl rfl rfl rfl rfl Try.call19 (pop_spec sl_ok b 0 l (0 + m) (by rw [Nat.zero_add]; exact hL) (by omega)) (by (repeat (with_reducible apply Takes.cons; focus (with_reducible (repeat (first | exact Take.here | apply Take.there))))); exact Takes.nil) ?_
    rw [pk_some hx]
    rintro l2 ⟨hL2, hp2, -⟩
    rw [Nat.zero_add] at hL2
    try simp only [List.cons_append, List.nil_append]
    refine ag_nil ?_
    refine q_move rfl rfl rfl rfl ?_
    refine q_extract rfl rfl rfl rfl rfl ?_
    refine q_extract rfl rfl rfl rfl rfl ?_
    refine q_assign rfl rfl rfl rfl ?_
    refine q_assign rfl rfl rfl rfl ?_
    refine r_done ?_
    have hp3 := hp2 _ (head0 hx)
    have hll2 := hp3.length_eq
    rw [List.length_cons] at hll2
    refine s_keep [0, 3, 5, 6, 7, 8] (e' := [(0, _), (3, _), (5, _), (6, _), (7, _), (8, _)]) rfl ?_
    refine k_then_n ?_
    refine c_seq ?_
    refine c_seq ?_
    refine c_plain (.q 0 (.q 1 (.q 2 (.q 3 (.q 4 (.q 5 (.q 6 (.done)))))))) (by kernel_rfl) ?_
    refine q_move rfl rfl rfl rfl ?_
    refine q_not rfl rfl rfl rfl ?_
    refine s_eq 46 rfl (v' := .bool false) rfl ?_
    refine q_move rfl rfl rfl rfl ?_
    refine q_move rfl rfl rfl rfl ?_
    refine q_move rfl rfl rfl rfl ?_
    refine q_str rfl rfl rfl rfl rfl (b_slss _ _ _) ?_
    refine s_eq 50 rfl (v' := .bool false) (by congr 1; exact hpl x hxm) ?_
    first | refine q_pick_t rfl rfl rfl rfl rfl ?_ | refine q_pick_f rfl rfl rfl rfl rfl ?_
    refine r_done ?_
    refine s_keep [0, 3, 6, 7, 48, 49, 50, 51] (e' := [(0, _), (3, _), (6, _), (7, _), (48, _), (49, _), (50, _), (51, _)]) rfl ?_
    refine k_then_n ?_
    refine c_cond_f rfl ?_
    refine c_skip ?_
    refine k_then_n ?_
    refine c_plain (.q 0 (.q 1 (.done))) (by kernel_rfl) ?_
    refine q_move rfl rfl rfl rfl ?_
    refine q_assign rfl rfl rfl rfl ?_
    refine r_done ?_
    refine k_blk_n ?_
    refine k_then_n ?_
    refine c_plain (.q 0 (.q 1 (.q 2 (.done)))) (by kernel_rfl) ?_
    refine q_move rfl rfl rfl rfl ?_
    refine q_int rfl rfl rfl rfl rfl (b_add' _ (by (first | exact fits_i64 (by omega) (by omega) | exact fits_u64 (by omega) (by omega) | exact fits_u32 (by omega) (by omega) | exact fits_u8 (by omega) (by omega)))) ?_
    refine q_assign rfl rfl rfl rfl ?_
    refine r_done ?_
    refine s_keep [0, 3, 5, 6, 48, 49, 50] (e' := [(0, _), (3, _), (5, _), (6, _), (48, _), (49, _), (50, _)]) rfl ?_
    refine k_then_n ?_
    refine loop_next (x := (i, l, p)) ((i + 1, l2, x.1)) ?_ ?_ ?_ ?_
    · exact ⟨by omega, hL2, by show l2.length = m - (i + 1); omega, least_next hL hx hp3⟩
    · show _ < _; omega
    · exact ⟨rfl, rfl, rfl, rfl, trivial⟩
    · (try simp only [List.cons_append, List.nil_append]); (repeat (with_reducible apply Takes.cons; focus (with_reducible (repeat (first | exact Take.here | apply Take.there))))); (repeat (first | exact Takes.nil | exact Takes.self | refine takes_drop2 ?_))
  · skip
    obtain rfl : l = [] := List.eq_nil_of_length_eq_zero (by omega)
    refine c_exit ?_
    refine k_then_exit ?_
    refine k_then_exit ?_
    refine k_blk_here ?_
    refine k_then_n ?_
    refine c_seq ?_
    refine c_plain (.q 0 ((.l 1 [] (.q 2 (.q 3 (.q 4 (.q 5 (.q 6 (.done))))))))) (by kernel_rfl) ?_
    refine q_move rfl rfl rfl rfl ?_
    refine l_call rfl rfl rfl rfl rfl rfl Try.call20 (peek_spec (lk := 16) (fi := []) (ca := []) _ _ _ _) (by (repeat (with_reducible apply Takes.cons; focus (with_reducible (repeat (first | exact Take.here | apply Take.there))))); exact Takes.nil) ?_
    rintro ⟨⟩ -
    try simp only [List.cons_append, List.nil_append]
    refine ag_nil ?_
    refine q_move rfl rfl rfl rfl ?_
    refine q_extract rfl rfl rfl rfl rfl ?_
    refine q_extract rfl rfl rfl rfl rfl ?_
    refine q_assign rfl rfl rfl rfl ?_
    refine q_assign rfl rfl rfl rfl ?_
    refine r_done ?_
    refine s_keep [9, 10] (e' := [(9, _), (10, _)]) rfl ?_
    refine k_then_n ?_
    refine c_seq ?_
    refine c_plain (.q 0 (.q 1 (.q 2 (.q 3 (.q 4 (.q 5 (.q 6 (.done)))))))) (by kernel_rfl) ?_
    refine q_move rfl rfl rfl rfl ?_
    refine q_not rfl rfl rfl rfl ?_
    refine s_eq 59 rfl (v' := .bool true) rfl ?_
    refine q_move rfl rfl rfl rfl ?_
    refine q_move rfl rfl rfl rfl ?_
    refine q_str rfl rfl rfl rfl rfl (b_seql _ _ _) ?_
    refine s_eq 62 rfl (v' := .bool true) (by congr 1; rw [pk_nil]; show (ByteArray.empty.toList == ByteArray.empty.toList) = true; simp) ?_
    first | refine q_pick_t rfl rfl rfl rfl rfl ?_ | refine q_pick_f rfl rfl rfl rfl rfl ?_
    refine q_assign rfl rfl rfl rfl ?_
    refine r_done ?_
    refine s_keep [2] (e' := [(2, _)]) rfl ?_
    refine k_then_n ?_
    refine c_ret ?_
    refine ret1 rfl rfl (()) (by rfl) (by trivial) ?_
    (repeat (with_reducible apply Takes.cons; focus (with_reducible (repeat (first | exact Take.here | apply Take.there))))); (repeat (first | exact Takes.nil | exact Takes.self | refine takes_drop2 ?_))
end Go.Ab.HpX
