/- Package vclock: the law Lattice. -/
import Derived.Test.YtkoclbjiaofkhaaVc3
set_option linter.unusedVariables false
set_option linter.unusedSimpArgs false
set_option maxRecDepth 100000
namespace Go.Ab.Vc
open Go Go.Proofs Go.Ab
theorem leq_refl (l : List Int) : LeqL l l := ⟨Nat.le_refl _, fun _ _ => Int.le_refl _⟩
theorem leq_anti {l m : List Int} (hl : CV l) (hm : CV m) (h1 : LeqL l m) (h2 : LeqL m l) : l = m :=
  Tr_ext hl.tr hm.tr fun i => Int.le_antisymm ((leq_iff hl hm).1 h1 i) ((leq_iff hm hl).1 h2 i)
theorem jnA_nil (l : List Int) : jnA l [] = l := rfl
theorem jnA_cons (l : List Int) (x : K) (os : List K) : jnA l (x :: os) = jnA (jn l x.2.2.2) os := rfl
theorem mtA_nil (l : List Int) : mtA l [] = l := rfl
theorem mtA_cons (l : List Int) (x : K) (os : List K) : mtA l (x :: os) = mtA (mt l x.2.2.2) os := rfl
theorem jnA_cv : ∀ {os : List K} {l : List Int}, CV l → (∀ x ∈ os, CV x.2.2.2) → CV (jnA l os)
  | [], l, h, _ => h
  | x :: os, l, h, ho => jnA_cv (os := os) (jn_cv h (ho x (by simp))) fun y hy => ho y (List.mem_cons_of_mem _ hy)
theorem mtA_cv : ∀ {os : List K} {l : List Int}, CV l → (∀ x ∈ os, CV x.2.2.2) → CV (mtA l os)
  | [], l, h, _ => h
  | x :: os, l, h, ho => mtA_cv (os := os) (mt_cv h (ho x (by simp))) fun y hy => ho y (List.mem_cons_of_mem _ hy)
theorem rds_take {α : Type} {A : HProp} {ao : Option Addr} {sz : Nat} {enc : α → List Value} {xs : List α} (h : RdS A ao (xs.flatMap enc)) (hsz : ∀ x, (enc x).length = sz) (k : Nat) : RdS A ao ((xs.take k).flatMap enc) := by
  rcases h with h | ⟨b, o, h1, h2⟩
  · left
    rw [← List.take_append_drop k xs, List.flatMap_append, List.append_eq_nil_iff] at h
    exact h.1
  · refine .inr ⟨b, o, h1, fun i v hv => h2 i v ?_⟩
    rw [← List.take_append_drop k xs, List.flatMap_append, List.getElem?_append_left]
    · exact hv
    · exact (List.getElem?_eq_some_iff.1 hv).1
theorem leq_self (b : Nat) (l : List Int) (ao : Option Addr) (n cap : Nat) (hn : l.length = n) (hb : n ≤ 4000000000) : Spec Try.prog 45 [.pointer (some ⟨b, 0, none⟩), .pointer (some ⟨b, 0, none⟩)] [cells b 0 [.slice ao n cap], own 1 encU ao cap l] (fun (_ : Unit) => .bool true) (fun _ => True) (fun _ => [cells b 0 [.slice ao n cap], own 1 encU ao cap l]) := by
 refine spec_mkM (n := 42) Try.func45 rfl rfl rfl ?_
 intro Γ w0
 simp only [argE, List.cons_append, List.nil_append, Nat.zero_add, Nat.reduceAdd]
 refine c_seq ?_
 refine c_plain ((.l 0 [] ((.l 1 [] (.done))))) (by kernel_rfl) ?_
 refine l_box rfl rfl rfl rfl (us := [_]) rfl ?_
 intro b3
 refine ag_nil ?_
 refine l_alloc rfl rfl rfl Try.zeroValue4 (zs := [.bool false]) rfl ?_
 intro b4
 refine ag_nil ?_
 refine r_done ?_
 refine k_then_n ?_
 refine c_seq ?_
 refine c_seq ?_
 refine c_draw rfl (.q 0 (.q 1 (.q 2 (.q 3 (.q 4 (.q 5 (.q 6 (.q 7 (.q 8 (.q 9 (.q 10 (.q 11 (.q 12 (.q 13 (.q 14 (.q 15 (.q 16 (.q 17 (.q 18 (.done)))))))))))))))))))) (by kernel_rfl) ?_
 refine q_move rfl rfl rfl rfl ?_
 refine q_eq_nil rfl rfl rfl rfl Try.underlying82 ?_
 refine s_eq 8 rfl (v' := .bool false) rfl ?_
 refine q_move rfl rfl rfl rfl ?_
 refine q_load_c (j := 0) rfl rfl rfl rfl Try.isAgg82 (by with_reducible (repeat (first | exact Z0 | apply Z1))) (by first | rfl | exact (Nat.add_zero _).symm) (by rfl) ?_
 refine q_eq_nil rfl rfl rfl rfl Try.underlying82 ?_
 refine s_eq 11 rfl (v' := .bool false) rfl ?_
 refine q_pick_f rfl rfl rfl rfl rfl ?_
 refine q_move rfl rfl rfl rfl ?_
 refine q_move rfl rfl rfl rfl ?_
 refine q_nil_p rfl rfl rfl rfl ?_
 refine q_field (k := 0) rfl rfl rfl rfl Try.underlying118 rfl Try.sizeOf31 rfl ?_
 refine q_load_c (j := 0) rfl rfl rfl rfl Try.isAgg31 (by with_reducible (repeat (first | exact Z0 | apply Z1))) (by first | rfl | exact (Nat.add_zero _).symm) (by rfl) ?_
 refine q_len rfl rfl rfl rfl Try.underlying31 ?_
 refine q_load_c (j := 0) rfl rfl rfl rfl Try.isAgg82 (by with_reducible (repeat (first | exact Z0 | apply Z1))) (by first | rfl | exact (Nat.add_zero _).symm) (by rfl) ?_
 refine q_nil_p rfl rfl rfl rfl ?_
 refine q_field (k := 0) rfl rfl rfl rfl Try.underlying118 rfl Try.sizeOf31 rfl ?_
 refine q_load_c (j := 0) rfl rfl rfl rfl Try.isAgg31 (by with_reducible (repeat (first | exact Z0 | apply Z1))) (by first | rfl | exact (Nat.add_zero _).symm) (by rfl) ?_
 refine q_len rfl rfl rfl rfl Try.underlying31 ?_
 refine q_int rfl rfl rfl rfl rfl (b_gtr _ _ _ _) ?_
 refine q_pick_f rfl rfl rfl rfl rfl ?_
 refine r_done ?_
 refine s_keep [0, 3, 4, 25] (e' := [(0, _), (3, _), (4, _), (25, _)]) rfl ?_
 refine k_then_n ?_
 refine c_cond_p rfl (fun hg => by exfalso; omega) (fun hg => ?_)
 refine c_skip ?_
 refine k_then_n ?_
 refine c_seq ?_
 refine c_seq ?_
 refine c_plain (.q 0 (.q 1 (.q 2 (.q 3 ((.l 4 [] (.done))))))) (by kernel_rfl) ?_
 refine q_move rfl rfl rfl rfl ?_
 refine q_nil_p rfl rfl rfl rfl ?_
 refine q_field (k := 0) rfl rfl rfl rfl Try.underlying118 rfl Try.sizeOf31 rfl ?_
 refine q_load_c (j := 0) rfl rfl rfl rfl Try.isAgg31 (by with_reducible (repeat (first | exact Z0 | apply Z1))) (by first | rfl | exact (Nat.add_zero _).symm) (by rfl) ?_
 have sp_1 := over_spec ao n cap
 refine l_call rfl rfl rfl rfl rfl rfl Try.call61 (sp_1) (by (repeat ((with_reducible apply Z2); focus (first | (with_reducible (repeat (first | exact Z0 | apply Z1)); done) | (repeat (first | exact Z0 | apply Z1))))); exact Z3) ?_
 rintro bx -
 try simp only [List.cons_append, List.nil_append]
 refine ag_nil ?_
 refine r_done ?_
 refine s_keep [3, 4, 30] (e' := [(3, _), (4, _), (30, _)]) rfl ?_
 refine k_then_n ?_
 refine c_block ?_
 refine s_take (A := own 1 encU ao cap l) (by with_reducible (repeat (first | exact Z0 | apply Z1))) ?_
 refine own_fc fun hp1 hp2 hp3 => ?_
 refine s_heap (fun _ h => Bun.fold ((by (repeat ((with_reducible apply Z2); focus (first | (with_reducible (repeat (first | exact Z0 | apply Z1)); done) | (repeat (first | exact Z0 | apply Z1))))); exact Z3 : Takes _ [cells b3 0 [.pointer (some ⟨b, 0, none⟩)], cells b 0 [.slice ao n cap], cells b4 0 [.bool false]] _) _ h)) ?_
 refine c_rangeF _ rfl Try.call77 (fun lp => over1_spec (σ := Unit) l ao n cap bx (own 1 encU ao cap l) hn (rds_own encU_len (fun h => (hp2 h).1) hp3) (by omega) (yv lp) (LoopJ lp _ _ _ _ _) (fun (_ : Unit) => Bun [cells b3 0 [.pointer (some ⟨b, 0, none⟩)], cells b 0 [.slice ao n cap], cells b4 0 [.bool false]]) (fun i _ => True) (fun _ c => False) (fun i x s hx hxz hI => callF_yield rfl (by decide) (by decide) (fun Γ w0 => ?_)) (fun i s hx hI => trivial) () trivial) (by (repeat ((with_reducible apply Z2); focus (first | (with_reducible (repeat (first | exact Z0 | apply Z1)); done) | (repeat (first | exact Z0 | apply Z1))))); exact Z3) ?_
 ·
  try simp only [zipE, List.cons_append, List.nil_append]
  refine s_take (A := Bun [cells b3 0 [.pointer (some ⟨b, 0, none⟩)], cells b 0 [.slice ao n cap], cells b4 0 [.bool false]]) (by with_reducible (repeat (first | exact Z0 | apply Z1))) ?_
  refine s_bun ?_
  try simp only [List.cons_append, List.nil_append]
  have hil : i < l.length := (List.getElem?_eq_some_iff.1 hx).1
  refine c_seq ?_
  refine c_plain (.q 0 (.done)) (by kernel_rfl) ?_
  refine q_assign rfl rfl rfl rfl ?_
  refine r_done ?_
  refine k_then_n ?_
  refine c_plain (.q 0 (.done)) (by kernel_rfl) ?_
  refine q_assign rfl rfl rfl rfl ?_
  refine r_done ?_
  refine k_then_n ?_
  refine k_begin (by with_reducible (repeat (first | exact Z0 | apply Z1))) ?_
  refine c_block ?_
  refine c_seq ?_
  refine c_plain (.q 0 (.q 1 (.q 2 (.q 3 (.q 4 (.q 5 (.q 6 (.q 7 (.q 8 (.done)))))))))) (by kernel_rfl) ?_
  refine q_move rfl rfl rfl rfl ?_
  refine q_load_c (j := 0) rfl rfl rfl rfl Try.isAgg82 (by with_reducible (repeat (first | exact Z0 | apply Z1))) (by first | rfl | exact (Nat.add_zero _).symm) (by rfl) ?_
  refine q_nil_p rfl rfl rfl rfl ?_
  refine q_field (k := 0) rfl rfl rfl rfl Try.underlying118 rfl Try.sizeOf31 rfl ?_
  refine q_load_c (j := 0) rfl rfl rfl rfl Try.isAgg31 (by with_reducible (repeat (first | exact Z0 | apply Z1))) (by first | rfl | exact (Nat.add_zero _).symm) (by rfl) ?_
  refine q_move rfl rfl rfl rfl ?_
  refine q_idxR (sz := 0) (k := i) rfl rfl rfl rfl rfl Try.underlying31 Try.sizeOf35 ((rds_own (cap := cap) encU_len (fun h => (hp2 h).1) hp3)) hx encU_len (by first | rfl | omega) (by omega) ?_
  intro ib39 io39 _ hd39
  refine q_load rfl rfl rfl rfl Try.isAgg35 (by with_reducible (repeat (first | exact Z0 | apply Z1))) (hd39 0 (.int .u64 x) rfl) ?_
  refine q_int rfl rfl rfl rfl rfl (b_gtr _ _ _ _) ?_
  refine r_done ?_
  refine s_keep [4, 41] (e' := [(4, _), (41, _)]) rfl ?_
  refine k_then_n ?_
  refine c_cond_p rfl (fun hg => by exfalso; omega) (fun hg => ?_)
  refine c_skip ?_
  refine k_blk_n ?_
  refine s_heap (fun _ h => Bun.fold ((by (repeat ((with_reducible apply Z2); focus (first | (with_reducible (repeat (first | exact Z0 | apply Z1)); done) | (repeat (first | exact Z0 | apply Z1))))); exact Z3 : Takes _ [cells b3 0 [.pointer (some ⟨b, 0, none⟩)], cells b 0 [.slice ao n cap], cells b4 0 [.bool false]] _) _ h)) ?_
  refine rr_n (((), none)) (by rfl) (by exact ⟨fun _ => trivial, fun c hc => (by cases hc)⟩) (by with_reducible (repeat (first | exact Z0 | apply Z1))) ?_
  (try simp only [List.cons_append, List.nil_append]); (repeat ((with_reducible apply Z2); focus (first | (with_reducible (repeat (first | exact Z0 | apply Z1)); done) | (repeat (first | exact Z0 | apply Z1))))); (repeat (first | exact Z3 | exact Takes.self | refine takes_drop2 ?_))
 rintro ⟨⟨⟩, p1⟩ (⟨h1, h2⟩ | ⟨c_, h1, h2⟩) blk_2
 try simp only [List.cons_append, List.nil_append]
 ·
  simp only at h1
  subst h1
  show Le _ _
  try simp only [List.cons_append, List.nil_append]
  refine s_take (A := Bun [cells b3 0 [.pointer (some ⟨b, 0, none⟩)], cells b 0 [.slice ao n cap], cells b4 0 [.bool false]]) (by with_reducible (repeat (first | exact Z0 | apply Z1))) ?_
  refine s_bun ?_
  try simp only [List.cons_append, List.nil_append]
  refine k_blk_n ?_
  refine k_then_n ?_
  refine c_seq ?_
  refine c_plain ((.l 0 [] (.done))) (by kernel_rfl) ?_
  refine l_store (j := 0) rfl rfl rfl rfl Try.sizeOf4 (us := [_]) rfl rfl rfl (by with_reducible (repeat (first | exact Z0 | apply Z1))) (by first | rfl | exact (Nat.add_zero _).symm) (by first | decide | (simp; done) | omega) ?_
  simp only [setL, List.set]
  refine ag_nil ?_
  refine r_done ?_
  refine k_then_n ?_
  refine c_ret ?_
  refine rm_ret ?_
  refine rm_mark (blk := blk_2) (by with_reducible (repeat (first | exact Z0 | apply Z1))) ?_
  refine rm_done (us := [_]) rfl ⟨rv_cell1 rfl Try.isAgg4 (by with_reducible (repeat (first | exact Z0 | apply Z1))) (j := 0) rfl rfl, trivial⟩ (()) (by first | rfl | (first | rfl | (congr 1; done) | (congr 1 <;> first | rfl | omega | (simp; done) | (simp; omega)))) (by trivial) ?_
  (repeat ((with_reducible apply Z2); focus (first | (with_reducible (repeat (first | exact Z0 | apply Z1)); done) | (repeat (first | exact Z0 | apply Z1))))); (repeat (first | exact Z3 | exact Takes.self | refine takes_drop2 ?_))
 ·
  exact h2.elim


end Go.Ab.Vc
