/- Package sched's law Chooses. -/
import Derived.Test.YtmaonhoplaebhaaSc10
set_option linter.unusedVariables false
set_option linter.unusedSimpArgs false
set_option maxRecDepth 100000
namespace Go.Ab.Sc
open Go Go.Proofs Go.Ab
abbrev encSt : Int × LstA Int → List Value := fun x => [.int .i64 x.1, .slice x.2.1 x.2.2.2.length x.2.2.1]
theorem encSt_len : ∀ x, (encSt x).length = 2 := fun _ => rfl
theorem encSt_one : ∀ x, (encSt x).all Value.oneCell' = true := fun _ => rfl
/-- The other chooser, and its twin. -/
def oth : Option (Nat × Nat × Chs) → HProp
  | none => Bun []
  | some z => Bun [ch z.1 z.2.2, ch z.2.1 z.2.2]
section
variable {w0 : World} {ds : List Deferred} {n : Nat} {e : Env} {Γ Γ' : List HProp} {X : Act → World → Prop}
theorem oth_nil (k : Le (St w0 ds n e (oth none :: Γ)) X) : Le (St w0 ds n e Γ) X := s_heap (fun _ h => Bun.fold (Γ := []) h) k
theorem oth_open {b q : Nat} {y : Chs} (k : Le (St w0 ds n e (ch b y :: ch q y :: Γ)) X) : Le (St w0 ds n e (oth (some (b, q, y)) :: Γ)) X := s_heap (fun _ h => Bun.unfold (Γ := [ch b y, ch q y]) h) k
theorem oth_fold {b q : Nat} {y : Chs} (tk : Takes Γ [ch b y, ch q y] Γ') (k : Le (St w0 ds n e (oth (some (b, q, y)) :: Γ')) X) : Le (St w0 ds n e Γ) X := s_heap (fun hp h => Bun.fold (Γ := [ch b y, ch q y]) (tk _ h)) k
end
theorem chz_m_le (x : Chs) (l : List Int) : (chzX x l).m ≤ x.m + 1 := by
  unfold chzX
  split
  · exact Int.le_refl _
  · exact Int.le_of_lt (Int.lt_succ _)
theorem chooses_bad (s th d st : Int) (hok : ¬ OkN th d st) (L : List (Int × LstA Int)) (bo : Option Addr) (k c : Nat) (A : HProp) (hr : RdS A bo (L.flatMap encSt)) (hk : L.length = k) (hc : ∀ x ∈ L, RdS A x.2.1 (x.2.2.2.flatMap encZ)) (hb : k ≤ 1048576) (hb2 : ∀ x ∈ L, x.2.2.2.length ≤ 1048576) : Spec Try.prog 9 [.agg #[.int .u64 s, .int .i64 th, .int .i64 d, .int .i64 st], .slice bo k c] [A] (fun (_ : Unit) => .bool true) (fun _ => True) (fun _ => [A]) := by
  refine spec_mk (n := 127) Try.func9 rfl rfl rfl ?_
  intro Γ w0
  simp only [argE, List.cons_append, List.nil_append, Nat.zero_add, Nat.reduceAdd]
  refine c_seq ?_
  refine c_plain ((.l 0 [] (.q 1 (.done)))) (by kernel_rfl) ?_
  refine l_box rfl rfl rfl rfl (us := [_, _, _, _]) rfl ?_
  intro b2
  refine ag_nil ?_
  refine q_assign rfl rfl rfl rfl ?_
  refine r_done ?_
  refine k_then_n ?_
  refine c_seq ?_
  refine c_plain (.q 0 (.q 1 (.q 2 (.q 3 (.q 4 (.q 5 (.q 6 (.q 7 ((.l 8 [] (.q 9 (.q 10 (.q 11 (.q 12 (.q 13 (.done)))))))))))))))) (by kernel_rfl) ?_
  refine q_field (k := 0) rfl rfl rfl rfl Try.underlying48 rfl Try.sizeOf34 rfl ?_
  refine q_load_c (j := 0) rfl rfl rfl rfl Try.isAgg34 (by with_reducible (repeat (first | exact Take.here | apply Take.there))) (by first | rfl | exact (Nat.add_zero _).symm) (by rfl) ?_
  refine q_field (k := 1) rfl rfl rfl rfl Try.underlying48 rfl Try.sizeOf3 rfl ?_
  refine q_load_c (j := 1) rfl rfl rfl rfl Try.isAgg3 (by with_reducible (repeat (first | exact Take.here | apply Take.there))) (by first | rfl | exact (Nat.add_zero _).symm) (by rfl) ?_
  refine q_field (k := 2) rfl rfl rfl rfl Try.underlying48 rfl Try.sizeOf3 rfl ?_
  refine q_load_c (j := 2) rfl rfl rfl rfl Try.isAgg3 (by with_reducible (repeat (first | exact Take.here | apply Take.there))) (by first | rfl | exact (Nat.add_zero _).symm) (by rfl) ?_
  refine q_field (k := 3) rfl rfl rfl rfl Try.underlying48 rfl Try.sizeOf3 rfl ?_
  refine q_load_c (j := 3) rfl rfl rfl rfl Try.isAgg3 (by with_reducible (repeat (first | exact Take.here | apply Take.there))) (by first | rfl | exact (Nat.add_zero _).symm) (by rfl) ?_
  have sp_1 := new_bad_spec s th d st hok
  refine l_call rfl rfl rfl rfl rfl rfl Try.call22 (sp_1) (by (repeat ((with_reducible apply Takes.cons); focus (first | (with_reducible (repeat (first | exact Take.here | apply Take.there)); done) | (repeat (first | exact Take.here | apply Take.there))))); exact Takes.nil) ?_
  rintro ⟨⟩ -
  try simp only [List.cons_append, List.nil_append]
  refine ag_nil ?_
  refine q_move rfl rfl rfl rfl ?_
  refine q_extract rfl rfl rfl rfl rfl ?_
  refine q_extract rfl rfl rfl rfl rfl ?_
  refine q_assign rfl rfl rfl rfl ?_
  refine q_assign rfl rfl rfl rfl ?_
  refine r_done ?_
  refine s_keep [1, 2, 5, 6] (e' := [(1, _), (2, _), (5, _), (6, _)]) rfl ?_
  refine k_then_n ?_
  refine c_seq ?_
  refine c_plain (.q 0 (.q 1 (.q 2 (.q 3 (.q 4 (.q 5 (.q 6 (.q 7 ((.l 8 [] (.q 9 (.q 10 (.q 11 (.q 12 (.q 13 (.done)))))))))))))))) (by kernel_rfl) ?_
  refine q_field (k := 0) rfl rfl rfl rfl Try.underlying48 rfl Try.sizeOf34 rfl ?_
  refine q_load_c (j := 0) rfl rfl rfl rfl Try.isAgg34 (by with_reducible (repeat (first | exact Take.here | apply Take.there))) (by first | rfl | exact (Nat.add_zero _).symm) (by rfl) ?_
  refine q_field (k := 1) rfl rfl rfl rfl Try.underlying48 rfl Try.sizeOf3 rfl ?_
  refine q_load_c (j := 1) rfl rfl rfl rfl Try.isAgg3 (by with_reducible (repeat (first | exact Take.here | apply Take.there))) (by first | rfl | exact (Nat.add_zero _).symm) (by rfl) ?_
  refine q_field (k := 2) rfl rfl rfl rfl Try.underlying48 rfl Try.sizeOf3 rfl ?_
  refine q_load_c (j := 2) rfl rfl rfl rfl Try.isAgg3 (by with_reducible (repeat (first | exact Take.here | apply Take.there))) (by first | rfl | exact (Nat.add_zero _).symm) (by rfl) ?_
  refine q_field (k := 3) rfl rfl rfl rfl Try.underlying48 rfl Try.sizeOf3 rfl ?_
  refine q_load_c (j := 3) rfl rfl rfl rfl Try.isAgg3 (by with_reducible (repeat (first | exact Take.here | apply Take.there))) (by first | rfl | exact (Nat.add_zero _).symm) (by rfl) ?_
  have sp_2 := rnew_bad_spec s th d st hok
  refine l_call rfl rfl rfl rfl rfl rfl Try.call31 (sp_2) (by (repeat ((with_reducible apply Takes.cons); focus (first | (with_reducible (repeat (first | exact Take.here | apply Take.there)); done) | (repeat (first | exact Take.here | apply Take.there))))); exact Takes.nil) ?_
  rintro ⟨⟩ -
  try simp only [List.cons_append, List.nil_append]
  refine ag_nil ?_
  refine q_move rfl rfl rfl rfl ?_
  refine q_extract rfl rfl rfl rfl rfl ?_
  refine q_extract rfl rfl rfl rfl rfl ?_
  refine q_assign rfl rfl rfl rfl ?_
  refine q_assign rfl rfl rfl rfl ?_
  refine r_done ?_
  refine s_keep [1, 2, 5, 6, 7, 8] (e' := [(1, _), (2, _), (5, _), (6, _), (7, _), (8, _)]) rfl ?_
  refine k_then_n ?_
  refine c_seq ?_
  refine c_seq ?_
  refine c_plain (.q 0 (.q 1 (.q 2 (.q 3 (.q 4 (.q 5 (.q 6 (.q 7 (.q 8 (.q 9 (.done))))))))))) (by kernel_rfl) ?_
  refine q_move rfl rfl rfl rfl ?_
  refine q_move rfl rfl rfl rfl ?_
  refine q_int rfl rfl rfl rfl rfl (b_neq _ _ _ _) ?_
  refine q_move rfl rfl rfl rfl ?_
  refine s_bool_p 40 rfl (fun hg => by exfalso; first | exact hg rfl | exact hg trivial | simp at hg) (fun hg => ?_)
  refine q_move rfl rfl rfl rfl ?_
  refine q_eq_nil rfl rfl rfl rfl Try.underlying50 ?_
  refine s_eq 42 rfl (v' := .bool true) rfl ?_
  refine q_move rfl rfl rfl rfl ?_
  refine q_eq_nil rfl rfl rfl rfl Try.underlying63 ?_
  refine s_eq 44 rfl (v' := .bool true) rfl ?_
  refine q_neb rfl rfl rfl rfl rfl Try.underlying4 ?_
  refine s_eq 45 rfl (v' := .bool false) rfl ?_
  refine q_pick_f rfl rfl rfl rfl rfl ?_
  refine r_done ?_
  refine s_keep [1, 2, 5, 7, 46] (e' := [(1, _), (2, _), (5, _), (7, _), (46, _)]) rfl ?_
  refine k_then_n ?_
  refine c_cond_f rfl ?_
  refine c_skip ?_
  refine k_then_n ?_
  refine c_seq ?_
  refine c_seq ?_
  refine c_plain (.q 0 (.q 1 (.done))) (by kernel_rfl) ?_
  refine q_move rfl rfl rfl rfl ?_
  refine q_eq_nil rfl rfl rfl rfl Try.underlying50 ?_
  refine s_eq 48 rfl (v' := .bool true) rfl ?_
  refine r_done ?_
  refine k_then_n ?_
  refine c_cond_t rfl ?_
  refine c_seq ?_
  refine c_plain ((.l 0 [] (.q 1 (.done)))) (by kernel_rfl) ?_
  refine l_call rfl rfl rfl rfl rfl rfl Try.call15 (known_spec) (by (repeat ((with_reducible apply Takes.cons); focus (first | (with_reducible (repeat (first | exact Take.here | apply Take.there)); done) | (repeat (first | exact Take.here | apply Take.there))))); exact Takes.nil) ?_
  rintro ⟨⟩ -
  try simp only [List.cons_append, List.nil_append]
  refine ag_nil ?_
  refine q_assign rfl rfl rfl rfl ?_
  refine r_done ?_
  refine s_keep [4] (e' := [(4, _)]) rfl ?_
  refine k_then_n ?_
  refine c_ret ?_
  refine k_then_ret ?_
  refine ret1 rfl rfl (()) (by first | rfl | (first | rfl | (congr 1; done) | (congr 1 <;> first | rfl | omega | (simp; done) | (simp; omega)))) (by trivial) ?_
  (repeat ((with_reducible apply Takes.cons); focus (first | (with_reducible (repeat (first | exact Take.here | apply Take.there)); done) | (repeat (first | exact Take.here | apply Take.there))))); (repeat (first | exact Takes.nil | exact Takes.self | refine takes_drop2 ?_))

theorem chooses_good (s : Int) (n : Nat) (d st : Int) (hok : OkN (n : Int) d st) (L : List (Int × LstA Int)) (bo : Option Addr) (k c : Nat) (A : HProp) (hr : RdS A bo (L.flatMap encSt)) (hk : L.length = k) (hc : ∀ x ∈ L, RdS A x.2.1 (x.2.2.2.flatMap encZ)) (hb : k ≤ 1048576) (hb2 : ∀ x ∈ L, x.2.2.2.length ≤ 1048576) : Spec Try.prog 9 [.agg #[.int .u64 s, .int .i64 ((n : Nat) : Int), .int .i64 d, .int .i64 st], .slice bo k c] [A] (fun (_ : Unit) => .bool true) (fun _ => True) (fun _ => [A]) := by
  refine spec_mk (n := 127) Try.func9 rfl rfl rfl ?_
  intro Γ w0
  simp only [argE, List.cons_append, List.nil_append, Nat.zero_add, Nat.reduceAdd]
  refine c_seq ?_
  refine c_plain ((.l 0 [] (.q 1 (.done)))) (by kernel_rfl) ?_
  refine l_box rfl rfl rfl rfl (us := [_, _, _, _]) rfl ?_
  intro b2
  refine ag_nil ?_
  refine q_assign rfl rfl rfl rfl ?_
  refine r_done ?_
  refine k_then_n ?_
  refine c_seq ?_
  refine c_plain (.q 0 (.q 1 (.q 2 (.q 3 (.q 4 (.q 5 (.q 6 (.q 7 ((.l 8 [] (.q 9 (.q 10 (.q 11 (.q 12 (.q 13 (.done)))))))))))))))) (by kernel_rfl) ?_
  refine q_field (k := 0) rfl rfl rfl rfl Try.underlying48 rfl Try.sizeOf34 rfl ?_
  refine q_load_c (j := 0) rfl rfl rfl rfl Try.isAgg34 (by with_reducible (repeat (first | exact Take.here | apply Take.there))) (by first | rfl | exact (Nat.add_zero _).symm) (by rfl) ?_
  refine q_field (k := 1) rfl rfl rfl rfl Try.underlying48 rfl Try.sizeOf3 rfl ?_
  refine q_load_c (j := 1) rfl rfl rfl rfl Try.isAgg3 (by with_reducible (repeat (first | exact Take.here | apply Take.there))) (by first | rfl | exact (Nat.add_zero _).symm) (by rfl) ?_
  refine q_field (k := 2) rfl rfl rfl rfl Try.underlying48 rfl Try.sizeOf3 rfl ?_
  refine q_load_c (j := 2) rfl rfl rfl rfl Try.isAgg3 (by with_reducible (repeat (first | exact Take.here | apply Take.there))) (by first | rfl | exact (Nat.add_zero _).symm) (by rfl) ?_
  refine q_field (k := 3) rfl rfl rfl rfl Try.underlying48 rfl Try.sizeOf3 rfl ?_
  refine q_load_c (j := 3) rfl rfl rfl rfl Try.isAgg3 (by with_reducible (repeat (first | exact Take.here | apply Take.there))) (by first | rfl | exact (Nat.add_zero _).symm) (by rfl) ?_
  have sp_1 := new_spec s n d st hok
  refine l_call rfl rfl rfl rfl rfl rfl Try.call22 (sp_1) (by (repeat ((with_reducible apply Takes.cons); focus (first | (with_reducible (repeat (first | exact Take.here | apply Take.there)); done) | (repeat (first | exact Take.here | apply Take.there))))); exact Takes.nil) ?_
  rintro bc -
  try simp only [List.cons_append, List.nil_append]
  refine ag_nil ?_
  refine q_move rfl rfl rfl rfl ?_
  refine q_extract rfl rfl rfl rfl rfl ?_
  refine q_extract rfl rfl rfl rfl rfl ?_
  refine q_assign rfl rfl rfl rfl ?_
  refine q_assign rfl rfl rfl rfl ?_
  refine r_done ?_
  refine s_keep [1, 2, 5, 6] (e' := [(1, _), (2, _), (5, _), (6, _)]) rfl ?_
  refine k_then_n ?_
  refine c_seq ?_
  refine c_plain (.q 0 (.q 1 (.q 2 (.q 3 (.q 4 (.q 5 (.q 6 (.q 7 ((.l 8 [] (.q 9 (.q 10 (.q 11 (.q 12 (.q 13 (.done)))))))))))))))) (by kernel_rfl) ?_
  refine q_field (k := 0) rfl rfl rfl rfl Try.underlying48 rfl Try.sizeOf34 rfl ?_
  refine q_load_c (j := 0) rfl rfl rfl rfl Try.isAgg34 (by with_reducible (repeat (first | exact Take.here | apply Take.there))) (by first | rfl | exact (Nat.add_zero _).symm) (by rfl) ?_
  refine q_field (k := 1) rfl rfl rfl rfl Try.underlying48 rfl Try.sizeOf3 rfl ?_
  refine q_load_c (j := 1) rfl rfl rfl rfl Try.isAgg3 (by with_reducible (repeat (first | exact Take.here | apply Take.there))) (by first | rfl | exact (Nat.add_zero _).symm) (by rfl) ?_
  refine q_field (k := 2) rfl rfl rfl rfl Try.underlying48 rfl Try.sizeOf3 rfl ?_
  refine q_load_c (j := 2) rfl rfl rfl rfl Try.isAgg3 (by with_reducible (repeat (first | exact Take.here | apply Take.there))) (by first | rfl | exact (Nat.add_zero _).symm) (by rfl) ?_
  refine q_field (k := 3) rfl rfl rfl rfl Try.underlying48 rfl Try.sizeOf3 rfl ?_
  refine q_load_c (j := 3) rfl rfl rfl rfl Try.isAgg3 (by with_reducible (repeat (first | exact Take.here | apply Take.there))) (by first | rfl | exact (Nat.add_zero _).symm) (by rfl) ?_
  have sp_2 := rnew_spec s n d st hok
  refine l_call rfl rfl rfl rfl rfl rfl Try.call31 (sp_2) (by (repeat ((with_reducible apply Takes.cons); focus (first | (with_reducible (repeat (first | exact Take.here | apply Take.there)); done) | (repeat (first | exact Take.here | apply Take.there))))); exact Takes.nil) ?_
  rintro bq -
  try simp only [List.cons_append, List.nil_append]
  refine ag_nil ?_
  refine q_move rfl rfl rfl rfl ?_
  refine q_extract rfl rfl rfl rfl rfl ?_
  refine q_extract rfl rfl rfl rfl rfl ?_
  refine q_assign rfl rfl rfl rfl ?_
  refine q_assign rfl rfl rfl rfl ?_
  refine r_done ?_
  refine s_keep [1, 2, 5, 6, 7, 8] (e' := [(1, _), (2, _), (5, _), (6, _), (7, _), (8, _)]) rfl ?_
  refine k_then_n ?_
  refine c_seq ?_
  refine c_seq ?_
  refine c_plain (.q 0 (.q 1 (.q 2 (.q 3 (.q 4 (.q 5 (.q 6 (.q 7 (.q 8 (.q 9 (.done))))))))))) (by kernel_rfl) ?_
  refine q_move rfl rfl rfl rfl ?_
  refine q_move rfl rfl rfl rfl ?_
  refine q_int rfl rfl rfl rfl rfl (b_neq _ _ _ _) ?_
  refine q_move rfl rfl rfl rfl ?_
  refine s_bool_p 40 rfl (fun hg => by exfalso; first | exact hg rfl | exact hg trivial | simp at hg) (fun hg => ?_)
  refine q_move rfl rfl rfl rfl ?_
  refine q_eq_nil rfl rfl rfl rfl Try.underlying50 ?_
  refine s_eq 42 rfl (v' := .bool false) rfl ?_
  refine q_move rfl rfl rfl rfl ?_
  refine q_eq_nil rfl rfl rfl rfl Try.underlying63 ?_
  refine s_eq 44 rfl (v' := .bool false) rfl ?_
  refine q_neb rfl rfl rfl rfl rfl Try.underlying4 ?_
  refine s_eq 45 rfl (v' := .bool false) rfl ?_
  refine q_pick_f rfl rfl rfl rfl rfl ?_
  refine r_done ?_
  refine s_keep [1, 2, 5, 7, 46] (e' := [(1, _), (2, _), (5, _), (7, _), (46, _)]) rfl ?_
  refine k_then_n ?_
  refine c_cond_f rfl ?_
  refine c_skip ?_
  refine k_then_n ?_
  refine c_seq ?_
  refine c_seq ?_
  refine c_plain (.q 0 (.q 1 (.done))) (by kernel_rfl) ?_
  refine q_move rfl rfl rfl rfl ?_
  refine q_eq_nil rfl rfl rfl rfl Try.underlying50 ?_
  refine s_eq 48 rfl (v' := .bool false) rfl ?_
  refine r_done ?_
  refine k_then_n ?_
  refine c_cond_f rfl ?_
  refine c_skip ?_
  refine k_then_n ?_
  refine c_seq ?_
  refine c_plain (.q 0 (.done)) (by kernel_rfl) ?_
  refine q_assign rfl rfl rfl rfl ?_
  refine r_done ?_
  refine k_then_n ?_
  refine c_seq ?_
  refine c_plain (.q 0 (.done)) (by kernel_rfl) ?_
  refine q_assign rfl rfl rfl rfl ?_
  refine r_done ?_
  refine k_then_n ?_
  refine c_seq ?_
  refine c_plain (.q 0 (.q 1 (.q 2 (.done)))) (by kernel_rfl) ?_
  refine q_move rfl rfl rfl rfl ?_
  refine q_len rfl rfl rfl rfl Try.underlying62 ?_
  refine q_assign rfl rfl rfl rfl ?_
  refine r_done ?_
  refine s_keep [1, 2, 5, 7, 9, 10, 11] (e' := [(1, _), (2, _), (5, _), (7, _), (9, _), (10, _), (11, _)]) rfl ?_
  refine k_then_n ?_
  refine c_seq ?_
  refine c_seq ?_
  refine c_plain (.q 0 (.q 1 (.q 2 (.done)))) (by kernel_rfl) ?_
  refine q_field (k := 1) rfl rfl rfl rfl Try.underlying48 rfl Try.sizeOf3 rfl ?_
  refine q_load_c (j := 1) rfl rfl rfl rfl Try.isAgg3 (by with_reducible (repeat (first | exact Take.here | apply Take.there))) (by first | rfl | exact (Nat.add_zero _).symm) (by rfl) ?_
  refine q_int rfl rfl rfl rfl rfl (b_gtr _ _ _ _) ?_
  refine r_done ?_
  refine k_then_n ?_
  refine c_cond_p rfl (fun h_3 => ?_) (fun h_3 => ?_)
  · skip
    refine c_plain (.q 0 (.q 1 (.q 2 (.done)))) (by kernel_rfl) ?_
    refine q_move rfl rfl rfl rfl ?_
    refine q_min rfl rfl rfl rfl rfl ?_
    refine q_assign rfl rfl rfl rfl ?_
    refine r_done ?_
    refine s_keep [1, 5, 7, 9, 10, 11] (e' := [(1, _), (5, _), (7, _), (9, _), (10, _), (11, _)]) rfl ?_
    refine k_then_n ?_
    refine c_seq ?_
    refine c_seq ?_
    have hxn := new_inv (s := s) hok
    refine oth_nil ?_
    refine c_plain (.q 0 (.done)) (by kernel_rfl) ?_
    refine q_assign rfl rfl rfl rfl ?_
    refine r_done ?_
    refine k_then_n ?_
    refine c_block ?_
    refine c_loop2 (α := Nat × Nat × Nat × Chs × Option (Nat × Nat × Chs)) (fun (x_ : Nat × Nat × Nat × Chs × Option (Nat × Nat × Chs)) => match x_ with | (i, b, q, x, o) => i ≤ k ∧ (CInv x) ∧ (x.m ≤ (i : Int)) ∧ (∀ z, o = some z → CInv z.2.2 ∧ z.2.2.m ≤ (i : Int))) (fun (x_ : Nat × Nat × Nat × Chs × Option (Nat × Nat × Chs)) => match x_ with | (i, b, q, x, o) => [(5, .pointer (some ⟨b, 0, none⟩)), (7, .pointer (some ⟨q, 0, none⟩)), (9, .pointer (o.map fun z => (⟨z.1, 0, none⟩ : Addr))), (10, .pointer (o.map fun z => (⟨z.2.1, 0, none⟩ : Addr))), (12, .int .i64 ((i : Nat) : Int))]) (fun (x_ : Nat × Nat × Nat × Chs × Option (Nat × Nat × Chs)) => match x_ with | (i, b, q, x, o) => [ch b x, ch q x, oth o]) (fun (x_ : Nat × Nat × Nat × Chs × Option (Nat × Nat × Chs)) => match x_ with | (i, b, q, x, o) => k - i) [1, 11] (er := [(1, _), (11, _)]) rfl (0, bc, bq, newX s n d st, none) ?_ (by exact ⟨rfl, rfl, rfl, rfl, rfl, trivial⟩) (by (try dsimp only); (try simp only [Nat.add_zero, Nat.zero_add]); (repeat ((with_reducible apply Takes.cons); focus (first | (with_reducible (repeat (first | exact Take.here | apply Take.there)); done) | (repeat (first | exact Take.here | apply Take.there))))); exact Takes.nil) ?_
    · exact ⟨Nat.zero_le _, hxn, Int.le_refl _, fun z hz => by cases hz⟩
    rintro ⟨i, b, q, x, o⟩ ⟨hle_i, hx, hxm, ho⟩
    try simp only [List.cons_append, List.nil_append]
    refine c_seq ?_
    refine c_seq ?_
    refine c_plain (.q 0 (.q 1 (.q 2 (.done)))) (by kernel_rfl) ?_
    refine q_move rfl rfl rfl rfl ?_
    refine q_move rfl rfl rfl rfl ?_
    refine q_int rfl rfl rfl rfl rfl (b_lss _ _ _ _) ?_
    refine r_done ?_
    refine k_then_n ?_
    refine c_cond_p rfl (fun hlt => ?_) (fun hlt => ?_)
    · skip
      refine c_skip ?_
      refine k_then_n ?_
      refine c_seq ?_
      refine c_block ?_
      refine c_seq ?_
      refine c_plain (.q 0 (.q 1 (.q 2 (.q 3 (.q 4 (.done)))))) (by kernel_rfl) ?_
      refine q_move rfl rfl rfl rfl ?_
      refine q_move rfl rfl rfl rfl ?_
      obtain ⟨s_, hs_⟩ := get_lt (l := L) (i := i) (by first | omega | (simp; done) | (simp; omega))
      have hsb := hb2 _ (List.mem_of_getElem? hs_)
      refine q_idxR (sz := 1) (k := i) rfl rfl rfl rfl rfl Try.underlying62 Try.sizeOf67 (hr) hs_ encSt_len (by first | rfl | omega) (by omega) ?_
      intro ib64 io64 _ hd64
      refine q_field (k := 0) rfl rfl rfl rfl Try.underlying67 rfl Try.sizeOf3 rfl ?_
      refine q_load rfl rfl rfl rfl Try.isAgg3 (by with_reducible (repeat (first | exact Take.here | apply Take.there))) (hd64 0 (.int .i64 s_.1) rfl) ?_
      refine r_done ?_
      refine s_keep [1, 5, 7, 9, 10, 11, 12, 66] (e' := [(1, _), (5, _), (7, _), (9, _), (10, _), (11, _), (12, _), (66, _)]) rfl ?_
      refine k_then_n ?_
      refine c_block ?_
      refine c_seq ?_
      refine c_plain (.q 0 (.q 1 (.done))) (by kernel_rfl) ?_
      refine q_int rfl rfl rfl rfl rfl (b_eql _ _ _ _) ?_
      refine q_assign rfl rfl rfl rfl ?_
      refine r_done ?_
      refine k_then_n ?_
      refine c_cond_p rfl (fun h_4 => ?_) (fun h_4 => ?_)
      · skip
        refine c_seq ?_
        refine c_plain (.q 0 (.q 1 (.q 2 (.q 3 (.q 4 (.q 5 (.q 6 ((.l 7 [] (.q 8 (.done))))))))))) (by kernel_rfl) ?_
        refine q_move rfl rfl rfl rfl ?_
        refine q_move rfl rfl rfl rfl ?_
        refine q_move rfl rfl rfl rfl ?_
        refine q_move rfl rfl rfl rfl ?_
        refine q_idxR (sz := 1) (k := i) rfl rfl rfl rfl rfl Try.underlying62 Try.sizeOf67 (hr) hs_ encSt_len (by first | rfl | omega) (by omega) ?_
        intro ib73 io73 _ hd73
        refine q_field (k := 1) rfl rfl rfl rfl Try.underlying67 rfl Try.sizeOf53 rfl ?_
        refine q_load rfl rfl rfl rfl Try.isAgg53 (by with_reducible (repeat (first | exact Take.here | apply Take.there))) (hd73 1 (.slice s_.2.1 s_.2.2.2.length s_.2.2.1) rfl) ?_
        have sp_5 := chooses_spec b q x hx (by omega) s_.2.2.2 s_.2.1 s_.2.2.2.length s_.2.2.1 A rfl (hc _ (List.mem_of_getElem? hs_)) (by omega)
        refine l_call rfl rfl rfl rfl rfl rfl Try.call32 (sp_5) (by (repeat ((with_reducible apply Takes.cons); focus (first | (with_reducible (repeat (first | exact Take.here | apply Take.there)); done) | (repeat (first | exact Take.here | apply Take.there))))); exact Takes.nil) ?_
        rintro ⟨⟩ -
        try simp only [List.cons_append, List.nil_append]
        refine ag_nil ?_
        refine q_not rfl rfl rfl rfl ?_
        refine s_eq 77 rfl (v' := .bool false) rfl ?_
        refine r_done ?_
        refine s_keep [1, 5, 7, 9, 10, 11, 12, 77] (e' := [(1, _), (5, _), (7, _), (9, _), (10, _), (11, _), (12, _), (77, _)]) rfl ?_
        refine k_then_n ?_
        refine c_cond_f rfl ?_
        refine c_skip ?_
        refine k_blk_n ?_
        refine k_blk_n ?_
        refine k_then_n ?_
        refine c_plain (.q 0 (.q 1 (.q 2 (.done)))) (by kernel_rfl) ?_
        refine q_move rfl rfl rfl rfl ?_
        refine q_int rfl rfl rfl rfl rfl (b_add' _ (by (first | exact fits_i64 (by omega) (by omega) | exact fits_u64 (by omega) (by omega) | exact fits_u32 (by omega) (by omega) | exact fits_u8 (by omega) (by omega)))) ?_
        refine q_assign rfl rfl rfl rfl ?_
        refine r_done ?_
        refine k_then_n ?_
        refine loop_next (x := (i, b, q, x, o)) ((i + 1, b, q, chzX x s_.2.2.2, o)) ?_ ?_ ?_ ?_
        · try dsimp only
          exact ⟨by omega, chz_inv hx _, by have := chz_m_le x s_.2.2.2; omega, fun z hz => ⟨(ho z hz).1, by have := (ho z hz).2; omega⟩⟩
        · show k - (i + 1) < k - i; omega
        · exact ⟨rfl, rfl, rfl, rfl, rfl, rfl, rfl, trivial⟩
        · (try simp only [List.cons_append, List.nil_append]); (repeat ((with_reducible apply Takes.cons); focus (first | (with_reducible (repeat (first | exact Take.here | apply Take.there)); done) | (repeat (first | exact Take.here | apply Take.there))))); (repeat (first | exact Takes.nil | exact Takes.self | refine takes_drop2 ?_))
      · skip
        refine c_seq ?_
        refine c_seq ?_
        refine c_plain (.q 0 (.q 1 (.done))) (by kernel_rfl) ?_
        refine q_int rfl rfl rfl rfl rfl (b_eql _ _ _ _) ?_
        refine q_assign rfl rfl rfl rfl ?_
        refine r_done ?_
        refine k_then_n ?_
        refine c_cond_p rfl (fun h_6 => ?_) (fun h_6 => ?_)
        · skip
          refine c_skip ?_
          refine k_then_n ?_
          refine c_cond_p rfl (fun h_7 => ?_) (fun h_7 => ?_)
          · skip
            refine c_seq ?_
            refine c_plain (.q 0 (.q 1 ((.l 2 [] (.q 3 (.done)))))) (by kernel_rfl) ?_
            refine q_move rfl rfl rfl rfl ?_
            refine q_move rfl rfl rfl rfl ?_
            have sp_8 := told_spec b q x hx
            refine l_call rfl rfl rfl rfl rfl rfl Try.call33 (sp_8) (by (repeat ((with_reducible apply Takes.cons); focus (first | (with_reducible (repeat (first | exact Take.here | apply Take.there)); done) | (repeat (first | exact Take.here | apply Take.there))))); exact Takes.nil) ?_
            rintro ⟨⟩ -
            try simp only [List.cons_append, List.nil_append]
            refine ag_nil ?_
            refine q_not rfl rfl rfl rfl ?_
            refine s_eq 84 rfl (v' := .bool false) rfl ?_
            refine r_done ?_
            refine s_keep [1, 5, 7, 9, 10, 11, 12, 84] (e' := [(1, _), (5, _), (7, _), (9, _), (10, _), (11, _), (12, _), (84, _)]) rfl ?_
            refine k_then_n ?_
            refine c_cond_f rfl ?_
            refine c_skip ?_
            refine k_blk_n ?_
            refine k_blk_n ?_
            refine k_then_n ?_
            refine c_plain (.q 0 (.q 1 (.q 2 (.done)))) (by kernel_rfl) ?_
            refine q_move rfl rfl rfl rfl ?_
            refine q_int rfl rfl rfl rfl rfl (b_add' _ (by (first | exact fits_i64 (by omega) (by omega) | exact fits_u64 (by omega) (by omega) | exact fits_u32 (by omega) (by omega) | exact fits_u8 (by omega) (by omega)))) ?_
            refine q_assign rfl rfl rfl rfl ?_
            refine r_done ?_
            refine k_then_n ?_
            refine loop_next (x := (i, b, q, x, o)) ((i + 1, b, q, x, o)) ?_ ?_ ?_ ?_
            · try dsimp only
              exact ⟨by omega, hx, by omega, fun z hz => ⟨(ho z hz).1, by have := (ho z hz).2; omega⟩⟩
            · show k - (i + 1) < k - i; omega
            · exact ⟨rfl, rfl, rfl, rfl, rfl, rfl, rfl, trivial⟩
            · (try simp only [List.cons_append, List.nil_append]); (repeat ((with_reducible apply Takes.cons); focus (first | (with_reducible (repeat (first | exact Take.here | apply Take.there)); done) | (repeat (first | exact Take.here | apply Take.there))))); (repeat (first | exact Takes.nil | exact Takes.self | refine takes_drop2 ?_))
          · skip
            refine c_seq ?_
            refine c_plain (.q 0 (.q 1 (.done))) (by kernel_rfl) ?_
            refine q_int rfl rfl rfl rfl rfl (b_eql _ _ _ _) ?_
            refine q_assign rfl rfl rfl rfl ?_
            refine r_done ?_
            refine s_keep [1, 5, 7, 9, 10, 11, 12, 66, 85] (e' := [(1, _), (5, _), (7, _), (9, _), (10, _), (11, _), (12, _), (66, _), (85, _)]) rfl ?_
            refine k_then_n ?_
            refine c_cond_p rfl (fun h_9 => ?_) (fun h_9 => ?_)
            · skip
              refine c_seq ?_
              refine c_draw rfl (.q 0 (.q 2 (.q 3 (.q 4 (.q 5 ((.l 1 [5] (.q 6 (.done))))))))) (by kernel_rfl) ?_
              refine q_move rfl rfl rfl rfl ?_
              refine q_move rfl rfl rfl rfl ?_
              refine q_nil_p rfl rfl rfl rfl ?_
              refine s_take (A := ch q x) (by with_reducible (repeat (first | exact Take.here | apply Take.there))) ?_
              refine ch_open fun ar cr ac cc => ?_
              refine q_field (k := 3) rfl rfl rfl rfl Try.underlying71 rfl Try.sizeOf3 rfl ?_
              refine q_load_c (j := 3) rfl rfl rfl rfl Try.isAgg3 (by with_reducible (repeat (first | exact Take.here | apply Take.there))) (by first | rfl | exact (Nat.add_zero _).symm) (by rfl) ?_
              have sp_10 := made_spec b x hx.ok
              refine l_call rfl rfl rfl rfl rfl rfl Try.call28 (sp_10) (by (repeat ((with_reducible apply Takes.cons); focus (first | (with_reducible (repeat (first | exact Take.here | apply Take.there)); done) | (repeat (first | exact Take.here | apply Take.there))))); exact Takes.nil) ?_
              rintro ⟨⟩ -
              try simp only [List.cons_append, List.nil_append]
              refine ag_load_c (q := 3) rfl rfl rfl Try.isAgg3 (by with_reducible (repeat (first | exact Take.here | apply Take.there))) (by first | rfl | exact (Nat.add_zero _).symm) (by rfl) ?_
              refine ag_nil ?_
              refine q_int rfl rfl rfl rfl rfl (b_neq _ _ _ _) ?_
              refine r_done ?_
              refine ch_fold (b := q) (d := x.d) (rk := x.rk) (chs := x.chs) (m := x.m) (by (repeat ((with_reducible apply Takes.cons); focus (first | (with_reducible (repeat (first | exact Take.here | apply Take.there)); done) | (repeat (first | exact Take.here | apply Take.there))))); exact Takes.nil) (by rfl) (by rfl) ?_
              refine s_keep [1, 5, 7, 9, 10, 11, 12, 93] (e' := [(1, _), (5, _), (7, _), (9, _), (10, _), (11, _), (12, _), (93, _)]) rfl ?_
              refine k_then_n ?_
              refine c_cond_p rfl (fun hg => by exfalso; first | exact hg rfl | exact hg trivial | simp at hg) (fun hg => ?_)
              refine c_skip ?_
              refine k_blk_n ?_
              refine k_blk_n ?_
              refine k_then_n ?_
              refine c_plain (.q 0 (.q 1 (.q 2 (.done)))) (by kernel_rfl) ?_
              refine q_move rfl rfl rfl rfl ?_
              refine q_int rfl rfl rfl rfl rfl (b_add' _ (by (first | exact fits_i64 (by omega) (by omega) | exact fits_u64 (by omega) (by omega) | exact fits_u32 (by omega) (by omega) | exact fits_u8 (by omega) (by omega)))) ?_
              refine q_assign rfl rfl rfl rfl ?_
              refine r_done ?_
              refine k_then_n ?_
              refine loop_next (x := (i, b, q, x, o)) ((i + 1, b, q, x, o)) ?_ ?_ ?_ ?_
              · try dsimp only
                exact ⟨by omega, hx, by omega, fun z hz => ⟨(ho z hz).1, by have := (ho z hz).2; omega⟩⟩
              · show k - (i + 1) < k - i; omega
              · exact ⟨rfl, rfl, rfl, rfl, rfl, rfl, rfl, trivial⟩
              · (try simp only [List.cons_append, List.nil_append]); (repeat ((with_reducible apply Takes.cons); focus (first | (with_reducible (repeat (first | exact Take.here | apply Take.there)); done) | (repeat (first | exact Take.here | apply Take.there))))); (repeat (first | exact Takes.nil | exact Takes.self | refine takes_drop2 ?_))
            · skip
              refine c_seq ?_
              refine c_plain (.q 0 (.q 1 (.done))) (by kernel_rfl) ?_
              refine q_int rfl rfl rfl rfl rfl (b_eql _ _ _ _) ?_
              refine q_assign rfl rfl rfl rfl ?_
              refine r_done ?_
              refine k_then_n ?_
              refine c_cond_p rfl (fun h_11 => ?_) (fun h_11 => ?_)
              · skip
                refine c_seq ?_
                refine c_plain (.q 0 (.q 1 (.q 2 (.q 3 (.done))))) (by kernel_rfl) ?_
                refine q_move rfl rfl rfl rfl ?_
                refine q_move rfl rfl rfl rfl ?_
                refine q_assign rfl rfl rfl rfl ?_
                refine q_assign rfl rfl rfl rfl ?_
                refine r_done ?_
                refine s_keep [1, 9, 10, 11, 12] (e' := [(1, _), (9, _), (10, _), (11, _), (12, _)]) rfl ?_
                refine k_then_n ?_
                refine c_seq ?_
                refine c_plain (.q 0 ((.l 1 [] (.q 2 ((.l 3 [] (.q 4 (.q 5 (.done))))))))) (by kernel_rfl) ?_
                refine q_move rfl rfl rfl rfl ?_
                have sp_12 := copy_spec b x hx.ok
                refine l_call rfl rfl rfl rfl rfl rfl Try.call34 (sp_12) (by (repeat ((with_reducible apply Takes.cons); focus (first | (with_reducible (repeat (first | exact Take.here | apply Take.there)); done) | (repeat (first | exact Take.here | apply Take.there))))); exact Takes.nil) ?_
                rintro nb -
                try simp only [List.cons_append, List.nil_append]
                refine ag_nil ?_
                refine q_move rfl rfl rfl rfl ?_
                have sp_13 := rcopy_spec q x hx.ok
                refine l_call rfl rfl rfl rfl rfl rfl Try.call35 (sp_13) (by (repeat ((with_reducible apply Takes.cons); focus (first | (with_reducible (repeat (first | exact Take.here | apply Take.there)); done) | (repeat (first | exact Take.here | apply Take.there))))); exact Takes.nil) ?_
                rintro nq -
                try simp only [List.cons_append, List.nil_append]
                refine ag_nil ?_
                refine q_assign rfl rfl rfl rfl ?_
                refine q_assign rfl rfl rfl rfl ?_
                refine r_done ?_
                refine s_keep [1, 5, 7, 9, 10, 11, 12] (e' := [(1, _), (5, _), (7, _), (9, _), (10, _), (11, _), (12, _)]) rfl ?_
                refine k_then_n ?_
                refine c_seq ?_
                refine c_plain (.q 0 (.q 1 (.done))) (by kernel_rfl) ?_
                refine q_move rfl rfl rfl rfl ?_
                refine q_eq_nil rfl rfl rfl rfl Try.underlying50 ?_
                refine s_eq 103 rfl (v' := .bool false) rfl ?_
                refine r_done ?_
                refine k_then_n ?_
                refine c_cond_f rfl ?_
                refine c_skip ?_
                refine k_blk_n ?_
                refine k_blk_n ?_
                refine k_then_n ?_
                refine c_plain (.q 0 (.q 1 (.q 2 (.done)))) (by kernel_rfl) ?_
                refine q_move rfl rfl rfl rfl ?_
                refine q_int rfl rfl rfl rfl rfl (b_add' _ (by (first | exact fits_i64 (by omega) (by omega) | exact fits_u64 (by omega) (by omega) | exact fits_u32 (by omega) (by omega) | exact fits_u8 (by omega) (by omega)))) ?_
                refine q_assign rfl rfl rfl rfl ?_
                refine r_done ?_
                refine s_keep [1, 5, 7, 9, 10, 11, 12] (e' := [(1, _), (5, _), (7, _), (9, _), (10, _), (11, _), (12, _)]) rfl ?_
                refine k_then_n ?_
                refine oth_fold (b := b) (q := q) (y := x) (by (repeat ((with_reducible apply Takes.cons); focus (first | (with_reducible (repeat (first | exact Take.here | apply Take.there)); done) | (repeat (first | exact Take.here | apply Take.there))))); exact Takes.nil) ?_
                refine loop_next (x := (i, b, q, x, o)) ((i + 1, nb, nq, x, some (b, q, x))) ?_ ?_ ?_ ?_
                · try dsimp only
                  exact ⟨by omega, hx, by omega, fun z hz => by cases hz; exact ⟨hx, by show x.m ≤ _; omega⟩⟩
                · show k - (i + 1) < k - i; omega
                · exact ⟨rfl, rfl, rfl, rfl, rfl, rfl, rfl, trivial⟩
                · (try simp only [List.cons_append, List.nil_append]); (repeat ((with_reducible apply Takes.cons); focus (first | (with_reducible (repeat (first | exact Take.here | apply Take.there)); done) | (repeat (first | exact Take.here | apply Take.there))))); (repeat (first | exact Takes.nil | exact Takes.self | refine takes_drop2 ?_))
              · skip
                refine c_seq ?_
                refine c_plain (.q 0 (.q 1 (.done))) (by kernel_rfl) ?_
                refine q_int rfl rfl rfl rfl rfl (b_eql _ _ _ _) ?_
                refine q_assign rfl rfl rfl rfl ?_
                refine r_done ?_
                refine s_keep [1, 5, 7, 9, 10, 11, 12, 104] (e' := [(1, _), (5, _), (7, _), (9, _), (10, _), (11, _), (12, _), (104, _)]) rfl ?_
                refine k_then_n ?_
                refine c_cond_p rfl (fun h_14 => ?_) (fun h_14 => ?_)
                · skip
                  refine c_seq ?_
                  refine c_plain (.q 0 (.q 1 (.done))) (by kernel_rfl) ?_
                  refine q_move rfl rfl rfl rfl ?_
                  refine q_ne_nil rfl rfl rfl rfl Try.underlying50 ?_
                  refine r_done ?_
                  refine k_then_n ?_
                  refine c_cond rfl (fun hon => ?_) (fun hon => ?_)
                  · skip
                    try simp only [Bool.and_eq_true, Bool.or_eq_true, Bool.not_eq_true', Bool.not_eq_false', Bool.and_eq_false_iff, Bool.or_eq_false_iff, decide_eq_true_eq, decide_eq_false_iff_not] at hon
                    obtain ⟨⟨b2, q2, y⟩, rfl⟩ : ∃ z, o = some z := by
                      cases o with
                      | none => exact absurd hon (by simp)
                      | some z => exact ⟨z, rfl⟩
                    refine s_take (A := oth (some (b2, q2, y))) (by with_reducible (repeat (first | exact Take.here | apply Take.there))) ?_
                    refine oth_open ?_
                    have hy1 : CInv y := (ho _ rfl).1
                    have hy2 : y.m ≤ (i : Int) := (ho _ rfl).2
                    refine c_seq ?_
                    refine c_plain (.q 0 (.q 1 (.q 2 (.q 3 (.done))))) (by kernel_rfl) ?_
                    refine q_move rfl rfl rfl rfl ?_
                    refine q_move rfl rfl rfl rfl ?_
                    refine q_assign rfl rfl rfl rfl ?_
                    refine q_assign rfl rfl rfl rfl ?_
                    refine r_done ?_
                    refine s_keep [1, 5, 7, 9, 10, 11, 12] (e' := [(1, _), (5, _), (7, _), (9, _), (10, _), (11, _), (12, _)]) rfl ?_
                    refine k_then_n ?_
                    refine c_plain (.q 0 (.q 1 (.q 2 (.q 3 (.done))))) (by kernel_rfl) ?_
                    refine q_move rfl rfl rfl rfl ?_
                    refine q_move rfl rfl rfl rfl ?_
                    refine q_assign rfl rfl rfl rfl ?_
                    refine q_assign rfl rfl rfl rfl ?_
                    refine r_done ?_
                    refine k_blk_n ?_
                    refine k_blk_n ?_
                    refine k_then_n ?_
                    refine c_plain (.q 0 (.q 1 (.q 2 (.done)))) (by kernel_rfl) ?_
                    refine q_move rfl rfl rfl rfl ?_
                    refine q_int rfl rfl rfl rfl rfl (b_add' _ (by (first | exact fits_i64 (by omega) (by omega) | exact fits_u64 (by omega) (by omega) | exact fits_u32 (by omega) (by omega) | exact fits_u8 (by omega) (by omega)))) ?_
                    refine q_assign rfl rfl rfl rfl ?_
                    refine r_done ?_
                    refine s_keep [1, 5, 7, 9, 10, 11, 12] (e' := [(1, _), (5, _), (7, _), (9, _), (10, _), (11, _), (12, _)]) rfl ?_
                    refine k_then_n ?_
                    refine oth_fold (b := b) (q := q) (y := x) (by (repeat ((with_reducible apply Takes.cons); focus (first | (with_reducible (repeat (first | exact Take.here | apply Take.there)); done) | (repeat (first | exact Take.here | apply Take.there))))); exact Takes.nil) ?_
                    refine loop_next (x := (i, b, q, x, some (b2, q2, y))) ((i + 1, b2, q2, y, some (b, q, x))) ?_ ?_ ?_ ?_
                    · try dsimp only
                      exact ⟨by omega, hy1, by omega, fun z hz => by cases hz; exact ⟨hx, by show x.m ≤ _; omega⟩⟩
                    · show k - (i + 1) < k - i; omega
                    · exact ⟨rfl, rfl, rfl, rfl, rfl, rfl, rfl, trivial⟩
                    · (try simp only [List.cons_append, List.nil_append]); (repeat ((with_reducible apply Takes.cons); focus (first | (with_reducible (repeat (first | exact Take.here | apply Take.there)); done) | (repeat (first | exact Take.here | apply Take.there))))); (repeat (first | exact Takes.nil | exact Takes.self | refine takes_drop2 ?_))
                  · skip
                    try simp only [Bool.and_eq_true, Bool.or_eq_true, Bool.not_eq_true', Bool.not_eq_false', Bool.and_eq_false_iff, Bool.or_eq_false_iff, decide_eq_true_eq, decide_eq_false_iff_not] at hon
                    refine c_skip ?_
                    refine k_blk_n ?_
                    refine k_blk_n ?_
                    refine k_then_n ?_
                    refine c_plain (.q 0 (.q 1 (.q 2 (.done)))) (by kernel_rfl) ?_
                    refine q_move rfl rfl rfl rfl ?_
                    refine q_int rfl rfl rfl rfl rfl (b_add' _ (by (first | exact fits_i64 (by omega) (by omega) | exact fits_u64 (by omega) (by omega) | exact fits_u32 (by omega) (by omega) | exact fits_u8 (by omega) (by omega)))) ?_
                    refine q_assign rfl rfl rfl rfl ?_
                    refine r_done ?_
                    refine s_keep [1, 5, 7, 9, 10, 11, 12] (e' := [(1, _), (5, _), (7, _), (9, _), (10, _), (11, _), (12, _)]) rfl ?_
                    refine k_then_n ?_
                    refine loop_next (x := (i, b, q, x, o)) ((i + 1, b, q, x, o)) ?_ ?_ ?_ ?_
                    · try dsimp only
                      exact ⟨by omega, hx, by omega, fun z hz => ⟨(ho z hz).1, by have := (ho z hz).2; omega⟩⟩
                    · show k - (i + 1) < k - i; omega
                    · exact ⟨rfl, rfl, rfl, rfl, rfl, rfl, rfl, trivial⟩
                    · (try simp only [List.cons_append, List.nil_append]); (repeat ((with_reducible apply Takes.cons); focus (first | (with_reducible (repeat (first | exact Take.here | apply Take.there)); done) | (repeat (first | exact Take.here | apply Take.there))))); (repeat (first | exact Takes.nil | exact Takes.self | refine takes_drop2 ?_))
                · skip
                  refine c_skip ?_
                  refine k_blk_n ?_
                  refine k_blk_n ?_
                  refine k_then_n ?_
                  refine c_plain (.q 0 (.q 1 (.q 2 (.done)))) (by kernel_rfl) ?_
                  refine q_move rfl rfl rfl rfl ?_
                  refine q_int rfl rfl rfl rfl rfl (b_add' _ (by (first | exact fits_i64 (by omega) (by omega) | exact fits_u64 (by omega) (by omega) | exact fits_u32 (by omega) (by omega) | exact fits_u8 (by omega) (by omega)))) ?_
                  refine q_assign rfl rfl rfl rfl ?_
                  refine r_done ?_
                  refine k_then_n ?_
                  refine loop_next (x := (i, b, q, x, o)) ((i + 1, b, q, x, o)) ?_ ?_ ?_ ?_
                  · try dsimp only
                    exact ⟨by omega, hx, by omega, fun z hz => ⟨(ho z hz).1, by have := (ho z hz).2; omega⟩⟩
                  · show k - (i + 1) < k - i; omega
                  · exact ⟨rfl, rfl, rfl, rfl, rfl, rfl, rfl, trivial⟩
                  · (try simp only [List.cons_append, List.nil_append]); (repeat ((with_reducible apply Takes.cons); focus (first | (with_reducible (repeat (first | exact Take.here | apply Take.there)); done) | (repeat (first | exact Take.here | apply Take.there))))); (repeat (first | exact Takes.nil | exact Takes.self | refine takes_drop2 ?_))
        · skip
          refine c_plain (.q 0 (.q 1 (.done))) (by kernel_rfl) ?_
          refine q_int rfl rfl rfl rfl rfl (b_eql _ _ _ _) ?_
          refine q_assign rfl rfl rfl rfl ?_
          refine r_done ?_
          refine s_keep [1, 5, 7, 9, 10, 11, 12, 66, 78] (e' := [(1, _), (5, _), (7, _), (9, _), (10, _), (11, _), (12, _), (66, _), (78, _)]) rfl ?_
          refine k_then_n ?_
          refine c_cond_p rfl (fun h_15 => ?_) (fun h_15 => ?_)
          · skip
            refine c_seq ?_
            refine c_plain (.q 0 (.q 1 ((.l 2 [] (.q 3 (.done)))))) (by kernel_rfl) ?_
            refine q_move rfl rfl rfl rfl ?_
            refine q_move rfl rfl rfl rfl ?_
            have sp_16 := told_spec b q x hx
            refine l_call rfl rfl rfl rfl rfl rfl Try.call33 (sp_16) (by (repeat ((with_reducible apply Takes.cons); focus (first | (with_reducible (repeat (first | exact Take.here | apply Take.there)); done) | (repeat (first | exact Take.here | apply Take.there))))); exact Takes.nil) ?_
            rintro ⟨⟩ -
            try simp only [List.cons_append, List.nil_append]
            refine ag_nil ?_
            refine q_not rfl rfl rfl rfl ?_
            refine s_eq 84 rfl (v' := .bool false) rfl ?_
            refine r_done ?_
            refine s_keep [1, 5, 7, 9, 10, 11, 12, 84] (e' := [(1, _), (5, _), (7, _), (9, _), (10, _), (11, _), (12, _), (84, _)]) rfl ?_
            refine k_then_n ?_
            refine c_cond_f rfl ?_
            refine c_skip ?_
            refine k_blk_n ?_
            refine k_blk_n ?_
            refine k_then_n ?_
            refine c_plain (.q 0 (.q 1 (.q 2 (.done)))) (by kernel_rfl) ?_
            refine q_move rfl rfl rfl rfl ?_
            refine q_int rfl rfl rfl rfl rfl (b_add' _ (by (first | exact fits_i64 (by omega) (by omega) | exact fits_u64 (by omega) (by omega) | exact fits_u32 (by omega) (by omega) | exact fits_u8 (by omega) (by omega)))) ?_
            refine q_assign rfl rfl rfl rfl ?_
            refine r_done ?_
            refine k_then_n ?_
            refine loop_next (x := (i, b, q, x, o)) ((i + 1, b, q, x, o)) ?_ ?_ ?_ ?_
            · try dsimp only
              exact ⟨by omega, hx, by omega, fun z hz => ⟨(ho z hz).1, by have := (ho z hz).2; omega⟩⟩
            · show k - (i + 1) < k - i; omega
            · exact ⟨rfl, rfl, rfl, rfl, rfl, rfl, rfl, trivial⟩
            · (try simp only [List.cons_append, List.nil_append]); (repeat ((with_reducible apply Takes.cons); focus (first | (with_reducible (repeat (first | exact Take.here | apply Take.there)); done) | (repeat (first | exact Take.here | apply Take.there))))); (repeat (first | exact Takes.nil | exact Takes.self | refine takes_drop2 ?_))
          · skip
            refine c_seq ?_
            refine c_plain (.q 0 (.q 1 (.done))) (by kernel_rfl) ?_
            refine q_int rfl rfl rfl rfl rfl (b_eql _ _ _ _) ?_
            refine q_assign rfl rfl rfl rfl ?_
            refine r_done ?_
            refine k_then_n ?_
            refine c_cond_p rfl (fun h_17 => ?_) (fun h_17 => ?_)
            · skip
              refine c_seq ?_
              refine c_draw rfl (.q 0 (.q 2 (.q 3 (.q 4 (.q 5 ((.l 1 [5] (.q 6 (.done))))))))) (by kernel_rfl) ?_
              refine q_move rfl rfl rfl rfl ?_
              refine q_move rfl rfl rfl rfl ?_
              refine q_nil_p rfl rfl rfl rfl ?_
              refine s_take (A := ch q x) (by with_reducible (repeat (first | exact Take.here | apply Take.there))) ?_
              refine ch_open fun ar cr ac cc => ?_
              refine q_field (k := 3) rfl rfl rfl rfl Try.underlying71 rfl Try.sizeOf3 rfl ?_
              refine q_load_c (j := 3) rfl rfl rfl rfl Try.isAgg3 (by with_reducible (repeat (first | exact Take.here | apply Take.there))) (by first | rfl | exact (Nat.add_zero _).symm) (by rfl) ?_
              have sp_18 := made_spec b x hx.ok
              refine l_call rfl rfl rfl rfl rfl rfl Try.call28 (sp_18) (by (repeat ((with_reducible apply Takes.cons); focus (first | (with_reducible (repeat (first | exact Take.here | apply Take.there)); done) | (repeat (first | exact Take.here | apply Take.there))))); exact Takes.nil) ?_
              rintro ⟨⟩ -
              try simp only [List.cons_append, List.nil_append]
              refine ag_load_c (q := 3) rfl rfl rfl Try.isAgg3 (by with_reducible (repeat (first | exact Take.here | apply Take.there))) (by first | rfl | exact (Nat.add_zero _).symm) (by rfl) ?_
              refine ag_nil ?_
              refine q_int rfl rfl rfl rfl rfl (b_neq _ _ _ _) ?_
              refine r_done ?_
              refine ch_fold (b := q) (d := x.d) (rk := x.rk) (chs := x.chs) (m := x.m) (by (repeat ((with_reducible apply Takes.cons); focus (first | (with_reducible (repeat (first | exact Take.here | apply Take.there)); done) | (repeat (first | exact Take.here | apply Take.there))))); exact Takes.nil) (by rfl) (by rfl) ?_
              refine s_keep [1, 5, 7, 9, 10, 11, 12, 93] (e' := [(1, _), (5, _), (7, _), (9, _), (10, _), (11, _), (12, _), (93, _)]) rfl ?_
              refine k_then_n ?_
              refine c_cond_p rfl (fun hg => by exfalso; first | exact hg rfl | exact hg trivial | simp at hg) (fun hg => ?_)
              refine c_skip ?_
              refine k_blk_n ?_
              refine k_blk_n ?_
              refine k_then_n ?_
              refine c_plain (.q 0 (.q 1 (.q 2 (.done)))) (by kernel_rfl) ?_
              refine q_move rfl rfl rfl rfl ?_
              refine q_int rfl rfl rfl rfl rfl (b_add' _ (by (first | exact fits_i64 (by omega) (by omega) | exact fits_u64 (by omega) (by omega) | exact fits_u32 (by omega) (by omega) | exact fits_u8 (by omega) (by omega)))) ?_
              refine q_assign rfl rfl rfl rfl ?_
              refine r_done ?_
              refine k_then_n ?_
              refine loop_next (x := (i, b, q, x, o)) ((i + 1, b, q, x, o)) ?_ ?_ ?_ ?_
              · try dsimp only
                exact ⟨by omega, hx, by omega, fun z hz => ⟨(ho z hz).1, by have := (ho z hz).2; omega⟩⟩
              · show k - (i + 1) < k - i; omega
              · exact ⟨rfl, rfl, rfl, rfl, rfl, rfl, rfl, trivial⟩
              · (try simp only [List.cons_append, List.nil_append]); (repeat ((with_reducible apply Takes.cons); focus (first | (with_reducible (repeat (first | exact Take.here | apply Take.there)); done) | (repeat (first | exact Take.here | apply Take.there))))); (repeat (first | exact Takes.nil | exact Takes.self | refine takes_drop2 ?_))
            · skip
              refine c_seq ?_
              refine c_plain (.q 0 (.q 1 (.done))) (by kernel_rfl) ?_
              refine q_int rfl rfl rfl rfl rfl (b_eql _ _ _ _) ?_
              refine q_assign rfl rfl rfl rfl ?_
              refine r_done ?_
              refine s_keep [1, 5, 7, 9, 10, 11, 12, 66, 94] (e' := [(1, _), (5, _), (7, _), (9, _), (10, _), (11, _), (12, _), (66, _), (94, _)]) rfl ?_
              refine k_then_n ?_
              refine c_cond_p rfl (fun h_19 => ?_) (fun h_19 => ?_)
              · skip
                refine c_seq ?_
                refine c_plain (.q 0 (.q 1 (.q 2 (.q 3 (.done))))) (by kernel_rfl) ?_
                refine q_move rfl rfl rfl rfl ?_
                refine q_move rfl rfl rfl rfl ?_
                refine q_assign rfl rfl rfl rfl ?_
                refine q_assign rfl rfl rfl rfl ?_
                refine r_done ?_
                refine s_keep [1, 9, 10, 11, 12] (e' := [(1, _), (9, _), (10, _), (11, _), (12, _)]) rfl ?_
                refine k_then_n ?_
                refine c_seq ?_
                refine c_plain (.q 0 ((.l 1 [] (.q 2 ((.l 3 [] (.q 4 (.q 5 (.done))))))))) (by kernel_rfl) ?_
                refine q_move rfl rfl rfl rfl ?_
                have sp_20 := copy_spec b x hx.ok
                refine l_call rfl rfl rfl rfl rfl rfl Try.call34 (sp_20) (by (repeat ((with_reducible apply Takes.cons); focus (first | (with_reducible (repeat (first | exact Take.here | apply Take.there)); done) | (repeat (first | exact Take.here | apply Take.there))))); exact Takes.nil) ?_
                rintro nb -
                try simp only [List.cons_append, List.nil_append]
                refine ag_nil ?_
                refine q_move rfl rfl rfl rfl ?_
                have sp_21 := rcopy_spec q x hx.ok
                refine l_call rfl rfl rfl rfl rfl rfl Try.call35 (sp_21) (by (repeat ((with_reducible apply Takes.cons); focus (first | (with_reducible (repeat (first | exact Take.here | apply Take.there)); done) | (repeat (first | exact Take.here | apply Take.there))))); exact Takes.nil) ?_
                rintro nq -
                try simp only [List.cons_append, List.nil_append]
                refine ag_nil ?_
                refine q_assign rfl rfl rfl rfl ?_
                refine q_assign rfl rfl rfl rfl ?_
                refine r_done ?_
                refine s_keep [1, 5, 7, 9, 10, 11, 12] (e' := [(1, _), (5, _), (7, _), (9, _), (10, _), (11, _), (12, _)]) rfl ?_
                refine k_then_n ?_
                refine c_seq ?_
                refine c_plain (.q 0 (.q 1 (.done))) (by kernel_rfl) ?_
                refine q_move rfl rfl rfl rfl ?_
                refine q_eq_nil rfl rfl rfl rfl Try.underlying50 ?_
                refine s_eq 103 rfl (v' := .bool false) rfl ?_
                refine r_done ?_
                refine k_then_n ?_
                refine c_cond_f rfl ?_
                refine c_skip ?_
                refine k_blk_n ?_
                refine k_blk_n ?_
                refine k_then_n ?_
                refine c_plain (.q 0 (.q 1 (.q 2 (.done)))) (by kernel_rfl) ?_
                refine q_move rfl rfl rfl rfl ?_
                refine q_int rfl rfl rfl rfl rfl (b_add' _ (by (first | exact fits_i64 (by omega) (by omega) | exact fits_u64 (by omega) (by omega) | exact fits_u32 (by omega) (by omega) | exact fits_u8 (by omega) (by omega)))) ?_
                refine q_assign rfl rfl rfl rfl ?_
                refine r_done ?_
                refine s_keep [1, 5, 7, 9, 10, 11, 12] (e' := [(1, _), (5, _), (7, _), (9, _), (10, _), (11, _), (12, _)]) rfl ?_
                refine k_then_n ?_
                refine oth_fold (b := b) (q := q) (y := x) (by (repeat ((with_reducible apply Takes.cons); focus (first | (with_reducible (repeat (first | exact Take.here | apply Take.there)); done) | (repeat (first | exact Take.here | apply Take.there))))); exact Takes.nil) ?_
                refine loop_next (x := (i, b, q, x, o)) ((i + 1, nb, nq, x, some (b, q, x))) ?_ ?_ ?_ ?_
                · try dsimp only
                  exact ⟨by omega, hx, by omega, fun z hz => by cases hz; exact ⟨hx, by show x.m ≤ _; omega⟩⟩
                · show k - (i + 1) < k - i; omega
                · exact ⟨rfl, rfl, rfl, rfl, rfl, rfl, rfl, trivial⟩
                · (try simp only [List.cons_append, List.nil_append]); (repeat ((with_reducible apply Takes.cons); focus (first | (with_reducible (repeat (first | exact Take.here | apply Take.there)); done) | (repeat (first | exact Take.here | apply Take.there))))); (repeat (first | exact Takes.nil | exact Takes.self | refine takes_drop2 ?_))
              · skip
                refine c_seq ?_
                refine c_plain (.q 0 (.q 1 (.done))) (by kernel_rfl) ?_
                refine q_int rfl rfl rfl rfl rfl (b_eql _ _ _ _) ?_
                refine q_assign rfl rfl rfl rfl ?_
                refine r_done ?_
                refine k_then_n ?_
                refine c_cond_p rfl (fun h_22 => ?_) (fun h_22 => ?_)
                · skip
                  refine c_seq ?_
                  refine c_plain (.q 0 (.q 1 (.done))) (by kernel_rfl) ?_
                  refine q_move rfl rfl rfl rfl ?_
                  refine q_ne_nil rfl rfl rfl rfl Try.underlying50 ?_
                  refine r_done ?_
                  refine s_keep [1, 5, 7, 9, 10, 11, 12, 107] (e' := [(1, _), (5, _), (7, _), (9, _), (10, _), (11, _), (12, _), (107, _)]) rfl ?_
                  refine k_then_n ?_
                  refine c_cond rfl (fun hon => ?_) (fun hon => ?_)
                  · skip
                    try simp only [Bool.and_eq_true, Bool.or_eq_true, Bool.not_eq_true', Bool.not_eq_false', Bool.and_eq_false_iff, Bool.or_eq_false_iff, decide_eq_true_eq, decide_eq_false_iff_not] at hon
                    obtain ⟨⟨b2, q2, y⟩, rfl⟩ : ∃ z, o = some z := by
                      cases o with
                      | none => exact absurd hon (by simp)
                      | some z => exact ⟨z, rfl⟩
                    refine s_take (A := oth (some (b2, q2, y))) (by with_reducible (repeat (first | exact Take.here | apply Take.there))) ?_
                    refine oth_open ?_
                    have hy1 : CInv y := (ho _ rfl).1
                    have hy2 : y.m ≤ (i : Int) := (ho _ rfl).2
                    refine c_seq ?_
                    refine c_plain (.q 0 (.q 1 (.q 2 (.q 3 (.done))))) (by kernel_rfl) ?_
                    refine q_move rfl rfl rfl rfl ?_
                    refine q_move rfl rfl rfl rfl ?_
                    refine q_assign rfl rfl rfl rfl ?_
                    refine q_assign rfl rfl rfl rfl ?_
                    refine r_done ?_
                    refine k_then_n ?_
                    refine c_plain (.q 0 (.q 1 (.q 2 (.q 3 (.done))))) (by kernel_rfl) ?_
                    refine q_move rfl rfl rfl rfl ?_
                    refine q_move rfl rfl rfl rfl ?_
                    refine q_assign rfl rfl rfl rfl ?_
                    refine q_assign rfl rfl rfl rfl ?_
                    refine r_done ?_
                    refine s_keep [1, 5, 7, 9, 10, 11, 12] (e' := [(1, _), (5, _), (7, _), (9, _), (10, _), (11, _), (12, _)]) rfl ?_
                    refine k_blk_n ?_
                    refine k_blk_n ?_
                    refine k_then_n ?_
                    refine c_plain (.q 0 (.q 1 (.q 2 (.done)))) (by kernel_rfl) ?_
                    refine q_move rfl rfl rfl rfl ?_
                    refine q_int rfl rfl rfl rfl rfl (b_add' _ (by (first | exact fits_i64 (by omega) (by omega) | exact fits_u64 (by omega) (by omega) | exact fits_u32 (by omega) (by omega) | exact fits_u8 (by omega) (by omega)))) ?_
                    refine q_assign rfl rfl rfl rfl ?_
                    refine r_done ?_
                    refine k_then_n ?_
                    refine oth_fold (b := b) (q := q) (y := x) (by (repeat ((with_reducible apply Takes.cons); focus (first | (with_reducible (repeat (first | exact Take.here | apply Take.there)); done) | (repeat (first | exact Take.here | apply Take.there))))); exact Takes.nil) ?_
                    refine loop_next (x := (i, b, q, x, some (b2, q2, y))) ((i + 1, b2, q2, y, some (b, q, x))) ?_ ?_ ?_ ?_
                    · try dsimp only
                      exact ⟨by omega, hy1, by omega, fun z hz => by cases hz; exact ⟨hx, by show x.m ≤ _; omega⟩⟩
                    · show k - (i + 1) < k - i; omega
                    · exact ⟨rfl, rfl, rfl, rfl, rfl, rfl, rfl, trivial⟩
                    · (try simp only [List.cons_append, List.nil_append]); (repeat ((with_reducible apply Takes.cons); focus (first | (with_reducible (repeat (first | exact Take.here | apply Take.there)); done) | (repeat (first | exact Take.here | apply Take.there))))); (repeat (first | exact Takes.nil | exact Takes.self | refine takes_drop2 ?_))
                  · skip
                    try simp only [Bool.and_eq_true, Bool.or_eq_true, Bool.not_eq_true', Bool.not_eq_false', Bool.and_eq_false_iff, Bool.or_eq_false_iff, decide_eq_true_eq, decide_eq_false_iff_not] at hon
                    refine c_skip ?_
                    refine k_blk_n ?_
                    refine k_blk_n ?_
                    refine k_then_n ?_
                    refine c_plain (.q 0 (.q 1 (.q 2 (.done)))) (by kernel_rfl) ?_
                    refine q_move rfl rfl rfl rfl ?_
                    refine q_int rfl rfl rfl rfl rfl (b_add' _ (by (first | exact fits_i64 (by omega) (by omega) | exact fits_u64 (by omega) (by omega) | exact fits_u32 (by omega) (by omega) | exact fits_u8 (by omega) (by omega)))) ?_
                    refine q_assign rfl rfl rfl rfl ?_
                    refine r_done ?_
                    refine k_then_n ?_
                    refine loop_next (x := (i, b, q, x, o)) ((i + 1, b, q, x, o)) ?_ ?_ ?_ ?_
                    · try dsimp only
                      exact ⟨by omega, hx, by omega, fun z hz => ⟨(ho z hz).1, by have := (ho z hz).2; omega⟩⟩
                    · show k - (i + 1) < k - i; omega
                    · exact ⟨rfl, rfl, rfl, rfl, rfl, rfl, rfl, trivial⟩
                    · (try simp only [List.cons_append, List.nil_append]); (repeat ((with_reducible apply Takes.cons); focus (first | (with_reducible (repeat (first | exact Take.here | apply Take.there)); done) | (repeat (first | exact Take.here | apply Take.there))))); (repeat (first | exact Takes.nil | exact Takes.self | refine takes_drop2 ?_))
                · skip
                  refine c_skip ?_
                  refine k_blk_n ?_
                  refine k_blk_n ?_
                  refine k_then_n ?_
                  refine c_plain (.q 0 (.q 1 (.q 2 (.done)))) (by kernel_rfl) ?_
                  refine q_move rfl rfl rfl rfl ?_
                  refine q_int rfl rfl rfl rfl rfl (b_add' _ (by (first | exact fits_i64 (by omega) (by omega) | exact fits_u64 (by omega) (by omega) | exact fits_u32 (by omega) (by omega) | exact fits_u8 (by omega) (by omega)))) ?_
                  refine q_assign rfl rfl rfl rfl ?_
                  refine r_done ?_
                  refine s_keep [1, 5, 7, 9, 10, 11, 12] (e' := [(1, _), (5, _), (7, _), (9, _), (10, _), (11, _), (12, _)]) rfl ?_
                  refine k_then_n ?_
                  refine loop_next (x := (i, b, q, x, o)) ((i + 1, b, q, x, o)) ?_ ?_ ?_ ?_
                  · try dsimp only
                    exact ⟨by omega, hx, by omega, fun z hz => ⟨(ho z hz).1, by have := (ho z hz).2; omega⟩⟩
                  · show k - (i + 1) < k - i; omega
                  · exact ⟨rfl, rfl, rfl, rfl, rfl, rfl, rfl, trivial⟩
                  · (try simp only [List.cons_append, List.nil_append]); (repeat ((with_reducible apply Takes.cons); focus (first | (with_reducible (repeat (first | exact Take.here | apply Take.there)); done) | (repeat (first | exact Take.here | apply Take.there))))); (repeat (first | exact Takes.nil | exact Takes.self | refine takes_drop2 ?_))
    · skip
      refine c_exit ?_
      refine k_then_exit ?_
      refine k_then_exit ?_
      refine k_blk_here ?_
      refine k_then_n ?_
      refine c_seq ?_
      refine c_plain (.q 0 (.q 1 ((.l 2 [] (.q 3 (.q 4 (.q 5 (.q 6 (.q 7 (.q 8 ((.l 9 [] (.q 10 (.q 11 (.q 12 ((.l 13 [] (.q 14 (.q 15 (.done)))))))))))))))))))) (by kernel_rfl) ?_
      refine q_move rfl rfl rfl rfl ?_
      refine q_move rfl rfl rfl rfl ?_
      have sp_23 := told_spec b q x hx
      refine l_call rfl rfl rfl rfl rfl rfl Try.call33 (sp_23) (by (repeat ((with_reducible apply Takes.cons); focus (first | (with_reducible (repeat (first | exact Take.here | apply Take.there)); done) | (repeat (first | exact Take.here | apply Take.there))))); exact Takes.nil) ?_
      rintro ⟨⟩ -
      try simp only [List.cons_append, List.nil_append]
      refine ag_nil ?_
      refine q_move rfl rfl rfl rfl ?_
      refine q_move rfl rfl rfl rfl ?_
      refine q_eq_nil rfl rfl rfl rfl Try.underlying50 ?_
      refine q_move rfl rfl rfl rfl ?_
      refine s_bool 118 rfl (fun hon => ?_) (fun hon => ?_)
      · skip
        try simp only [Bool.and_eq_true, Bool.or_eq_true, Bool.not_eq_true', Bool.not_eq_false', Bool.and_eq_false_iff, Bool.or_eq_false_iff, decide_eq_true_eq, decide_eq_false_iff_not] at hon
        refine q_skip rfl rfl rfl rfl ?_
        refine q_skip rfl rfl rfl rfl ?_
        refine l_skip rfl rfl rfl rfl ?_
        refine q_pick_t rfl rfl rfl rfl rfl ?_
        refine q_pick_t rfl rfl rfl rfl rfl ?_
        refine q_move rfl rfl rfl rfl ?_
        refine l_call rfl rfl rfl rfl rfl rfl Try.call15 (known_spec) (by (repeat ((with_reducible apply Takes.cons); focus (first | (with_reducible (repeat (first | exact Take.here | apply Take.there)); done) | (repeat (first | exact Take.here | apply Take.there))))); exact Takes.nil) ?_
        rintro ⟨⟩ -
        try simp only [List.cons_append, List.nil_append]
        refine ag_nil ?_
        refine q_pick_t rfl rfl rfl rfl rfl ?_
        refine q_assign rfl rfl rfl rfl ?_
        refine r_done ?_
        refine s_keep [4] (e' := [(4, _)]) rfl ?_
        refine k_then_n ?_
        refine c_ret ?_
        refine ret1 rfl rfl (()) (by first | rfl | (first | rfl | (congr 1; done) | (congr 1 <;> first | rfl | omega | (simp; done) | (simp; omega)))) (by trivial) ?_
        (repeat ((with_reducible apply Takes.cons); focus (first | (with_reducible (repeat (first | exact Take.here | apply Take.there)); done) | (repeat (first | exact Take.here | apply Take.there))))); (repeat (first | exact Takes.nil | exact Takes.self | refine takes_drop2 ?_))
      · skip
        try simp only [Bool.and_eq_true, Bool.or_eq_true, Bool.not_eq_true', Bool.not_eq_false', Bool.and_eq_false_iff, Bool.or_eq_false_iff, decide_eq_true_eq, decide_eq_false_iff_not] at hon
        obtain ⟨⟨b2, q2, y⟩, rfl⟩ : ∃ z, o = some z := by
          cases o with
          | none => exact absurd hon (by simp)
          | some z => exact ⟨z, rfl⟩
        refine s_take (A := oth (some (b2, q2, y))) (by with_reducible (repeat (first | exact Take.here | apply Take.there))) ?_
        refine oth_open ?_
        have hy1 : CInv y := (ho _ rfl).1
        have hy2 : y.m ≤ (i : Int) := (ho _ rfl).2
        refine q_move rfl rfl rfl rfl ?_
        refine q_move rfl rfl rfl rfl ?_
        have sp_24 := told_spec b2 q2 y hy1
        refine l_call rfl rfl rfl rfl rfl rfl Try.call33 (sp_24) (by (repeat ((with_reducible apply Takes.cons); focus (first | (with_reducible (repeat (first | exact Take.here | apply Take.there)); done) | (repeat (first | exact Take.here | apply Take.there))))); exact Takes.nil) ?_
        rintro ⟨⟩ -
        try simp only [List.cons_append, List.nil_append]
        refine ag_nil ?_
        refine q_pick_f rfl rfl rfl rfl rfl ?_
        refine q_pick_t rfl rfl rfl rfl rfl ?_
        refine q_move rfl rfl rfl rfl ?_
        refine l_call rfl rfl rfl rfl rfl rfl Try.call15 (known_spec) (by (repeat ((with_reducible apply Takes.cons); focus (first | (with_reducible (repeat (first | exact Take.here | apply Take.there)); done) | (repeat (first | exact Take.here | apply Take.there))))); exact Takes.nil) ?_
        rintro ⟨⟩ -
        try simp only [List.cons_append, List.nil_append]
        refine ag_nil ?_
        refine q_pick_t rfl rfl rfl rfl rfl ?_
        refine q_assign rfl rfl rfl rfl ?_
        refine r_done ?_
        refine s_keep [4] (e' := [(4, _)]) rfl ?_
        refine k_then_n ?_
        refine c_ret ?_
        refine ret1 rfl rfl (()) (by first | rfl | (first | rfl | (congr 1; done) | (congr 1 <;> first | rfl | omega | (simp; done) | (simp; omega)))) (by trivial) ?_
        (repeat ((with_reducible apply Takes.cons); focus (first | (with_reducible (repeat (first | exact Take.here | apply Take.there)); done) | (repeat (first | exact Take.here | apply Take.there))))); (repeat (first | exact Takes.nil | exact Takes.self | refine takes_drop2 ?_))
  · skip
    refine c_skip ?_
    refine k_then_n ?_
    refine c_seq ?_
    refine c_seq ?_
    have hxn := new_inv (s := s) hok
    refine oth_nil ?_
    refine c_plain (.q 0 (.done)) (by kernel_rfl) ?_
    refine q_assign rfl rfl rfl rfl ?_
    refine r_done ?_
    refine s_keep [1, 5, 7, 9, 10, 11, 12] (e' := [(1, _), (5, _), (7, _), (9, _), (10, _), (11, _), (12, _)]) rfl ?_
    refine k_then_n ?_
    refine c_block ?_
    refine c_loop2 (α := Nat × Nat × Nat × Chs × Option (Nat × Nat × Chs)) (fun (x_ : Nat × Nat × Nat × Chs × Option (Nat × Nat × Chs)) => match x_ with | (i, b, q, x, o) => i ≤ k ∧ (CInv x) ∧ (x.m ≤ (i : Int)) ∧ (∀ z, o = some z → CInv z.2.2 ∧ z.2.2.m ≤ (i : Int))) (fun (x_ : Nat × Nat × Nat × Chs × Option (Nat × Nat × Chs)) => match x_ with | (i, b, q, x, o) => [(5, .pointer (some ⟨b, 0, none⟩)), (7, .pointer (some ⟨q, 0, none⟩)), (9, .pointer (o.map fun z => (⟨z.1, 0, none⟩ : Addr))), (10, .pointer (o.map fun z => (⟨z.2.1, 0, none⟩ : Addr))), (12, .int .i64 ((i : Nat) : Int))]) (fun (x_ : Nat × Nat × Nat × Chs × Option (Nat × Nat × Chs)) => match x_ with | (i, b, q, x, o) => [ch b x, ch q x, oth o]) (fun (x_ : Nat × Nat × Nat × Chs × Option (Nat × Nat × Chs)) => match x_ with | (i, b, q, x, o) => k - i) [1, 11] (er := [(1, _), (11, _)]) rfl (0, bc, bq, newX s n d st, none) ?_ (by exact ⟨rfl, rfl, rfl, rfl, rfl, trivial⟩) (by (try dsimp only); (try simp only [Nat.add_zero, Nat.zero_add]); (repeat ((with_reducible apply Takes.cons); focus (first | (with_reducible (repeat (first | exact Take.here | apply Take.there)); done) | (repeat (first | exact Take.here | apply Take.there))))); exact Takes.nil) ?_
    · exact ⟨Nat.zero_le _, hxn, Int.le_refl _, fun z hz => by cases hz⟩
    rintro ⟨i, b, q, x, o⟩ ⟨hle_i, hx, hxm, ho⟩
    try simp only [List.cons_append, List.nil_append]
    refine c_seq ?_
    refine c_seq ?_
    refine c_plain (.q 0 (.q 1 (.q 2 (.done)))) (by kernel_rfl) ?_
    refine q_move rfl rfl rfl rfl ?_
    refine q_move rfl rfl rfl rfl ?_
    refine q_int rfl rfl rfl rfl rfl (b_lss _ _ _ _) ?_
    refine r_done ?_
    refine k_then_n ?_
    refine c_cond_p rfl (fun hlt => ?_) (fun hlt => ?_)
    · skip
      refine c_skip ?_
      refine k_then_n ?_
      refine c_seq ?_
      refine c_block ?_
      refine c_seq ?_
      refine c_plain (.q 0 (.q 1 (.q 2 (.q 3 (.q 4 (.done)))))) (by kernel_rfl) ?_
      refine q_move rfl rfl rfl rfl ?_
      refine q_move rfl rfl rfl rfl ?_
      obtain ⟨s_, hs_⟩ := get_lt (l := L) (i := i) (by first | omega | (simp; done) | (simp; omega))
      have hsb := hb2 _ (List.mem_of_getElem? hs_)
      refine q_idxR (sz := 1) (k := i) rfl rfl rfl rfl rfl Try.underlying62 Try.sizeOf67 (hr) hs_ encSt_len (by first | rfl | omega) (by omega) ?_
      intro ib64 io64 _ hd64
      refine q_field (k := 0) rfl rfl rfl rfl Try.underlying67 rfl Try.sizeOf3 rfl ?_
      refine q_load rfl rfl rfl rfl Try.isAgg3 (by with_reducible (repeat (first | exact Take.here | apply Take.there))) (hd64 0 (.int .i64 s_.1) rfl) ?_
      refine r_done ?_
      refine s_keep [1, 5, 7, 9, 10, 11, 12, 66] (e' := [(1, _), (5, _), (7, _), (9, _), (10, _), (11, _), (12, _), (66, _)]) rfl ?_
      refine k_then_n ?_
      refine c_block ?_
      refine c_seq ?_
      refine c_plain (.q 0 (.q 1 (.done))) (by kernel_rfl) ?_
      refine q_int rfl rfl rfl rfl rfl (b_eql _ _ _ _) ?_
      refine q_assign rfl rfl rfl rfl ?_
      refine r_done ?_
      refine k_then_n ?_
      refine c_cond_p rfl (fun h_25 => ?_) (fun h_25 => ?_)
      · skip
        refine c_seq ?_
        refine c_plain (.q 0 (.q 1 (.q 2 (.q 3 (.q 4 (.q 5 (.q 6 ((.l 7 [] (.q 8 (.done))))))))))) (by kernel_rfl) ?_
        refine q_move rfl rfl rfl rfl ?_
        refine q_move rfl rfl rfl rfl ?_
        refine q_move rfl rfl rfl rfl ?_
        refine q_move rfl rfl rfl rfl ?_
        refine q_idxR (sz := 1) (k := i) rfl rfl rfl rfl rfl Try.underlying62 Try.sizeOf67 (hr) hs_ encSt_len (by first | rfl | omega) (by omega) ?_
        intro ib73 io73 _ hd73
        refine q_field (k := 1) rfl rfl rfl rfl Try.underlying67 rfl Try.sizeOf53 rfl ?_
        refine q_load rfl rfl rfl rfl Try.isAgg53 (by with_reducible (repeat (first | exact Take.here | apply Take.there))) (hd73 1 (.slice s_.2.1 s_.2.2.2.length s_.2.2.1) rfl) ?_
        have sp_26 := chooses_spec b q x hx (by omega) s_.2.2.2 s_.2.1 s_.2.2.2.length s_.2.2.1 A rfl (hc _ (List.mem_of_getElem? hs_)) (by omega)
        refine l_call rfl rfl rfl rfl rfl rfl Try.call32 (sp_26) (by (repeat ((with_reducible apply Takes.cons); focus (first | (with_reducible (repeat (first | exact Take.here | apply Take.there)); done) | (repeat (first | exact Take.here | apply Take.there))))); exact Takes.nil) ?_
        rintro ⟨⟩ -
        try simp only [List.cons_append, List.nil_append]
        refine ag_nil ?_
        refine q_not rfl rfl rfl rfl ?_
        refine s_eq 77 rfl (v' := .bool false) rfl ?_
        refine r_done ?_
        refine s_keep [1, 5, 7, 9, 10, 11, 12, 77] (e' := [(1, _), (5, _), (7, _), (9, _), (10, _), (11, _), (12, _), (77, _)]) rfl ?_
        refine k_then_n ?_
        refine c_cond_f rfl ?_
        refine c_skip ?_
        refine k_blk_n ?_
        refine k_blk_n ?_
        refine k_then_n ?_
        refine c_plain (.q 0 (.q 1 (.q 2 (.done)))) (by kernel_rfl) ?_
        refine q_move rfl rfl rfl rfl ?_
        refine q_int rfl rfl rfl rfl rfl (b_add' _ (by (first | exact fits_i64 (by omega) (by omega) | exact fits_u64 (by omega) (by omega) | exact fits_u32 (by omega) (by omega) | exact fits_u8 (by omega) (by omega)))) ?_
        refine q_assign rfl rfl rfl rfl ?_
        refine r_done ?_
        refine k_then_n ?_
        refine loop_next (x := (i, b, q, x, o)) ((i + 1, b, q, chzX x s_.2.2.2, o)) ?_ ?_ ?_ ?_
        · try dsimp only
          exact ⟨by omega, chz_inv hx _, by have := chz_m_le x s_.2.2.2; omega, fun z hz => ⟨(ho z hz).1, by have := (ho z hz).2; omega⟩⟩
        · show k - (i + 1) < k - i; omega
        · exact ⟨rfl, rfl, rfl, rfl, rfl, rfl, rfl, trivial⟩
        · (try simp only [List.cons_append, List.nil_append]); (repeat ((with_reducible apply Takes.cons); focus (first | (with_reducible (repeat (first | exact Take.here | apply Take.there)); done) | (repeat (first | exact Take.here | apply Take.there))))); (repeat (first | exact Takes.nil | exact Takes.self | refine takes_drop2 ?_))
      · skip
        refine c_seq ?_
        refine c_seq ?_
        refine c_plain (.q 0 (.q 1 (.done))) (by kernel_rfl) ?_
        refine q_int rfl rfl rfl rfl rfl (b_eql _ _ _ _) ?_
        refine q_assign rfl rfl rfl rfl ?_
        refine r_done ?_
        refine k_then_n ?_
        refine c_cond_p rfl (fun h_27 => ?_) (fun h_27 => ?_)
        · skip
          refine c_skip ?_
          refine k_then_n ?_
          refine c_cond_p rfl (fun h_28 => ?_) (fun h_28 => ?_)
          · skip
            refine c_seq ?_
            refine c_plain (.q 0 (.q 1 ((.l 2 [] (.q 3 (.done)))))) (by kernel_rfl) ?_
            refine q_move rfl rfl rfl rfl ?_
            refine q_move rfl rfl rfl rfl ?_
            have sp_29 := told_spec b q x hx
            refine l_call rfl rfl rfl rfl rfl rfl Try.call33 (sp_29) (by (repeat ((with_reducible apply Takes.cons); focus (first | (with_reducible (repeat (first | exact Take.here | apply Take.there)); done) | (repeat (first | exact Take.here | apply Take.there))))); exact Takes.nil) ?_
            rintro ⟨⟩ -
            try simp only [List.cons_append, List.nil_append]
            refine ag_nil ?_
            refine q_not rfl rfl rfl rfl ?_
            refine s_eq 84 rfl (v' := .bool false) rfl ?_
            refine r_done ?_
            refine s_keep [1, 5, 7, 9, 10, 11, 12, 84] (e' := [(1, _), (5, _), (7, _), (9, _), (10, _), (11, _), (12, _), (84, _)]) rfl ?_
            refine k_then_n ?_
            refine c_cond_f rfl ?_
            refine c_skip ?_
            refine k_blk_n ?_
            refine k_blk_n ?_
            refine k_then_n ?_
            refine c_plain (.q 0 (.q 1 (.q 2 (.done)))) (by kernel_rfl) ?_
            refine q_move rfl rfl rfl rfl ?_
            refine q_int rfl rfl rfl rfl rfl (b_add' _ (by (first | exact fits_i64 (by omega) (by omega) | exact fits_u64 (by omega) (by omega) | exact fits_u32 (by omega) (by omega) | exact fits_u8 (by omega) (by omega)))) ?_
            refine q_assign rfl rfl rfl rfl ?_
            refine r_done ?_
            refine k_then_n ?_
            refine loop_next (x := (i, b, q, x, o)) ((i + 1, b, q, x, o)) ?_ ?_ ?_ ?_
            · try dsimp only
              exact ⟨by omega, hx, by omega, fun z hz => ⟨(ho z hz).1, by have := (ho z hz).2; omega⟩⟩
            · show k - (i + 1) < k - i; omega
            · exact ⟨rfl, rfl, rfl, rfl, rfl, rfl, rfl, trivial⟩
            · (try simp only [List.cons_append, List.nil_append]); (repeat ((with_reducible apply Takes.cons); focus (first | (with_reducible (repeat (first | exact Take.here | apply Take.there)); done) | (repeat (first | exact Take.here | apply Take.there))))); (repeat (first | exact Takes.nil | exact Takes.self | refine takes_drop2 ?_))
          · skip
            refine c_seq ?_
            refine c_plain (.q 0 (.q 1 (.done))) (by kernel_rfl) ?_
            refine q_int rfl rfl rfl rfl rfl (b_eql _ _ _ _) ?_
            refine q_assign rfl rfl rfl rfl ?_
            refine r_done ?_
            refine s_keep [1, 5, 7, 9, 10, 11, 12, 66, 85] (e' := [(1, _), (5, _), (7, _), (9, _), (10, _), (11, _), (12, _), (66, _), (85, _)]) rfl ?_
            refine k_then_n ?_
            refine c_cond_p rfl (fun h_30 => ?_) (fun h_30 => ?_)
            · skip
              refine c_seq ?_
              refine c_draw rfl (.q 0 (.q 2 (.q 3 (.q 4 (.q 5 ((.l 1 [5] (.q 6 (.done))))))))) (by kernel_rfl) ?_
              refine q_move rfl rfl rfl rfl ?_
              refine q_move rfl rfl rfl rfl ?_
              refine q_nil_p rfl rfl rfl rfl ?_
              refine s_take (A := ch q x) (by with_reducible (repeat (first | exact Take.here | apply Take.there))) ?_
              refine ch_open fun ar cr ac cc => ?_
              refine q_field (k := 3) rfl rfl rfl rfl Try.underlying71 rfl Try.sizeOf3 rfl ?_
              refine q_load_c (j := 3) rfl rfl rfl rfl Try.isAgg3 (by with_reducible (repeat (first | exact Take.here | apply Take.there))) (by first | rfl | exact (Nat.add_zero _).symm) (by rfl) ?_
              have sp_31 := made_spec b x hx.ok
              refine l_call rfl rfl rfl rfl rfl rfl Try.call28 (sp_31) (by (repeat ((with_reducible apply Takes.cons); focus (first | (with_reducible (repeat (first | exact Take.here | apply Take.there)); done) | (repeat (first | exact Take.here | apply Take.there))))); exact Takes.nil) ?_
              rintro ⟨⟩ -
              try simp only [List.cons_append, List.nil_append]
              refine ag_load_c (q := 3) rfl rfl rfl Try.isAgg3 (by with_reducible (repeat (first | exact Take.here | apply Take.there))) (by first | rfl | exact (Nat.add_zero _).symm) (by rfl) ?_
              refine ag_nil ?_
              refine q_int rfl rfl rfl rfl rfl (b_neq _ _ _ _) ?_
              refine r_done ?_
              refine ch_fold (b := q) (d := x.d) (rk := x.rk) (chs := x.chs) (m := x.m) (by (repeat ((with_reducible apply Takes.cons); focus (first | (with_reducible (repeat (first | exact Take.here | apply Take.there)); done) | (repeat (first | exact Take.here | apply Take.there))))); exact Takes.nil) (by rfl) (by rfl) ?_
              refine s_keep [1, 5, 7, 9, 10, 11, 12, 93] (e' := [(1, _), (5, _), (7, _), (9, _), (10, _), (11, _), (12, _), (93, _)]) rfl ?_
              refine k_then_n ?_
              refine c_cond_p rfl (fun hg => by exfalso; first | exact hg rfl | exact hg trivial | simp at hg) (fun hg => ?_)
              refine c_skip ?_
              refine k_blk_n ?_
              refine k_blk_n ?_
              refine k_then_n ?_
              refine c_plain (.q 0 (.q 1 (.q 2 (.done)))) (by kernel_rfl) ?_
              refine q_move rfl rfl rfl rfl ?_
              refine q_int rfl rfl rfl rfl rfl (b_add' _ (by (first | exact fits_i64 (by omega) (by omega) | exact fits_u64 (by omega) (by omega) | exact fits_u32 (by omega) (by omega) | exact fits_u8 (by omega) (by omega)))) ?_
              refine q_assign rfl rfl rfl rfl ?_
              refine r_done ?_
              refine k_then_n ?_
              refine loop_next (x := (i, b, q, x, o)) ((i + 1, b, q, x, o)) ?_ ?_ ?_ ?_
              · try dsimp only
                exact ⟨by omega, hx, by omega, fun z hz => ⟨(ho z hz).1, by have := (ho z hz).2; omega⟩⟩
              · show k - (i + 1) < k - i; omega
              · exact ⟨rfl, rfl, rfl, rfl, rfl, rfl, rfl, trivial⟩
              · (try simp only [List.cons_append, List.nil_append]); (repeat ((with_reducible apply Takes.cons); focus (first | (with_reducible (repeat (first | exact Take.here | apply Take.there)); done) | (repeat (first | exact Take.here | apply Take.there))))); (repeat (first | exact Takes.nil | exact Takes.self | refine takes_drop2 ?_))
            · skip
              refine c_seq ?_
              refine c_plain (.q 0 (.q 1 (.done))) (by kernel_rfl) ?_
              refine q_int rfl rfl rfl rfl rfl (b_eql _ _ _ _) ?_
              refine q_assign rfl rfl rfl rfl ?_
              refine r_done ?_
              refine k_then_n ?_
              refine c_cond_p rfl (fun h_32 => ?_) (fun h_32 => ?_)
              · skip
                refine c_seq ?_
                refine c_plain (.q 0 (.q 1 (.q 2 (.q 3 (.done))))) (by kernel_rfl) ?_
                refine q_move rfl rfl rfl rfl ?_
                refine q_move rfl rfl rfl rfl ?_
                refine q_assign rfl rfl rfl rfl ?_
                refine q_assign rfl rfl rfl rfl ?_
                refine r_done ?_
                refine s_keep [1, 9, 10, 11, 12] (e' := [(1, _), (9, _), (10, _), (11, _), (12, _)]) rfl ?_
                refine k_then_n ?_
                refine c_seq ?_
                refine c_plain (.q 0 ((.l 1 [] (.q 2 ((.l 3 [] (.q 4 (.q 5 (.done))))))))) (by kernel_rfl) ?_
                refine q_move rfl rfl rfl rfl ?_
                have sp_33 := copy_spec b x hx.ok
                refine l_call rfl rfl rfl rfl rfl rfl Try.call34 (sp_33) (by (repeat ((with_reducible apply Takes.cons); focus (first | (with_reducible (repeat (first | exact Take.here | apply Take.there)); done) | (repeat (first | exact Take.here | apply Take.there))))); exact Takes.nil) ?_
                rintro nb -
                try simp only [List.cons_append, List.nil_append]
                refine ag_nil ?_
                refine q_move rfl rfl rfl rfl ?_
                have sp_34 := rcopy_spec q x hx.ok
                refine l_call rfl rfl rfl rfl rfl rfl Try.call35 (sp_34) (by (repeat ((with_reducible apply Takes.cons); focus (first | (with_reducible (repeat (first | exact Take.here | apply Take.there)); done) | (repeat (first | exact Take.here | apply Take.there))))); exact Takes.nil) ?_
                rintro nq -
                try simp only [List.cons_append, List.nil_append]
                refine ag_nil ?_
                refine q_assign rfl rfl rfl rfl ?_
                refine q_assign rfl rfl rfl rfl ?_
                refine r_done ?_
                refine s_keep [1, 5, 7, 9, 10, 11, 12] (e' := [(1, _), (5, _), (7, _), (9, _), (10, _), (11, _), (12, _)]) rfl ?_
                refine k_then_n ?_
                refine c_seq ?_
                refine c_plain (.q 0 (.q 1 (.done))) (by kernel_rfl) ?_
                refine q_move rfl rfl rfl rfl ?_
                refine q_eq_nil rfl rfl rfl rfl Try.underlying50 ?_
                refine s_eq 103 rfl (v' := .bool false) rfl ?_
                refine r_done ?_
                refine k_then_n ?_
                refine c_cond_f rfl ?_
                refine c_skip ?_
                refine k_blk_n ?_
                refine k_blk_n ?_
                refine k_then_n ?_
                refine c_plain (.q 0 (.q 1 (.q 2 (.done)))) (by kernel_rfl) ?_
                refine q_move rfl rfl rfl rfl ?_
                refine q_int rfl rfl rfl rfl rfl (b_add' _ (by (first | exact fits_i64 (by omega) (by omega) | exact fits_u64 (by omega) (by omega) | exact fits_u32 (by omega) (by omega) | exact fits_u8 (by omega) (by omega)))) ?_
                refine q_assign rfl rfl rfl rfl ?_
                refine r_done ?_
                refine s_keep [1, 5, 7, 9, 10, 11, 12] (e' := [(1, _), (5, _), (7, _), (9, _), (10, _), (11, _), (12, _)]) rfl ?_
                refine k_then_n ?_
                refine oth_fold (b := b) (q := q) (y := x) (by (repeat ((with_reducible apply Takes.cons); focus (first | (with_reducible (repeat (first | exact Take.here | apply Take.there)); done) | (repeat (first | exact Take.here | apply Take.there))))); exact Takes.nil) ?_
                refine loop_next (x := (i, b, q, x, o)) ((i + 1, nb, nq, x, some (b, q, x))) ?_ ?_ ?_ ?_
                · try dsimp only
                  exact ⟨by omega, hx, by omega, fun z hz => by cases hz; exact ⟨hx, by show x.m ≤ _; omega⟩⟩
                · show k - (i + 1) < k - i; omega
                · exact ⟨rfl, rfl, rfl, rfl, rfl, rfl, rfl, trivial⟩
                · (try simp only [List.cons_append, List.nil_append]); (repeat ((with_reducible apply Takes.cons); focus (first | (with_reducible (repeat (first | exact Take.here | apply Take.there)); done) | (repeat (first | exact Take.here | apply Take.there))))); (repeat (first | exact Takes.nil | exact Takes.self | refine takes_drop2 ?_))
              · skip
                refine c_seq ?_
                refine c_plain (.q 0 (.q 1 (.done))) (by kernel_rfl) ?_
                refine q_int rfl rfl rfl rfl rfl (b_eql _ _ _ _) ?_
                refine q_assign rfl rfl rfl rfl ?_
                refine r_done ?_
                refine s_keep [1, 5, 7, 9, 10, 11, 12, 104] (e' := [(1, _), (5, _), (7, _), (9, _), (10, _), (11, _), (12, _), (104, _)]) rfl ?_
                refine k_then_n ?_
                refine c_cond_p rfl (fun h_35 => ?_) (fun h_35 => ?_)
                · skip
                  refine c_seq ?_
                  refine c_plain (.q 0 (.q 1 (.done))) (by kernel_rfl) ?_
                  refine q_move rfl rfl rfl rfl ?_
                  refine q_ne_nil rfl rfl rfl rfl Try.underlying50 ?_
                  refine r_done ?_
                  refine k_then_n ?_
                  refine c_cond rfl (fun hon => ?_) (fun hon => ?_)
                  · skip
                    try simp only [Bool.and_eq_true, Bool.or_eq_true, Bool.not_eq_true', Bool.not_eq_false', Bool.and_eq_false_iff, Bool.or_eq_false_iff, decide_eq_true_eq, decide_eq_false_iff_not] at hon
                    obtain ⟨⟨b2, q2, y⟩, rfl⟩ : ∃ z, o = some z := by
                      cases o with
                      | none => exact absurd hon (by simp)
                      | some z => exact ⟨z, rfl⟩
                    refine s_take (A := oth (some (b2, q2, y))) (by with_reducible (repeat (first | exact Take.here | apply Take.there))) ?_
                    refine oth_open ?_
                    have hy1 : CInv y := (ho _ rfl).1
                    have hy2 : y.m ≤ (i : Int) := (ho _ rfl).2
                    refine c_seq ?_
                    refine c_plain (.q 0 (.q 1 (.q 2 (.q 3 (.done))))) (by kernel_rfl) ?_
                    refine q_move rfl rfl rfl rfl ?_
                    refine q_move rfl rfl rfl rfl ?_
                    refine q_assign rfl rfl rfl rfl ?_
                    refine q_assign rfl rfl rfl rfl ?_
                    refine r_done ?_
                    refine s_keep [1, 5, 7, 9, 10, 11, 12] (e' := [(1, _), (5, _), (7, _), (9, _), (10, _), (11, _), (12, _)]) rfl ?_
                    refine k_then_n ?_
                    refine c_plain (.q 0 (.q 1 (.q 2 (.q 3 (.done))))) (by kernel_rfl) ?_
                    refine q_move rfl rfl rfl rfl ?_
                    refine q_move rfl rfl rfl rfl ?_
                    refine q_assign rfl rfl rfl rfl ?_
                    refine q_assign rfl rfl rfl rfl ?_
                    refine r_done ?_
                    refine k_blk_n ?_
                    refine k_blk_n ?_
                    refine k_then_n ?_
                    refine c_plain (.q 0 (.q 1 (.q 2 (.done)))) (by kernel_rfl) ?_
                    refine q_move rfl rfl rfl rfl ?_
                    refine q_int rfl rfl rfl rfl rfl (b_add' _ (by (first | exact fits_i64 (by omega) (by omega) | exact fits_u64 (by omega) (by omega) | exact fits_u32 (by omega) (by omega) | exact fits_u8 (by omega) (by omega)))) ?_
                    refine q_assign rfl rfl rfl rfl ?_
                    refine r_done ?_
                    refine s_keep [1, 5, 7, 9, 10, 11, 12] (e' := [(1, _), (5, _), (7, _), (9, _), (10, _), (11, _), (12, _)]) rfl ?_
                    refine k_then_n ?_
                    refine oth_fold (b := b) (q := q) (y := x) (by (repeat ((with_reducible apply Takes.cons); focus (first | (with_reducible (repeat (first | exact Take.here | apply Take.there)); done) | (repeat (first | exact Take.here | apply Take.there))))); exact Takes.nil) ?_
                    refine loop_next (x := (i, b, q, x, some (b2, q2, y))) ((i + 1, b2, q2, y, some (b, q, x))) ?_ ?_ ?_ ?_
                    · try dsimp only
                      exact ⟨by omega, hy1, by omega, fun z hz => by cases hz; exact ⟨hx, by show x.m ≤ _; omega⟩⟩
                    · show k - (i + 1) < k - i; omega
                    · exact ⟨rfl, rfl, rfl, rfl, rfl, rfl, rfl, trivial⟩
                    · (try simp only [List.cons_append, List.nil_append]); (repeat ((with_reducible apply Takes.cons); focus (first | (with_reducible (repeat (first | exact Take.here | apply Take.there)); done) | (repeat (first | exact Take.here | apply Take.there))))); (repeat (first | exact Takes.nil | exact Takes.self | refine takes_drop2 ?_))
                  · skip
                    try simp only [Bool.and_eq_true, Bool.or_eq_true, Bool.not_eq_true', Bool.not_eq_false', Bool.and_eq_false_iff, Bool.or_eq_false_iff, decide_eq_true_eq, decide_eq_false_iff_not] at hon
                    refine c_skip ?_
                    refine k_blk_n ?_
                    refine k_blk_n ?_
                    refine k_then_n ?_
                    refine c_plain (.q 0 (.q 1 (.q 2 (.done)))) (by kernel_rfl) ?_
                    refine q_move rfl rfl rfl rfl ?_
                    refine q_int rfl rfl rfl rfl rfl (b_add' _ (by (first | exact fits_i64 (by omega) (by omega) | exact fits_u64 (by omega) (by omega) | exact fits_u32 (by omega) (by omega) | exact fits_u8 (by omega) (by omega)))) ?_
                    refine q_assign rfl rfl rfl rfl ?_
                    refine r_done ?_
                    refine s_keep [1, 5, 7, 9, 10, 11, 12] (e' := [(1, _), (5, _), (7, _), (9, _), (10, _), (11, _), (12, _)]) rfl ?_
                    refine k_then_n ?_
                    refine loop_next (x := (i, b, q, x, o)) ((i + 1, b, q, x, o)) ?_ ?_ ?_ ?_
                    · try dsimp only
                      exact ⟨by omega, hx, by omega, fun z hz => ⟨(ho z hz).1, by have := (ho z hz).2; omega⟩⟩
                    · show k - (i + 1) < k - i; omega
                    · exact ⟨rfl, rfl, rfl, rfl, rfl, rfl, rfl, trivial⟩
                    · (try simp only [List.cons_append, List.nil_append]); (repeat ((with_reducible apply Takes.cons); focus (first | (with_reducible (repeat (first | exact Take.here | apply Take.there)); done) | (repeat (first | exact Take.here | apply Take.there))))); (repeat (first | exact Takes.nil | exact Takes.self | refine takes_drop2 ?_))
                · skip
                  refine c_skip ?_
                  refine k_blk_n ?_
                  refine k_blk_n ?_
                  refine k_then_n ?_
                  refine c_plain (.q 0 (.q 1 (.q 2 (.done)))) (by kernel_rfl) ?_
                  refine q_move rfl rfl rfl rfl ?_
                  refine q_int rfl rfl rfl rfl rfl (b_add' _ (by (first | exact fits_i64 (by omega) (by omega) | exact fits_u64 (by omega) (by omega) | exact fits_u32 (by omega) (by omega) | exact fits_u8 (by omega) (by omega)))) ?_
                  refine q_assign rfl rfl rfl rfl ?_
                  refine r_done ?_
                  refine k_then_n ?_
                  refine loop_next (x := (i, b, q, x, o)) ((i + 1, b, q, x, o)) ?_ ?_ ?_ ?_
                  · try dsimp only
                    exact ⟨by omega, hx, by omega, fun z hz => ⟨(ho z hz).1, by have := (ho z hz).2; omega⟩⟩
                  · show k - (i + 1) < k - i; omega
                  · exact ⟨rfl, rfl, rfl, rfl, rfl, rfl, rfl, trivial⟩
                  · (try simp only [List.cons_append, List.nil_append]); (repeat ((with_reducible apply Takes.cons); focus (first | (with_reducible (repeat (first | exact Take.here | apply Take.there)); done) | (repeat (first | exact Take.here | apply Take.there))))); (repeat (first | exact Takes.nil | exact Takes.self | refine takes_drop2 ?_))
        · skip
          refine c_plain (.q 0 (.q 1 (.done))) (by kernel_rfl) ?_
          refine q_int rfl rfl rfl rfl rfl (b_eql _ _ _ _) ?_
          refine q_assign rfl rfl rfl rfl ?_
          refine r_done ?_
          refine s_keep [1, 5, 7, 9, 10, 11, 12, 66, 78] (e' := [(1, _), (5, _), (7, _), (9, _), (10, _), (11, _), (12, _), (66, _), (78, _)]) rfl ?_
          refine k_then_n ?_
          refine c_cond_p rfl (fun h_36 => ?_) (fun h_36 => ?_)
          · skip
            refine c_seq ?_
            refine c_plain (.q 0 (.q 1 ((.l 2 [] (.q 3 (.done)))))) (by kernel_rfl) ?_
            refine q_move rfl rfl rfl rfl ?_
            refine q_move rfl rfl rfl rfl ?_
            have sp_37 := told_spec b q x hx
            refine l_call rfl rfl rfl rfl rfl rfl Try.call33 (sp_37) (by (repeat ((with_reducible apply Takes.cons); focus (first | (with_reducible (repeat (first | exact Take.here | apply Take.there)); done) | (repeat (first | exact Take.here | apply Take.there))))); exact Takes.nil) ?_
            rintro ⟨⟩ -
            try simp only [List.cons_append, List.nil_append]
            refine ag_nil ?_
            refine q_not rfl rfl rfl rfl ?_
            refine s_eq 84 rfl (v' := .bool false) rfl ?_
            refine r_done ?_
            refine s_keep [1, 5, 7, 9, 10, 11, 12, 84] (e' := [(1, _), (5, _), (7, _), (9, _), (10, _), (11, _), (12, _), (84, _)]) rfl ?_
            refine k_then_n ?_
            refine c_cond_f rfl ?_
            refine c_skip ?_
            refine k_blk_n ?_
            refine k_blk_n ?_
            refine k_then_n ?_
            refine c_plain (.q 0 (.q 1 (.q 2 (.done)))) (by kernel_rfl) ?_
            refine q_move rfl rfl rfl rfl ?_
            refine q_int rfl rfl rfl rfl rfl (b_add' _ (by (first | exact fits_i64 (by omega) (by omega) | exact fits_u64 (by omega) (by omega) | exact fits_u32 (by omega) (by omega) | exact fits_u8 (by omega) (by omega)))) ?_
            refine q_assign rfl rfl rfl rfl ?_
            refine r_done ?_
            refine k_then_n ?_
            refine loop_next (x := (i, b, q, x, o)) ((i + 1, b, q, x, o)) ?_ ?_ ?_ ?_
            · try dsimp only
              exact ⟨by omega, hx, by omega, fun z hz => ⟨(ho z hz).1, by have := (ho z hz).2; omega⟩⟩
            · show k - (i + 1) < k - i; omega
            · exact ⟨rfl, rfl, rfl, rfl, rfl, rfl, rfl, trivial⟩
            · (try simp only [List.cons_append, List.nil_append]); (repeat ((with_reducible apply Takes.cons); focus (first | (with_reducible (repeat (first | exact Take.here | apply Take.there)); done) | (repeat (first | exact Take.here | apply Take.there))))); (repeat (first | exact Takes.nil | exact Takes.self | refine takes_drop2 ?_))
          · skip
            refine c_seq ?_
            refine c_plain (.q 0 (.q 1 (.done))) (by kernel_rfl) ?_
            refine q_int rfl rfl rfl rfl rfl (b_eql _ _ _ _) ?_
            refine q_assign rfl rfl rfl rfl ?_
            refine r_done ?_
            refine k_then_n ?_
            refine c_cond_p rfl (fun h_38 => ?_) (fun h_38 => ?_)
            · skip
              refine c_seq ?_
              refine c_draw rfl (.q 0 (.q 2 (.q 3 (.q 4 (.q 5 ((.l 1 [5] (.q 6 (.done))))))))) (by kernel_rfl) ?_
              refine q_move rfl rfl rfl rfl ?_
              refine q_move rfl rfl rfl rfl ?_
              refine q_nil_p rfl rfl rfl rfl ?_
              refine s_take (A := ch q x) (by with_reducible (repeat (first | exact Take.here | apply Take.there))) ?_
              refine ch_open fun ar cr ac cc => ?_
              refine q_field (k := 3) rfl rfl rfl rfl Try.underlying71 rfl Try.sizeOf3 rfl ?_
              refine q_load_c (j := 3) rfl rfl rfl rfl Try.isAgg3 (by with_reducible (repeat (first | exact Take.here | apply Take.there))) (by first | rfl | exact (Nat.add_zero _).symm) (by rfl) ?_
              have sp_39 := made_spec b x hx.ok
              refine l_call rfl rfl rfl rfl rfl rfl Try.call28 (sp_39) (by (repeat ((with_reducible apply Takes.cons); focus (first | (with_reducible (repeat (first | exact Take.here | apply Take.there)); done) | (repeat (first | exact Take.here | apply Take.there))))); exact Takes.nil) ?_
              rintro ⟨⟩ -
              try simp only [List.cons_append, List.nil_append]
              refine ag_load_c (q := 3) rfl rfl rfl Try.isAgg3 (by with_reducible (repeat (first | exact Take.here | apply Take.there))) (by first | rfl | exact (Nat.add_zero _).symm) (by rfl) ?_
              refine ag_nil ?_
              refine q_int rfl rfl rfl rfl rfl (b_neq _ _ _ _) ?_
              refine r_done ?_
              refine ch_fold (b := q) (d := x.d) (rk := x.rk) (chs := x.chs) (m := x.m) (by (repeat ((with_reducible apply Takes.cons); focus (first | (with_reducible (repeat (first | exact Take.here | apply Take.there)); done) | (repeat (first | exact Take.here | apply Take.there))))); exact Takes.nil) (by rfl) (by rfl) ?_
              refine s_keep [1, 5, 7, 9, 10, 11, 12, 93] (e' := [(1, _), (5, _), (7, _), (9, _), (10, _), (11, _), (12, _), (93, _)]) rfl ?_
              refine k_then_n ?_
              refine c_cond_p rfl (fun hg => by exfalso; first | exact hg rfl | exact hg trivial | simp at hg) (fun hg => ?_)
              refine c_skip ?_
              refine k_blk_n ?_
              refine k_blk_n ?_
              refine k_then_n ?_
              refine c_plain (.q 0 (.q 1 (.q 2 (.done)))) (by kernel_rfl) ?_
              refine q_move rfl rfl rfl rfl ?_
              refine q_int rfl rfl rfl rfl rfl (b_add' _ (by (first | exact fits_i64 (by omega) (by omega) | exact fits_u64 (by omega) (by omega) | exact fits_u32 (by omega) (by omega) | exact fits_u8 (by omega) (by omega)))) ?_
              refine q_assign rfl rfl rfl rfl ?_
              refine r_done ?_
              refine k_then_n ?_
              refine loop_next (x := (i, b, q, x, o)) ((i + 1, b, q, x, o)) ?_ ?_ ?_ ?_
              · try dsimp only
                exact ⟨by omega, hx, by omega, fun z hz => ⟨(ho z hz).1, by have := (ho z hz).2; omega⟩⟩
              · show k - (i + 1) < k - i; omega
              · exact ⟨rfl, rfl, rfl, rfl, rfl, rfl, rfl, trivial⟩
              · (try simp only [List.cons_append, List.nil_append]); (repeat ((with_reducible apply Takes.cons); focus (first | (with_reducible (repeat (first | exact Take.here | apply Take.there)); done) | (repeat (first | exact Take.here | apply Take.there))))); (repeat (first | exact Takes.nil | exact Takes.self | refine takes_drop2 ?_))
            · skip
              refine c_seq ?_
              refine c_plain (.q 0 (.q 1 (.done))) (by kernel_rfl) ?_
              refine q_int rfl rfl rfl rfl rfl (b_eql _ _ _ _) ?_
              refine q_assign rfl rfl rfl rfl ?_
              refine r_done ?_
              refine s_keep [1, 5, 7, 9, 10, 11, 12, 66, 94] (e' := [(1, _), (5, _), (7, _), (9, _), (10, _), (11, _), (12, _), (66, _), (94, _)]) rfl ?_
              refine k_then_n ?_
              refine c_cond_p rfl (fun h_40 => ?_) (fun h_40 => ?_)
              · skip
                refine c_seq ?_
                refine c_plain (.q 0 (.q 1 (.q 2 (.q 3 (.done))))) (by kernel_rfl) ?_
                refine q_move rfl rfl rfl rfl ?_
                refine q_move rfl rfl rfl rfl ?_
                refine q_assign rfl rfl rfl rfl ?_
                refine q_assign rfl rfl rfl rfl ?_
                refine r_done ?_
                refine s_keep [1, 9, 10, 11, 12] (e' := [(1, _), (9, _), (10, _), (11, _), (12, _)]) rfl ?_
                refine k_then_n ?_
                refine c_seq ?_
                refine c_plain (.q 0 ((.l 1 [] (.q 2 ((.l 3 [] (.q 4 (.q 5 (.done))))))))) (by kernel_rfl) ?_
                refine q_move rfl rfl rfl rfl ?_
                have sp_41 := copy_spec b x hx.ok
                refine l_call rfl rfl rfl rfl rfl rfl Try.call34 (sp_41) (by (repeat ((with_reducible apply Takes.cons); focus (first | (with_reducible (repeat (first | exact Take.here | apply Take.there)); done) | (repeat (first | exact Take.here | apply Take.there))))); exact Takes.nil) ?_
                rintro nb -
                try simp only [List.cons_append, List.nil_append]
                refine ag_nil ?_
                refine q_move rfl rfl rfl rfl ?_
                have sp_42 := rcopy_spec q x hx.ok
                refine l_call rfl rfl rfl rfl rfl rfl Try.call35 (sp_42) (by (repeat ((with_reducible apply Takes.cons); focus (first | (with_reducible (repeat (first | exact Take.here | apply Take.there)); done) | (repeat (first | exact Take.here | apply Take.there))))); exact Takes.nil) ?_
                rintro nq -
                try simp only [List.cons_append, List.nil_append]
                refine ag_nil ?_
                refine q_assign rfl rfl rfl rfl ?_
                refine q_assign rfl rfl rfl rfl ?_
                refine r_done ?_
                refine s_keep [1, 5, 7, 9, 10, 11, 12] (e' := [(1, _), (5, _), (7, _), (9, _), (10, _), (11, _), (12, _)]) rfl ?_
                refine k_then_n ?_
                refine c_seq ?_
                refine c_plain (.q 0 (.q 1 (.done))) (by kernel_rfl) ?_
                refine q_move rfl rfl rfl rfl ?_
                refine q_eq_nil rfl rfl rfl rfl Try.underlying50 ?_
                refine s_eq 103 rfl (v' := .bool false) rfl ?_
                refine r_done ?_
                refine k_then_n ?_
                refine c_cond_f rfl ?_
                refine c_skip ?_
                refine k_blk_n ?_
                refine k_blk_n ?_
                refine k_then_n ?_
                refine c_plain (.q 0 (.q 1 (.q 2 (.done)))) (by kernel_rfl) ?_
                refine q_move rfl rfl rfl rfl ?_
                refine q_int rfl rfl rfl rfl rfl (b_add' _ (by (first | exact fits_i64 (by omega) (by omega) | exact fits_u64 (by omega) (by omega) | exact fits_u32 (by omega) (by omega) | exact fits_u8 (by omega) (by omega)))) ?_
                refine q_assign rfl rfl rfl rfl ?_
                refine r_done ?_
                refine s_keep [1, 5, 7, 9, 10, 11, 12] (e' := [(1, _), (5, _), (7, _), (9, _), (10, _), (11, _), (12, _)]) rfl ?_
                refine k_then_n ?_
                refine oth_fold (b := b) (q := q) (y := x) (by (repeat ((with_reducible apply Takes.cons); focus (first | (with_reducible (repeat (first | exact Take.here | apply Take.there)); done) | (repeat (first | exact Take.here | apply Take.there))))); exact Takes.nil) ?_
                refine loop_next (x := (i, b, q, x, o)) ((i + 1, nb, nq, x, some (b, q, x))) ?_ ?_ ?_ ?_
                · try dsimp only
                  exact ⟨by omega, hx, by omega, fun z hz => by cases hz; exact ⟨hx, by show x.m ≤ _; omega⟩⟩
                · show k - (i + 1) < k - i; omega
                · exact ⟨rfl, rfl, rfl, rfl, rfl, rfl, rfl, trivial⟩
                · (try simp only [List.cons_append, List.nil_append]); (repeat ((with_reducible apply Takes.cons); focus (first | (with_reducible (repeat (first | exact Take.here | apply Take.there)); done) | (repeat (first | exact Take.here | apply Take.there))))); (repeat (first | exact Takes.nil | exact Takes.self | refine takes_drop2 ?_))
              · skip
                refine c_seq ?_
                refine c_plain (.q 0 (.q 1 (.done))) (by kernel_rfl) ?_
                refine q_int rfl rfl rfl rfl rfl (b_eql _ _ _ _) ?_
                refine q_assign rfl rfl rfl rfl ?_
                refine r_done ?_
                refine k_then_n ?_
                refine c_cond_p rfl (fun h_43 => ?_) (fun h_43 => ?_)
                · skip
                  refine c_seq ?_
                  refine c_plain (.q 0 (.q 1 (.done))) (by kernel_rfl) ?_
                  refine q_move rfl rfl rfl rfl ?_
                  refine q_ne_nil rfl rfl rfl rfl Try.underlying50 ?_
                  refine r_done ?_
                  refine s_keep [1, 5, 7, 9, 10, 11, 12, 107] (e' := [(1, _), (5, _), (7, _), (9, _), (10, _), (11, _), (12, _), (107, _)]) rfl ?_
                  refine k_then_n ?_
                  refine c_cond rfl (fun hon => ?_) (fun hon => ?_)
                  · skip
                    try simp only [Bool.and_eq_true, Bool.or_eq_true, Bool.not_eq_true', Bool.not_eq_false', Bool.and_eq_false_iff, Bool.or_eq_false_iff, decide_eq_true_eq, decide_eq_false_iff_not] at hon
                    obtain ⟨⟨b2, q2, y⟩, rfl⟩ : ∃ z, o = some z := by
                      cases o with
                      | none => exact absurd hon (by simp)
                      | some z => exact ⟨z, rfl⟩
                    refine s_take (A := oth (some (b2, q2, y))) (by with_reducible (repeat (first | exact Take.here | apply Take.there))) ?_
                    refine oth_open ?_
                    have hy1 : CInv y := (ho _ rfl).1
                    have hy2 : y.m ≤ (i : Int) := (ho _ rfl).2
                    refine c_seq ?_
                    refine c_plain (.q 0 (.q 1 (.q 2 (.q 3 (.done))))) (by kernel_rfl) ?_
                    refine q_move rfl rfl rfl rfl ?_
                    refine q_move rfl rfl rfl rfl ?_
                    refine q_assign rfl rfl rfl rfl ?_
                    refine q_assign rfl rfl rfl rfl ?_
                    refine r_done ?_
                    refine k_then_n ?_
                    refine c_plain (.q 0 (.q 1 (.q 2 (.q 3 (.done))))) (by kernel_rfl) ?_
                    refine q_move rfl rfl rfl rfl ?_
                    refine q_move rfl rfl rfl rfl ?_
                    refine q_assign rfl rfl rfl rfl ?_
                    refine q_assign rfl rfl rfl rfl ?_
                    refine r_done ?_
                    refine s_keep [1, 5, 7, 9, 10, 11, 12] (e' := [(1, _), (5, _), (7, _), (9, _), (10, _), (11, _), (12, _)]) rfl ?_
                    refine k_blk_n ?_
                    refine k_blk_n ?_
                    refine k_then_n ?_
                    refine c_plain (.q 0 (.q 1 (.q 2 (.done)))) (by kernel_rfl) ?_
                    refine q_move rfl rfl rfl rfl ?_
                    refine q_int rfl rfl rfl rfl rfl (b_add' _ (by (first | exact fits_i64 (by omega) (by omega) | exact fits_u64 (by omega) (by omega) | exact fits_u32 (by omega) (by omega) | exact fits_u8 (by omega) (by omega)))) ?_
                    refine q_assign rfl rfl rfl rfl ?_
                    refine r_done ?_
                    refine k_then_n ?_
                    refine oth_fold (b := b) (q := q) (y := x) (by (repeat ((with_reducible apply Takes.cons); focus (first | (with_reducible (repeat (first | exact Take.here | apply Take.there)); done) | (repeat (first | exact Take.here | apply Take.there))))); exact Takes.nil) ?_
                    refine loop_next (x := (i, b, q, x, some (b2, q2, y))) ((i + 1, b2, q2, y, some (b, q, x))) ?_ ?_ ?_ ?_
                    · try dsimp only
                      exact ⟨by omega, hy1, by omega, fun z hz => by cases hz; exact ⟨hx, by show x.m ≤ _; omega⟩⟩
                    · show k - (i + 1) < k - i; omega
                    · exact ⟨rfl, rfl, rfl, rfl, rfl, rfl, rfl, trivial⟩
                    · (try simp only [List.cons_append, List.nil_append]); (repeat ((with_reducible apply Takes.cons); focus (first | (with_reducible (repeat (first | exact Take.here | apply Take.there)); done) | (repeat (first | exact Take.here | apply Take.there))))); (repeat (first | exact Takes.nil | exact Takes.self | refine takes_drop2 ?_))
                  · skip
                    try simp only [Bool.and_eq_true, Bool.or_eq_true, Bool.not_eq_true', Bool.not_eq_false', Bool.and_eq_false_iff, Bool.or_eq_false_iff, decide_eq_true_eq, decide_eq_false_iff_not] at hon
                    refine c_skip ?_
                    refine k_blk_n ?_
                    refine k_blk_n ?_
                    refine k_then_n ?_
                    refine c_plain (.q 0 (.q 1 (.q 2 (.done)))) (by kernel_rfl) ?_
                    refine q_move rfl rfl rfl rfl ?_
                    refine q_int rfl rfl rfl rfl rfl (b_add' _ (by (first | exact fits_i64 (by omega) (by omega) | exact fits_u64 (by omega) (by omega) | exact fits_u32 (by omega) (by omega) | exact fits_u8 (by omega) (by omega)))) ?_
                    refine q_assign rfl rfl rfl rfl ?_
                    refine r_done ?_
                    refine k_then_n ?_
                    refine loop_next (x := (i, b, q, x, o)) ((i + 1, b, q, x, o)) ?_ ?_ ?_ ?_
                    · try dsimp only
                      exact ⟨by omega, hx, by omega, fun z hz => ⟨(ho z hz).1, by have := (ho z hz).2; omega⟩⟩
                    · show k - (i + 1) < k - i; omega
                    · exact ⟨rfl, rfl, rfl, rfl, rfl, rfl, rfl, trivial⟩
                    · (try simp only [List.cons_append, List.nil_append]); (repeat ((with_reducible apply Takes.cons); focus (first | (with_reducible (repeat (first | exact Take.here | apply Take.there)); done) | (repeat (first | exact Take.here | apply Take.there))))); (repeat (first | exact Takes.nil | exact Takes.self | refine takes_drop2 ?_))
                · skip
                  refine c_skip ?_
                  refine k_blk_n ?_
                  refine k_blk_n ?_
                  refine k_then_n ?_
                  refine c_plain (.q 0 (.q 1 (.q 2 (.done)))) (by kernel_rfl) ?_
                  refine q_move rfl rfl rfl rfl ?_
                  refine q_int rfl rfl rfl rfl rfl (b_add' _ (by (first | exact fits_i64 (by omega) (by omega) | exact fits_u64 (by omega) (by omega) | exact fits_u32 (by omega) (by omega) | exact fits_u8 (by omega) (by omega)))) ?_
                  refine q_assign rfl rfl rfl rfl ?_
                  refine r_done ?_
                  refine s_keep [1, 5, 7, 9, 10, 11, 12] (e' := [(1, _), (5, _), (7, _), (9, _), (10, _), (11, _), (12, _)]) rfl ?_
                  refine k_then_n ?_
                  refine loop_next (x := (i, b, q, x, o)) ((i + 1, b, q, x, o)) ?_ ?_ ?_ ?_
                  · try dsimp only
                    exact ⟨by omega, hx, by omega, fun z hz => ⟨(ho z hz).1, by have := (ho z hz).2; omega⟩⟩
                  · show k - (i + 1) < k - i; omega
                  · exact ⟨rfl, rfl, rfl, rfl, rfl, rfl, rfl, trivial⟩
                  · (try simp only [List.cons_append, List.nil_append]); (repeat ((with_reducible apply Takes.cons); focus (first | (with_reducible (repeat (first | exact Take.here | apply Take.there)); done) | (repeat (first | exact Take.here | apply Take.there))))); (repeat (first | exact Takes.nil | exact Takes.self | refine takes_drop2 ?_))
    · skip
      refine c_exit ?_
      refine k_then_exit ?_
      refine k_then_exit ?_
      refine k_blk_here ?_
      refine k_then_n ?_
      refine c_seq ?_
      refine c_plain (.q 0 (.q 1 ((.l 2 [] (.q 3 (.q 4 (.q 5 (.q 6 (.q 7 (.q 8 ((.l 9 [] (.q 10 (.q 11 (.q 12 ((.l 13 [] (.q 14 (.q 15 (.done)))))))))))))))))))) (by kernel_rfl) ?_
      refine q_move rfl rfl rfl rfl ?_
      refine q_move rfl rfl rfl rfl ?_
      have sp_44 := told_spec b q x hx
      refine l_call rfl rfl rfl rfl rfl rfl Try.call33 (sp_44) (by (repeat ((with_reducible apply Takes.cons); focus (first | (with_reducible (repeat (first | exact Take.here | apply Take.there)); done) | (repeat (first | exact Take.here | apply Take.there))))); exact Takes.nil) ?_
      rintro ⟨⟩ -
      try simp only [List.cons_append, List.nil_append]
      refine ag_nil ?_
      refine q_move rfl rfl rfl rfl ?_
      refine q_move rfl rfl rfl rfl ?_
      refine q_eq_nil rfl rfl rfl rfl Try.underlying50 ?_
      refine q_move rfl rfl rfl rfl ?_
      refine s_bool 118 rfl (fun hon => ?_) (fun hon => ?_)
      · skip
        try simp only [Bool.and_eq_true, Bool.or_eq_true, Bool.not_eq_true', Bool.not_eq_false', Bool.and_eq_false_iff, Bool.or_eq_false_iff, decide_eq_true_eq, decide_eq_false_iff_not] at hon
        refine q_skip rfl rfl rfl rfl ?_
        refine q_skip rfl rfl rfl rfl ?_
        refine l_skip rfl rfl rfl rfl ?_
        refine q_pick_t rfl rfl rfl rfl rfl ?_
        refine q_pick_t rfl rfl rfl rfl rfl ?_
        refine q_move rfl rfl rfl rfl ?_
        refine l_call rfl rfl rfl rfl rfl rfl Try.call15 (known_spec) (by (repeat ((with_reducible apply Takes.cons); focus (first | (with_reducible (repeat (first | exact Take.here | apply Take.there)); done) | (repeat (first | exact Take.here | apply Take.there))))); exact Takes.nil) ?_
        rintro ⟨⟩ -
        try simp only [List.cons_append, List.nil_append]
        refine ag_nil ?_
        refine q_pick_t rfl rfl rfl rfl rfl ?_
        refine q_assign rfl rfl rfl rfl ?_
        refine r_done ?_
        refine s_keep [4] (e' := [(4, _)]) rfl ?_
        refine k_then_n ?_
        refine c_ret ?_
        refine ret1 rfl rfl (()) (by first | rfl | (first | rfl | (congr 1; done) | (congr 1 <;> first | rfl | omega | (simp; done) | (simp; omega)))) (by trivial) ?_
        (repeat ((with_reducible apply Takes.cons); focus (first | (with_reducible (repeat (first | exact Take.here | apply Take.there)); done) | (repeat (first | exact Take.here | apply Take.there))))); (repeat (first | exact Takes.nil | exact Takes.self | refine takes_drop2 ?_))
      · skip
        try simp only [Bool.and_eq_true, Bool.or_eq_true, Bool.not_eq_true', Bool.not_eq_false', Bool.and_eq_false_iff, Bool.or_eq_false_iff, decide_eq_true_eq, decide_eq_false_iff_not] at hon
        obtain ⟨⟨b2, q2, y⟩, rfl⟩ : ∃ z, o = some z := by
          cases o with
          | none => exact absurd hon (by simp)
          | some z => exact ⟨z, rfl⟩
        refine s_take (A := oth (some (b2, q2, y))) (by with_reducible (repeat (first | exact Take.here | apply Take.there))) ?_
        refine oth_open ?_
        have hy1 : CInv y := (ho _ rfl).1
        have hy2 : y.m ≤ (i : Int) := (ho _ rfl).2
        refine q_move rfl rfl rfl rfl ?_
        refine q_move rfl rfl rfl rfl ?_
        have sp_45 := told_spec b2 q2 y hy1
        refine l_call rfl rfl rfl rfl rfl rfl Try.call33 (sp_45) (by (repeat ((with_reducible apply Takes.cons); focus (first | (with_reducible (repeat (first | exact Take.here | apply Take.there)); done) | (repeat (first | exact Take.here | apply Take.there))))); exact Takes.nil) ?_
        rintro ⟨⟩ -
        try simp only [List.cons_append, List.nil_append]
        refine ag_nil ?_
        refine q_pick_f rfl rfl rfl rfl rfl ?_
        refine q_pick_t rfl rfl rfl rfl rfl ?_
        refine q_move rfl rfl rfl rfl ?_
        refine l_call rfl rfl rfl rfl rfl rfl Try.call15 (known_spec) (by (repeat ((with_reducible apply Takes.cons); focus (first | (with_reducible (repeat (first | exact Take.here | apply Take.there)); done) | (repeat (first | exact Take.here | apply Take.there))))); exact Takes.nil) ?_
        rintro ⟨⟩ -
        try simp only [List.cons_append, List.nil_append]
        refine ag_nil ?_
        refine q_pick_t rfl rfl rfl rfl rfl ?_
        refine q_assign rfl rfl rfl rfl ?_
        refine r_done ?_
        refine s_keep [4] (e' := [(4, _)]) rfl ?_
        refine k_then_n ?_
        refine c_ret ?_
        refine ret1 rfl rfl (()) (by first | rfl | (first | rfl | (congr 1; done) | (congr 1 <;> first | rfl | omega | (simp; done) | (simp; omega)))) (by trivial) ?_
        (repeat ((with_reducible apply Takes.cons); focus (first | (with_reducible (repeat (first | exact Take.here | apply Take.there)); done) | (repeat (first | exact Take.here | apply Take.there))))); (repeat (first | exact Takes.nil | exact Takes.self | refine takes_drop2 ?_))

theorem chooses_law (s th d st : Int) (L : List (Int × LstA Int)) (bo : Option Addr) (k c : Nat) (A : HProp) (hr : RdS A bo (L.flatMap encSt)) (hk : L.length = k) (hc : ∀ x ∈ L, RdS A x.2.1 (x.2.2.2.flatMap encZ)) (hb : k ≤ 1048576) (hb2 : ∀ x ∈ L, x.2.2.2.length ≤ 1048576) : Spec Try.prog 9 [.agg #[.int .u64 s, .int .i64 th, .int .i64 d, .int .i64 st], .slice bo k c] [A] (fun (_ : Unit) => .bool true) (fun _ => True) (fun _ => [A]) := by
  by_cases hok : OkN th d st
  · obtain ⟨n, rfl⟩ := Int.eq_ofNat_of_zero_le (show 0 ≤ th by have := hok.1; omega)
    exact chooses_good s n d st hok L bo k c A hr hk hc hb hb2
  · exact chooses_bad s th d st hok L bo k c A hr hk hc hb hb2
end Go.Ab.Sc
