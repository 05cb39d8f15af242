/- Package feasible: the law Plays. -/
import Derived.Test.YtkkncnaonifeoaaFe8
set_option linter.unusedVariables false
set_option linter.unusedSimpArgs false
set_option maxRecDepth 100000
namespace Go.Ab.Fe
open Go Go.Proofs Go.Ab
abbrev T5 := Int × Int × T3
def enc5 (x : T5) : List Value := [.int .i64 x.1, .int .i64 x.2.1, .int .i64 x.2.2.1, .int .i64 x.2.2.2.1, .int .i64 x.2.2.2.2]
theorem enc5_len : ∀ x, (enc5 x).length = 5 := fun _ => rfl
theorem enc5_one : ∀ x, (enc5 x).all Value.oneCell' = true := fun _ => rfl
def aF (x : CS) (a k t o : Int) : CS := if a = 1 then nxF x k t o else x
theorem aF_inv {x : CS} (hx : CInv x) (a k t o : Int) : CInv (aF x a k t o) := by
  unfold aF; split
  · exact next_inv hx k t o
  · exact hx
theorem aF_n {x : CS} (a k t o : Int) : (aF x a k t o).n ≤ x.n + 1 := by
  unfold aF; split
  · rcases nxF_n x k t o with h | h <;> rw [h] <;> omega
  · omega
theorem aF_pa {x : CS} (a k t o : Int) : (aF x a k t o).pa = x.pa := by
  unfold aF; split
  · exact (nxF_pa x k t o).1
  · rfl
/-- The other checker, and its twin. -/
def oth (pa : Option Addr) (pc : Nat) (ra : Option Addr) (rc : Nat) : Option (Nat × Nat × CS) → HProp
  | none => Bun []
  | some z => Bun [ck pa pc z.1 z.2.2, rk ra rc z.2.1 z.2.2]
section
variable {w0 : World} {ds : List Deferred} {n : Nat} {e : Env} {Γ Γ' : List HProp} {X : Act → World → Prop} {pa ra : Option Addr} {pc rc : Nat}
theorem oth_nil (k : Le (St w0 ds n e (oth pa pc ra rc none :: Γ)) X) : Le (St w0 ds n e Γ) X := s_heap (fun _ h => Bun.fold (Γ := []) h) k
theorem oth_open {b q : Nat} {y : CS} (k : Le (St w0 ds n e (ck pa pc b y :: rk ra rc q y :: Γ)) X) : Le (St w0 ds n e (oth pa pc ra rc (some (b, q, y)) :: Γ)) X := s_heap (fun _ h => Bun.unfold (Γ := [ck pa pc b y, rk ra rc q y]) h) k
theorem oth_fold {b q : Nat} {y : CS} (tk : Takes Γ [ck pa pc b y, rk ra rc q y] Γ') (k : Le (St w0 ds n e (oth pa pc ra rc (some (b, q, y)) :: Γ')) X) : Le (St w0 ds n e Γ) X := s_heap (fun hp h => Bun.fold (Γ := [ck pa pc b y, rk ra rc q y]) (tk _ h)) k
end
theorem asks_spec (pa : Option Addr) (pc b : Nat) (ra : Option Addr) (rc q : Nat) (x : CS) (hx : CInv x) (hn : x.n ≤ 1000000000000000) (pl : List Int) (hpl : x.pa = pl) (a u k t o : Int) : Spec Try.prog 28 [.pointer (some ⟨b, 0, none⟩), .pointer (some ⟨q, 0, none⟩), .agg #[.int .i64 a, .int .i64 u, .int .i64 k, .int .i64 t, .int .i64 o]] [ck pa pc b x, own 1 encZ pa pc pl, rk ra rc q x, own 1 encZ ra rc pl] (fun (_ : Unit) => .bool true) (fun _ => True) (fun _ => [ck pa pc b (aF x a k t o), own 1 encZ pa pc pl, rk ra rc q (aF x a k t o), own 1 encZ ra rc pl]) := by
  refine spec_mk (n := 133) Try.func28 rfl rfl rfl ?_
  intro Γ w0
  simp only [argE, List.cons_append, List.nil_append, Nat.zero_add, Nat.reduceAdd]
  refine c_seq ?_
  refine c_plain ((.l 0 [] (.q 1 (.done)))) (by kernel_rfl) ?_
  refine l_box rfl rfl rfl rfl (us := [_, _, _, _, _]) rfl ?_
  intro b5
  refine ag_nil ?_
  refine q_assign rfl rfl rfl rfl ?_
  refine r_done ?_
  refine k_then_n ?_
  refine c_seq ?_
  refine c_seq ?_
  refine c_plain (.q 0 (.q 1 (.done))) (by kernel_rfl) ?_
  refine q_field (k := 0) rfl rfl rfl rfl Try.underlying64 rfl Try.sizeOf3 rfl ?_
  refine q_load_c (j := 0) rfl rfl rfl rfl Try.isAgg3 (by with_reducible (repeat (first | exact Take.here | apply Take.there))) (by first | rfl | exact (Nat.add_zero _).symm) (by rfl) ?_
  refine r_done ?_
  refine k_then_n ?_
  refine c_block ?_
  refine c_seq ?_
  refine c_plain (.q 0 (.q 1 (.done))) (by kernel_rfl) ?_
  refine q_int rfl rfl rfl rfl rfl (b_eql _ _ _ _) ?_
  refine q_assign rfl rfl rfl rfl ?_
  refine r_done ?_
  refine s_keep [0, 1, 5, 20, 21] (e' := [(0, _), (1, _), (5, _), (20, _), (21, _)]) rfl ?_
  refine k_then_n ?_
  refine c_cond_p rfl (fun ha1 => ?_) (fun ha1 => ?_)
  · skip
    rw [show aF x a k t o = nxF x k t o from if_pos ha1]
    refine c_seq ?_
    refine c_draw rfl (.q 0 (.q 1 (.q 2 (.q 4 (.q 5 (.q 6 ((.l 3 [6] ((.l 7 [] (.q 8 (.q 9 (.done))))))))))))) (by kernel_rfl) ?_
    refine q_move rfl rfl rfl rfl ?_
    refine q_field (k := 2) rfl rfl rfl rfl Try.underlying64 rfl Try.sizeOf32 rfl ?_
    refine q_loadN_c rfl rfl rfl rfl Try.isAgg32 Try.sizeOf32 (by with_reducible (repeat (first | exact Take.here | apply Take.there))) 2 (us := [_, _, _]) (by first | rfl | exact (Nat.add_zero _).symm) rfl rfl ?_
    refine q_move rfl rfl rfl rfl ?_
    refine q_field (k := 2) rfl rfl rfl rfl Try.underlying64 rfl Try.sizeOf32 rfl ?_
    refine q_loadN_c rfl rfl rfl rfl Try.isAgg32 Try.sizeOf32 (by with_reducible (repeat (first | exact Take.here | apply Take.there))) 2 (us := [_, _, _]) (by first | rfl | exact (Nat.add_zero _).symm) rfl rfl ?_
    have sp_1 := next_spec pa pc b x hx (by omega) pl (hpl) k t o
    refine l_call rfl rfl rfl rfl rfl rfl Try.call19 (sp_1) (by (repeat ((with_reducible apply Takes.cons); focus (first | (with_reducible (repeat (first | exact Take.here | apply Take.there)); done) | (repeat (first | exact Take.here | apply Take.there))))); exact Takes.nil) ?_
    rintro ⟨⟩ -
    try simp only [List.cons_append, List.nil_append]
    refine ag_loadN_c rfl rfl (us := [_, _, _]) rfl Try.isAgg32 Try.sizeOf32 (by with_reducible (repeat (first | exact Take.here | apply Take.there))) 2 (by first | rfl | exact (Nat.add_zero _).symm) rfl rfl ?_
    refine ag_nil ?_
    have sp_2 := rnext_spec ra rc q x hx (by omega) pl (hpl) k t o
    refine l_call rfl rfl rfl rfl rfl rfl Try.call31 (sp_2) (by (repeat ((with_reducible apply Takes.cons); focus (first | (with_reducible (repeat (first | exact Take.here | apply Take.there)); done) | (repeat (first | exact Take.here | apply Take.there))))); exact Takes.nil) ?_
    rintro ⟨⟩ -
    try simp only [List.cons_append, List.nil_append]
    refine ag_nil ?_
    refine q_int rfl rfl rfl rfl rfl (b_eql _ _ _ _) ?_
    refine s_eq 31 rfl (v' := .bool true) (by first | rfl | simp) ?_
    refine q_assign rfl rfl rfl rfl ?_
    refine r_done ?_
    refine s_keep [6] (e' := [(6, _)]) rfl ?_
    refine k_then_n ?_
    refine c_ret ?_
    refine k_blk_ret ?_
    refine k_then_ret ?_
    refine ret1 rfl rfl (()) (by first | rfl | (first | rfl | (congr 1; done) | (congr 1 <;> first | rfl | omega | (simp; done) | (simp; omega)))) (by trivial) ?_
    (repeat ((with_reducible apply Takes.cons); focus (first | (with_reducible (repeat (first | exact Take.here | apply Take.there)); done) | (repeat (first | exact Take.here | apply Take.there))))); (repeat (first | exact Takes.nil | exact Takes.self | refine takes_drop2 ?_))
  · skip
    rw [show aF x a k t o = x from if_neg ha1]
    refine c_seq ?_
    refine c_plain (.q 0 (.q 1 (.done))) (by kernel_rfl) ?_
    refine q_int rfl rfl rfl rfl rfl (b_eql _ _ _ _) ?_
    refine q_assign rfl rfl rfl rfl ?_
    refine r_done ?_
    refine k_then_n ?_
    refine c_cond_p rfl (fun ha2 => ?_) (fun ha2 => ?_)
    · skip
      refine c_seq ?_
      refine c_draw rfl (.q 0 (.q 1 (.q 2 (.q 4 (.q 5 (.q 6 ((.l 3 [6] ((.l 7 [] (.q 8 (.q 9 (.done))))))))))))) (by kernel_rfl) ?_
      refine q_move rfl rfl rfl rfl ?_
      refine q_field (k := 2) rfl rfl rfl rfl Try.underlying64 rfl Try.sizeOf32 rfl ?_
      refine q_loadN_c rfl rfl rfl rfl Try.isAgg32 Try.sizeOf32 (by with_reducible (repeat (first | exact Take.here | apply Take.there))) 2 (us := [_, _, _]) (by first | rfl | exact (Nat.add_zero _).symm) rfl rfl ?_
      refine q_move rfl rfl rfl rfl ?_
      refine q_field (k := 2) rfl rfl rfl rfl Try.underlying64 rfl Try.sizeOf32 rfl ?_
      refine q_loadN_c rfl rfl rfl rfl Try.isAgg32 Try.sizeOf32 (by with_reducible (repeat (first | exact Take.here | apply Take.there))) 2 (us := [_, _, _]) (by first | rfl | exact (Nat.add_zero _).symm) rfl rfl ?_
      have sp_3 := can_spec pa pc b x hx k t o
      refine l_call rfl rfl rfl rfl rfl rfl Try.call18 (sp_3) (by (repeat ((with_reducible apply Takes.cons); focus (first | (with_reducible (repeat (first | exact Take.here | apply Take.there)); done) | (repeat (first | exact Take.here | apply Take.there))))); exact Takes.nil) ?_
      rintro ⟨⟩ -
      try simp only [List.cons_append, List.nil_append]
      refine ag_loadN_c rfl rfl (us := [_, _, _]) rfl Try.isAgg32 Try.sizeOf32 (by with_reducible (repeat (first | exact Take.here | apply Take.there))) 2 (by first | rfl | exact (Nat.add_zero _).symm) rfl rfl ?_
      refine ag_nil ?_
      have sp_4 := rcan_spec ra rc q x hx k t o
      refine l_call rfl rfl rfl rfl rfl rfl Try.call42 (sp_4) (by (repeat ((with_reducible apply Takes.cons); focus (first | (with_reducible (repeat (first | exact Take.here | apply Take.there)); done) | (repeat (first | exact Take.here | apply Take.there))))); exact Takes.nil) ?_
      rintro ⟨⟩ -
      try simp only [List.cons_append, List.nil_append]
      refine ag_nil ?_
      refine q_eqb rfl rfl rfl rfl rfl Try.underlying4 ?_
      refine s_eq 42 rfl (v' := .bool true) (by first | rfl | simp) ?_
      refine q_assign rfl rfl rfl rfl ?_
      refine r_done ?_
      refine s_keep [6] (e' := [(6, _)]) rfl ?_
      refine k_then_n ?_
      refine c_ret ?_
      refine k_blk_ret ?_
      refine k_then_ret ?_
      refine ret1 rfl rfl (()) (by first | rfl | (first | rfl | (congr 1; done) | (congr 1 <;> first | rfl | omega | (simp; done) | (simp; omega)))) (by trivial) ?_
      (repeat ((with_reducible apply Takes.cons); focus (first | (with_reducible (repeat (first | exact Take.here | apply Take.there)); done) | (repeat (first | exact Take.here | apply Take.there))))); (repeat (first | exact Takes.nil | exact Takes.self | refine takes_drop2 ?_))
    · skip
      refine c_seq ?_
      refine c_plain (.q 0 (.q 1 (.done))) (by kernel_rfl) ?_
      refine q_int rfl rfl rfl rfl rfl (b_eql _ _ _ _) ?_
      refine q_assign rfl rfl rfl rfl ?_
      refine r_done ?_
      refine s_keep [0, 1, 5, 20, 43] (e' := [(0, _), (1, _), (5, _), (20, _), (43, _)]) rfl ?_
      refine k_then_n ?_
      refine c_cond_p rfl (fun ha3 => ?_) (fun ha3 => ?_)
      · skip
        refine c_seq ?_
        refine c_plain (.q 0 (.q 1 (.q 2 ((.l 3 [] (.q 4 (.q 5 (.q 6 ((.l 7 [] ((.l 8 [] (.q 9 (.done)))))))))))))) (by kernel_rfl) ?_
        refine q_move rfl rfl rfl rfl ?_
        refine q_field (k := 1) rfl rfl rfl rfl Try.underlying64 rfl Try.sizeOf3 rfl ?_
        refine q_load_c (j := 1) rfl rfl rfl rfl Try.isAgg3 (by with_reducible (repeat (first | exact Take.here | apply Take.there))) (by first | rfl | exact (Nat.add_zero _).symm) (by rfl) ?_
        have sp_5 := stand_spec pa pc b x u
        refine l_call rfl rfl rfl rfl rfl rfl Try.call21 (sp_5) (by (repeat ((with_reducible apply Takes.cons); focus (first | (with_reducible (repeat (first | exact Take.here | apply Take.there)); done) | (repeat (first | exact Take.here | apply Take.there))))); exact Takes.nil) ?_
        rintro ⟨⟩ -
        try simp only [List.cons_append, List.nil_append]
        refine ag_nil ?_
        refine q_move rfl rfl rfl rfl ?_
        refine q_extract rfl rfl rfl rfl rfl ?_
        refine q_extract rfl rfl rfl rfl rfl ?_
        refine l_alloc rfl rfl rfl Try.zeroValue51 (zs := [.int .i64 0, .int .i64 0, .int .i64 0]) rfl ?_
        intro b7
        refine ag_nil ?_
        refine l_store (j := 0) rfl rfl rfl rfl Try.sizeOf51 (us := [_, _, _]) rfl rfl rfl (by with_reducible (repeat (first | exact Take.here | apply Take.there))) (by first | rfl | exact (Nat.add_zero _).symm) (by first | decide | (simp; done) | omega) ?_
        simp only [setL, List.set]
        refine ag_nil ?_
        refine q_assign rfl rfl rfl rfl ?_
        refine r_done ?_
        refine s_keep [0, 1, 5, 7, 8] (e' := [(0, _), (1, _), (5, _), (7, _), (8, _)]) rfl ?_
        refine k_then_n ?_
        refine c_seq ?_
        refine c_plain (.q 0 (.q 1 (.q 2 ((.l 3 [] (.q 4 (.q 5 (.q 6 ((.l 7 [] ((.l 8 [] (.q 9 (.done)))))))))))))) (by kernel_rfl) ?_
        refine q_move rfl rfl rfl rfl ?_
        refine q_field (k := 1) rfl rfl rfl rfl Try.underlying64 rfl Try.sizeOf3 rfl ?_
        refine q_load_c (j := 1) rfl rfl rfl rfl Try.isAgg3 (by with_reducible (repeat (first | exact Take.here | apply Take.there))) (by first | rfl | exact (Nat.add_zero _).symm) (by rfl) ?_
        have sp_6 := rstand_spec ra rc q x hx u
        refine l_call rfl rfl rfl rfl rfl rfl Try.call43 (sp_6) (by (repeat ((with_reducible apply Takes.cons); focus (first | (with_reducible (repeat (first | exact Take.here | apply Take.there)); done) | (repeat (first | exact Take.here | apply Take.there))))); exact Takes.nil) ?_
        rintro ⟨⟩ -
        try simp only [List.cons_append, List.nil_append]
        refine ag_nil ?_
        refine q_move rfl rfl rfl rfl ?_
        refine q_extract rfl rfl rfl rfl rfl ?_
        refine q_extract rfl rfl rfl rfl rfl ?_
        refine l_alloc rfl rfl rfl Try.zeroValue51 (zs := [.int .i64 0, .int .i64 0, .int .i64 0]) rfl ?_
        intro b9
        refine ag_nil ?_
        refine l_store (j := 0) rfl rfl rfl rfl Try.sizeOf51 (us := [_, _, _]) rfl rfl rfl (by with_reducible (repeat (first | exact Take.here | apply Take.there))) (by first | rfl | exact (Nat.add_zero _).symm) (by first | decide | (simp; done) | omega) ?_
        simp only [setL, List.set]
        refine ag_nil ?_
        refine q_assign rfl rfl rfl rfl ?_
        refine r_done ?_
        refine s_keep [0, 1, 5, 7, 8, 9, 10] (e' := [(0, _), (1, _), (5, _), (7, _), (8, _), (9, _), (10, _)]) rfl ?_
        refine k_then_n ?_
        refine c_seq ?_
        refine c_draw rfl (.q 0 (.q 1 (.q 2 (.q 3 (.q 4 (.q 5 (.q 6 (.q 7 (.q 8 (.q 9 (.q 10 (.q 11 (.q 13 (.q 14 (.q 15 ((.l 12 [15] ((.l 16 [] (.q 17 (.q 18 (.q 19 (.done))))))))))))))))))))))) (by kernel_rfl) ?_
        refine q_loadN_c rfl rfl rfl rfl Try.isAgg51 Try.sizeOf51 (by with_reducible (repeat (first | exact Take.here | apply Take.there))) 0 (us := [_, _, _]) (by first | rfl | exact (Nat.add_zero _).symm) rfl rfl ?_
        refine q_loadN_c rfl rfl rfl rfl Try.isAgg51 Try.sizeOf51 (by with_reducible (repeat (first | exact Take.here | apply Take.there))) 0 (us := [_, _, _]) (by first | rfl | exact (Nat.add_zero _).symm) rfl rfl ?_
        refine q_eqS rfl rfl rfl rfl rfl (by kernel_rfl) (eqc_struct Try.underlying51 (by kernel_rfl) (eqf_cons rfl Try.isAgg49 rfl rfl (eqc_int Try.underlying49) (eqf_cons rfl Try.isAgg3 rfl rfl (eqc_int Try.underlying3) (eqf_last rfl Try.isAgg3 rfl rfl (eqc_int Try.underlying3))))) ?_
        refine s_eq 61 rfl (v' := .bool (decide (((stF x u).1, (stF x u).2.1, (stF x u).2.2) = ((stF x u).1, (stF x u).2.1, (stF x u).2.2)))) (by first | (congr 1; done) | (congr 1; rw [Bool.eq_iff_iff]; simp [Prod.ext_iff, and_assoc])) ?_
        refine s_eq 61 rfl (v' := .bool true) (by first | rfl | simp) ?_
        refine q_move rfl rfl rfl rfl ?_
        refine q_move rfl rfl rfl rfl ?_
        refine q_move rfl rfl rfl rfl ?_
        refine q_int rfl rfl rfl rfl rfl (b_eql _ _ _ _) ?_
        refine q_pick_t rfl rfl rfl rfl rfl ?_
        refine q_move rfl rfl rfl rfl ?_
        refine s_bool_p 67 rfl (fun hg => ?_) (fun hg => by exfalso; exact hg rfl)
        refine q_move rfl rfl rfl rfl ?_
        refine q_field (k := 1) rfl rfl rfl rfl Try.underlying64 rfl Try.sizeOf3 rfl ?_
        refine q_load_c (j := 1) rfl rfl rfl rfl Try.isAgg3 (by with_reducible (repeat (first | exact Take.here | apply Take.there))) (by first | rfl | exact (Nat.add_zero _).symm) (by rfl) ?_
        refine q_move rfl rfl rfl rfl ?_
        refine q_field (k := 1) rfl rfl rfl rfl Try.underlying64 rfl Try.sizeOf3 rfl ?_
        refine q_load_c (j := 1) rfl rfl rfl rfl Try.isAgg3 (by with_reducible (repeat (first | exact Take.here | apply Take.there))) (by first | rfl | exact (Nat.add_zero _).symm) (by rfl) ?_
        have sp_7 := full_spec pa pc b x hx u
        refine l_call rfl rfl rfl rfl rfl rfl Try.call22 (sp_7) (by (repeat ((with_reducible apply Takes.cons); focus (first | (with_reducible (repeat (first | exact Take.here | apply Take.there)); done) | (repeat (first | exact Take.here | apply Take.there))))); exact Takes.nil) ?_
        rintro ⟨⟩ -
        try simp only [List.cons_append, List.nil_append]
        refine ag_load_c (q := 1) rfl rfl rfl Try.isAgg3 (by with_reducible (repeat (first | exact Take.here | apply Take.there))) (by first | rfl | exact (Nat.add_zero _).symm) (by rfl) ?_
        refine ag_nil ?_
        have sp_8 := rfull_spec ra rc q x hx u
        refine l_call rfl rfl rfl rfl rfl rfl Try.call44 (sp_8) (by (repeat ((with_reducible apply Takes.cons); focus (first | (with_reducible (repeat (first | exact Take.here | apply Take.there)); done) | (repeat (first | exact Take.here | apply Take.there))))); exact Takes.nil) ?_
        rintro ⟨⟩ -
        try simp only [List.cons_append, List.nil_append]
        refine ag_nil ?_
        refine q_eqb rfl rfl rfl rfl rfl Try.underlying4 ?_
        refine s_eq 76 rfl (v' := .bool true) (by first | rfl | simp) ?_
        refine q_pick_t rfl rfl rfl rfl rfl ?_
        refine q_assign rfl rfl rfl rfl ?_
        refine r_done ?_
        refine s_keep [6] (e' := [(6, _)]) rfl ?_
        refine k_then_n ?_
        refine c_ret ?_
        refine k_blk_ret ?_
        refine k_then_ret ?_
        refine ret1 rfl rfl (()) (by first | rfl | (first | rfl | (congr 1; done) | (congr 1 <;> first | rfl | omega | (simp; done) | (simp; omega)))) (by trivial) ?_
        (repeat ((with_reducible apply Takes.cons); focus (first | (with_reducible (repeat (first | exact Take.here | apply Take.there)); done) | (repeat (first | exact Take.here | apply Take.there))))); (repeat (first | exact Takes.nil | exact Takes.self | refine takes_drop2 ?_))
      · skip
        refine c_seq ?_
        refine c_plain (.q 0 (.q 1 (.done))) (by kernel_rfl) ?_
        refine q_int rfl rfl rfl rfl rfl (b_eql _ _ _ _) ?_
        refine q_assign rfl rfl rfl rfl ?_
        refine r_done ?_
        refine k_then_n ?_
        refine c_cond_p rfl (fun ha4 => ?_) (fun ha4 => ?_)
        · skip
          refine c_seq ?_
          refine c_plain (.q 0 (.q 1 (.q 2 ((.l 3 [] (.q 4 (.q 5 (.q 6 (.q 7 (.q 8 (.done))))))))))) (by kernel_rfl) ?_
          refine q_move rfl rfl rfl rfl ?_
          refine q_field (k := 1) rfl rfl rfl rfl Try.underlying64 rfl Try.sizeOf3 rfl ?_
          refine q_load_c (j := 1) rfl rfl rfl rfl Try.isAgg3 (by with_reducible (repeat (first | exact Take.here | apply Take.there))) (by first | rfl | exact (Nat.add_zero _).symm) (by rfl) ?_
          have sp_9 := owner_spec pa pc b x u
          refine l_call rfl rfl rfl rfl rfl rfl Try.call23 (sp_9) (by (repeat ((with_reducible apply Takes.cons); focus (first | (with_reducible (repeat (first | exact Take.here | apply Take.there)); done) | (repeat (first | exact Take.here | apply Take.there))))); exact Takes.nil) ?_
          rintro ⟨⟩ -
          try simp only [List.cons_append, List.nil_append]
          refine ag_nil ?_
          refine q_move rfl rfl rfl rfl ?_
          refine q_extract rfl rfl rfl rfl rfl ?_
          refine q_extract rfl rfl rfl rfl rfl ?_
          refine q_assign rfl rfl rfl rfl ?_
          refine q_assign rfl rfl rfl rfl ?_
          refine r_done ?_
          refine s_keep [1, 5, 11, 12] (e' := [(1, _), (5, _), (11, _), (12, _)]) rfl ?_
          refine k_then_n ?_
          refine c_seq ?_
          refine c_plain (.q 0 (.q 1 (.q 2 ((.l 3 [] (.q 4 (.q 5 (.q 6 (.q 7 (.q 8 (.done))))))))))) (by kernel_rfl) ?_
          refine q_move rfl rfl rfl rfl ?_
          refine q_field (k := 1) rfl rfl rfl rfl Try.underlying64 rfl Try.sizeOf3 rfl ?_
          refine q_load_c (j := 1) rfl rfl rfl rfl Try.isAgg3 (by with_reducible (repeat (first | exact Take.here | apply Take.there))) (by first | rfl | exact (Nat.add_zero _).symm) (by rfl) ?_
          have sp_10 := rowner_spec ra rc q x hx u
          refine l_call rfl rfl rfl rfl rfl rfl Try.call45 (sp_10) (by (repeat ((with_reducible apply Takes.cons); focus (first | (with_reducible (repeat (first | exact Take.here | apply Take.there)); done) | (repeat (first | exact Take.here | apply Take.there))))); exact Takes.nil) ?_
          rintro ⟨⟩ -
          try simp only [List.cons_append, List.nil_append]
          refine ag_nil ?_
          refine q_move rfl rfl rfl rfl ?_
          refine q_extract rfl rfl rfl rfl rfl ?_
          refine q_extract rfl rfl rfl rfl rfl ?_
          refine q_assign rfl rfl rfl rfl ?_
          refine q_assign rfl rfl rfl rfl ?_
          refine r_done ?_
          refine s_keep [11, 12, 13, 14] (e' := [(11, _), (12, _), (13, _), (14, _)]) rfl ?_
          refine k_then_n ?_
          refine c_seq ?_
          refine c_plain (.q 0 (.q 1 (.q 2 (.q 3 (.q 4 (.q 5 (.q 6 (.q 7 (.q 8 (.done)))))))))) (by kernel_rfl) ?_
          refine q_move rfl rfl rfl rfl ?_
          refine q_move rfl rfl rfl rfl ?_
          refine q_int rfl rfl rfl rfl rfl (b_eql _ _ _ _) ?_
          refine q_move rfl rfl rfl rfl ?_
          refine s_bool_p 97 rfl (fun hg => ?_) (fun hg => by exfalso; exact hg rfl)
          refine q_move rfl rfl rfl rfl ?_
          refine q_move rfl rfl rfl rfl ?_
          refine q_int rfl rfl rfl rfl rfl (b_eql _ _ _ _) ?_
          refine s_eq 100 rfl (v' := .bool true) (by first | rfl | simp) ?_
          refine q_pick_t rfl rfl rfl rfl rfl ?_
          refine q_assign rfl rfl rfl rfl ?_
          refine r_done ?_
          refine s_keep [6] (e' := [(6, _)]) rfl ?_
          refine k_then_n ?_
          refine c_ret ?_
          refine k_blk_ret ?_
          refine k_then_ret ?_
          refine ret1 rfl rfl (()) (by first | rfl | (first | rfl | (congr 1; done) | (congr 1 <;> first | rfl | omega | (simp; done) | (simp; omega)))) (by trivial) ?_
          (repeat ((with_reducible apply Takes.cons); focus (first | (with_reducible (repeat (first | exact Take.here | apply Take.there)); done) | (repeat (first | exact Take.here | apply Take.there))))); (repeat (first | exact Takes.nil | exact Takes.self | refine takes_drop2 ?_))
        · skip
          refine c_seq ?_
          refine c_plain (.q 0 (.q 1 (.done))) (by kernel_rfl) ?_
          refine q_int rfl rfl rfl rfl rfl (b_eql _ _ _ _) ?_
          refine q_assign rfl rfl rfl rfl ?_
          refine r_done ?_
          refine s_keep [0, 1, 5, 20, 102] (e' := [(0, _), (1, _), (5, _), (20, _), (102, _)]) rfl ?_
          refine k_then_n ?_
          refine c_cond_p rfl (fun ha5 => ?_) (fun ha5 => ?_)
          · skip
            refine c_seq ?_
            refine c_plain (.q 0 (.q 1 (.q 2 ((.l 3 [] (.q 4 (.q 5 (.q 6 ((.l 7 [] ((.l 8 [] (.q 9 (.done)))))))))))))) (by kernel_rfl) ?_
            refine q_move rfl rfl rfl rfl ?_
            refine q_field (k := 1) rfl rfl rfl rfl Try.underlying64 rfl Try.sizeOf3 rfl ?_
            refine q_load_c (j := 1) rfl rfl rfl rfl Try.isAgg3 (by with_reducible (repeat (first | exact Take.here | apply Take.there))) (by first | rfl | exact (Nat.add_zero _).symm) (by rfl) ?_
            have sp_11 := round_spec pa pc b x u
            refine l_call rfl rfl rfl rfl rfl rfl Try.call38 (sp_11) (by (repeat ((with_reducible apply Takes.cons); focus (first | (with_reducible (repeat (first | exact Take.here | apply Take.there)); done) | (repeat (first | exact Take.here | apply Take.there))))); exact Takes.nil) ?_
            rintro ⟨⟩ -
            try simp only [List.cons_append, List.nil_append]
            refine ag_nil ?_
            refine q_move rfl rfl rfl rfl ?_
            refine q_extract rfl rfl rfl rfl rfl ?_
            refine q_extract rfl rfl rfl rfl rfl ?_
            refine l_alloc rfl rfl rfl Try.zeroValue83 (zs := [.int .i64 0, .int .i64 0]) rfl ?_
            intro b15
            refine ag_nil ?_
            refine l_store (j := 0) rfl rfl rfl rfl Try.sizeOf83 (us := [_, _]) rfl rfl rfl (by with_reducible (repeat (first | exact Take.here | apply Take.there))) (by first | rfl | exact (Nat.add_zero _).symm) (by first | decide | (simp; done) | omega) ?_
            simp only [setL, List.set]
            refine ag_nil ?_
            refine q_assign rfl rfl rfl rfl ?_
            refine r_done ?_
            refine s_keep [1, 5, 15, 16] (e' := [(1, _), (5, _), (15, _), (16, _)]) rfl ?_
            refine k_then_n ?_
            refine c_seq ?_
            refine c_plain (.q 0 (.q 1 (.q 2 ((.l 3 [] (.q 4 (.q 5 (.q 6 ((.l 7 [] ((.l 8 [] (.q 9 (.done)))))))))))))) (by kernel_rfl) ?_
            refine q_move rfl rfl rfl rfl ?_
            refine q_field (k := 1) rfl rfl rfl rfl Try.underlying64 rfl Try.sizeOf3 rfl ?_
            refine q_load_c (j := 1) rfl rfl rfl rfl Try.isAgg3 (by with_reducible (repeat (first | exact Take.here | apply Take.there))) (by first | rfl | exact (Nat.add_zero _).symm) (by rfl) ?_
            have sp_12 := rround_spec ra rc q x u
            refine l_call rfl rfl rfl rfl rfl rfl Try.call46 (sp_12) (by (repeat ((with_reducible apply Takes.cons); focus (first | (with_reducible (repeat (first | exact Take.here | apply Take.there)); done) | (repeat (first | exact Take.here | apply Take.there))))); exact Takes.nil) ?_
            rintro ⟨⟩ -
            try simp only [List.cons_append, List.nil_append]
            refine ag_nil ?_
            refine q_move rfl rfl rfl rfl ?_
            refine q_extract rfl rfl rfl rfl rfl ?_
            refine q_extract rfl rfl rfl rfl rfl ?_
            refine l_alloc rfl rfl rfl Try.zeroValue83 (zs := [.int .i64 0, .int .i64 0]) rfl ?_
            intro b17
            refine ag_nil ?_
            refine l_store (j := 0) rfl rfl rfl rfl Try.sizeOf83 (us := [_, _]) rfl rfl rfl (by with_reducible (repeat (first | exact Take.here | apply Take.there))) (by first | rfl | exact (Nat.add_zero _).symm) (by first | decide | (simp; done) | omega) ?_
            simp only [setL, List.set]
            refine ag_nil ?_
            refine q_assign rfl rfl rfl rfl ?_
            refine r_done ?_
            refine s_keep [15, 16, 17, 18] (e' := [(15, _), (16, _), (17, _), (18, _)]) rfl ?_
            refine k_then_n ?_
            refine c_seq ?_
            refine c_plain (.q 0 (.q 1 (.q 2 (.q 3 (.q 4 (.q 5 (.q 6 (.q 7 (.q 8 (.done)))))))))) (by kernel_rfl) ?_
            refine q_loadN_c rfl rfl rfl rfl Try.isAgg83 Try.sizeOf83 (by with_reducible (repeat (first | exact Take.here | apply Take.there))) 0 (us := [_, _]) (by first | rfl | exact (Nat.add_zero _).symm) rfl rfl ?_
            refine q_loadN_c rfl rfl rfl rfl Try.isAgg83 Try.sizeOf83 (by with_reducible (repeat (first | exact Take.here | apply Take.there))) 0 (us := [_, _]) (by first | rfl | exact (Nat.add_zero _).symm) rfl rfl ?_
            refine q_eqS rfl rfl rfl rfl rfl (by kernel_rfl) (eqc_struct Try.underlying83 (by kernel_rfl) (eqf_cons rfl Try.isAgg3 rfl rfl (eqc_int Try.underlying3) (eqf_last rfl Try.isAgg3 rfl rfl (eqc_int Try.underlying3)))) ?_
            refine s_eq 120 rfl (v' := .bool (decide (((if 0 ≤ u ∧ u < (x.B.length : Int) then opF x u else (0, 0)).1, (if 0 ≤ u ∧ u < (x.B.length : Int) then opF x u else (0, 0)).2) = ((if 0 ≤ u ∧ u < (x.B.length : Int) then opF x u else (0, 0)).1, (if 0 ≤ u ∧ u < (x.B.length : Int) then opF x u else (0, 0)).2)))) (by first | (congr 1; done) | (congr 1; rw [Bool.eq_iff_iff]; simp [Prod.ext_iff, and_assoc])) ?_
            refine s_eq 120 rfl (v' := .bool true) (by first | rfl | simp) ?_
            refine q_move rfl rfl rfl rfl ?_
            refine q_move rfl rfl rfl rfl ?_
            refine q_move rfl rfl rfl rfl ?_
            refine q_int rfl rfl rfl rfl rfl (b_eql _ _ _ _) ?_
            refine s_eq 124 rfl (v' := .bool true) (by first | rfl | simp) ?_
            refine q_pick_t rfl rfl rfl rfl rfl ?_
            refine q_assign rfl rfl rfl rfl ?_
            refine r_done ?_
            refine s_keep [6] (e' := [(6, _)]) rfl ?_
            refine k_then_n ?_
            refine c_ret ?_
            refine k_blk_ret ?_
            refine k_then_ret ?_
            refine ret1 rfl rfl (()) (by first | rfl | (first | rfl | (congr 1; done) | (congr 1 <;> first | rfl | omega | (simp; done) | (simp; omega)))) (by trivial) ?_
            (repeat ((with_reducible apply Takes.cons); focus (first | (with_reducible (repeat (first | exact Take.here | apply Take.there)); done) | (repeat (first | exact Take.here | apply Take.there))))); (repeat (first | exact Takes.nil | exact Takes.self | refine takes_drop2 ?_))
          · skip
            refine c_seq ?_
            refine c_plain (.q 0 (.q 1 (.done))) (by kernel_rfl) ?_
            refine q_int rfl rfl rfl rfl rfl (b_eql _ _ _ _) ?_
            refine q_assign rfl rfl rfl rfl ?_
            refine r_done ?_
            refine s_keep [0, 1, 126] (e' := [(0, _), (1, _), (126, _)]) rfl ?_
            refine k_then_n ?_
            refine c_cond_p rfl (fun ha6 => ?_) (fun ha6 => ?_)
            · skip
              refine c_seq ?_
              refine c_plain (.q 0 ((.l 1 [] (.q 2 ((.l 3 [] (.q 4 (.q 5 (.done))))))))) (by kernel_rfl) ?_
              refine q_move rfl rfl rfl rfl ?_
              have sp_13 := len_spec pa pc b x
              refine l_call rfl rfl rfl rfl rfl rfl Try.call20 (sp_13) (by (repeat ((with_reducible apply Takes.cons); focus (first | (with_reducible (repeat (first | exact Take.here | apply Take.there)); done) | (repeat (first | exact Take.here | apply Take.there))))); exact Takes.nil) ?_
              rintro ⟨⟩ -
              try simp only [List.cons_append, List.nil_append]
              refine ag_nil ?_
              refine q_move rfl rfl rfl rfl ?_
              have sp_14 := rlen_spec ra rc q x
              refine l_call rfl rfl rfl rfl rfl rfl Try.call47 (sp_14) (by (repeat ((with_reducible apply Takes.cons); focus (first | (with_reducible (repeat (first | exact Take.here | apply Take.there)); done) | (repeat (first | exact Take.here | apply Take.there))))); exact Takes.nil) ?_
              rintro ⟨⟩ -
              try simp only [List.cons_append, List.nil_append]
              refine ag_nil ?_
              refine q_int rfl rfl rfl rfl rfl (b_eql _ _ _ _) ?_
              refine s_eq 132 rfl (v' := .bool true) (by first | rfl | simp) ?_
              refine q_assign rfl rfl rfl rfl ?_
              refine r_done ?_
              refine s_keep [6] (e' := [(6, _)]) rfl ?_
              refine k_then_n ?_
              refine c_ret ?_
              refine k_blk_ret ?_
              refine k_then_ret ?_
              refine ret1 rfl rfl (()) (by first | rfl | (first | rfl | (congr 1; done) | (congr 1 <;> first | rfl | omega | (simp; done) | (simp; omega)))) (by trivial) ?_
              (repeat ((with_reducible apply Takes.cons); focus (first | (with_reducible (repeat (first | exact Take.here | apply Take.there)); done) | (repeat (first | exact Take.here | apply Take.there))))); (repeat (first | exact Takes.nil | exact Takes.self | refine takes_drop2 ?_))
            · skip
              refine c_skip ?_
              refine k_blk_n ?_
              refine k_then_n ?_
              refine c_seq ?_
              refine c_plain (.q 0 (.done)) (by kernel_rfl) ?_
              refine q_assign rfl rfl rfl rfl ?_
              refine r_done ?_
              refine k_then_n ?_
              refine c_ret ?_
              refine ret1 rfl rfl (()) (by first | rfl | (first | rfl | (congr 1; done) | (congr 1 <;> first | rfl | omega | (simp; done) | (simp; omega)))) (by trivial) ?_
              (repeat ((with_reducible apply Takes.cons); focus (first | (with_reducible (repeat (first | exact Take.here | apply Take.there)); done) | (repeat (first | exact Take.here | apply Take.there))))); (repeat (first | exact Takes.nil | exact Takes.self | refine takes_drop2 ?_))

theorem tells_spec (pa : Option Addr) (pc b : Nat) (ra : Option Addr) (rc q : Nat) (x : CS) (hx : CInv x) (hn : x.n ≤ 1000000000000000) (pl : List Int) (hpl : x.pa = pl) (a u k t o : Int) (ha : a ≠ 1) : Spec Try.prog 28 [.pointer (some ⟨b, 0, none⟩), .pointer (some ⟨q, 0, none⟩), .agg #[.int .i64 a, .int .i64 u, .int .i64 k, .int .i64 t, .int .i64 o]] [ck pa pc b x, own 1 encZ pa pc pl, rk ra rc q x, own 1 encZ ra rc pl] (fun (_ : Unit) => .bool true) (fun _ => True) (fun _ => [ck pa pc b x, own 1 encZ pa pc pl, rk ra rc q x, own 1 encZ ra rc pl]) := by
  have h := asks_spec pa pc b ra rc q x hx hn pl hpl a u k t o
  rwa [show aF x a k t o = x from if_neg ha] at h

theorem alike_spec (pa : Option Addr) (pc b : Nat) (ra : Option Addr) (rc q : Nat) (x : CS) (hx : CInv x) (hn : x.n ≤ 1000000000000000) (pl : List Int) (hpl : x.pa = pl) : Spec Try.prog 29 [.pointer (some ⟨b, 0, none⟩), .pointer (some ⟨q, 0, none⟩)] [ck pa pc b x, own 1 encZ pa pc pl, rk ra rc q x, own 1 encZ ra rc pl] (fun (_ : Unit) => .bool true) (fun _ => True) (fun _ => [ck pa pc b x, own 1 encZ pa pc pl, rk ra rc q x, own 1 encZ ra rc pl]) := by
  refine spec_mk (n := 65) Try.func29 rfl rfl rfl ?_
  intro Γ w0
  simp only [argE, List.cons_append, List.nil_append, Nat.zero_add, Nat.reduceAdd]
  have htl := hx.tl
  have hol := hx.ol
  have hbl := hx.bl
  have h4 := hx.sh.pl
  have h5 := hx.sh.th
  have h6 := hx.sh.lk
  refine c_seq ?_
  refine c_plain (.q 0 (.done)) (by kernel_rfl) ?_
  refine q_assign rfl rfl rfl rfl ?_
  refine r_done ?_
  refine k_then_n ?_
  refine c_seq ?_
  refine c_seq ?_
  refine c_plain (.q 0 (.q 1 (.q 2 (.q 3 (.q 4 (.done)))))) (by kernel_rfl) ?_
  refine q_move rfl rfl rfl rfl ?_
  refine q_eq_nil rfl rfl rfl rfl Try.underlying42 ?_
  refine s_eq 9 rfl (v' := .bool false) rfl ?_
  refine q_move rfl rfl rfl rfl ?_
  refine q_eq_nil rfl rfl rfl rfl Try.underlying60 ?_
  refine s_eq 11 rfl (v' := .bool false) rfl ?_
  refine q_neb rfl rfl rfl rfl rfl Try.underlying4 ?_
  refine s_eq 12 rfl (v' := .bool false) rfl ?_
  refine r_done ?_
  refine s_keep [0, 1, 12] (e' := [(0, _), (1, _), (12, _)]) rfl ?_
  refine k_then_n ?_
  refine c_cond_f rfl ?_
  refine c_skip ?_
  refine k_then_n ?_
  refine c_seq ?_
  refine c_seq ?_
  refine c_plain (.q 0 (.q 1 (.done))) (by kernel_rfl) ?_
  refine q_move rfl rfl rfl rfl ?_
  refine q_eq_nil rfl rfl rfl rfl Try.underlying42 ?_
  refine s_eq 14 rfl (v' := .bool false) rfl ?_
  refine r_done ?_
  refine k_then_n ?_
  refine c_cond_f rfl ?_
  refine c_skip ?_
  refine k_then_n ?_
  refine c_seq ?_
  refine c_seq ?_
  refine c_plain (.q 0 (.done)) (by kernel_rfl) ?_
  refine q_assign rfl rfl rfl rfl ?_
  refine r_done ?_
  refine k_then_n ?_
  refine c_block ?_
  refine c_loop2 (α := Nat) (fun (i : Nat) => i ≤ x.T.length + 2) (fun (i : Nat) => [(5, .int .i64 (((i : Nat) : Int) - 1))]) (fun (i : Nat) => [ck pa pc b x, own 1 encZ pa pc pl, rk ra rc q x, own 1 encZ ra rc pl]) (fun (i : Nat) => x.T.length + 2 - i) [0, 1] (er := [(0, _), (1, _)]) rfl (0) ?_ (by exact ⟨rfl, trivial⟩) (by (try dsimp only); (try simp only [Nat.add_zero, Nat.zero_add]); (repeat ((with_reducible apply Takes.cons); focus (first | (with_reducible (repeat (first | exact Take.here | apply Take.there)); done) | (repeat (first | exact Take.here | apply Take.there))))); exact Takes.nil) ?_
  · exact Nat.zero_le _
  rintro i hle_i
  try simp only [List.cons_append, List.nil_append]
  refine c_seq ?_
  refine c_seq ?_
  refine s_take (A := rk ra rc q x) (by with_reducible (repeat (first | exact Take.here | apply Take.there))) ?_
  refine rk_open fun ta tc oa oc ba bc => ?_
  refine c_plain (.q 0 (.q 1 (.q 2 (.q 3 (.q 4 (.q 5 (.q 6 (.done)))))))) (by kernel_rfl) ?_
  refine q_move rfl rfl rfl rfl ?_
  refine q_move rfl rfl rfl rfl ?_
  refine q_nil_p rfl rfl rfl rfl ?_
  refine q_field (k := 5) rfl rfl rfl rfl Try.underlying88 rfl Try.sizeOf56 rfl ?_
  refine q_load_c (j := 5) rfl rfl rfl rfl Try.isAgg56 (by with_reducible (repeat (first | exact Take.here | apply Take.there))) (by first | rfl | exact (Nat.add_zero _).symm) (by rfl) ?_
  refine q_len rfl rfl rfl rfl Try.underlying56 ?_
  refine q_int rfl rfl rfl rfl rfl (b_leq _ _ _ _) ?_
  refine r_done ?_
  refine rk_fold (b := q) x (pa := ra) (pc := rc) (ta := ta) (tc := tc) (oa := oa) (oc := oc) (ba := ba) (bc := bc) (by (repeat ((with_reducible apply Takes.cons); focus (first | (with_reducible (repeat (first | exact Take.here | apply Take.there)); done) | (repeat (first | exact Take.here | apply Take.there))))); exact Takes.nil) (by rfl) (by rfl) (by rfl) (by rfl) ?_
  refine s_keep [0, 1, 5, 21] (e' := [(0, _), (1, _), (5, _), (21, _)]) rfl ?_
  refine k_then_n ?_
  refine c_cond_p rfl (fun hlt => ?_) (fun hlt => ?_)
  · skip
    refine c_skip ?_
    refine k_then_n ?_
    refine c_seq ?_
    refine c_block ?_
    refine c_seq ?_
    refine c_plain (.q 0 (.q 1 (.q 2 (.q 3 ((.l 4 [] (.q 5 (.done)))))))) (by kernel_rfl) ?_
    refine q_move rfl rfl rfl rfl ?_
    refine q_move rfl rfl rfl rfl ?_
    refine q_move rfl rfl rfl rfl ?_
    refine q_build rfl rfl rfl rfl (vs := [_, _, _, _, _]) (run_buildS Try.underlying64 Try.zeroValue64 (ps := [(0, 1), (1, 1), (2, 3)]) ⟨rfl, Try.sizeOf3, rfl, Try.sizeOf3, rfl, Try.sizeOf32, trivial⟩ rfl) ?_
    have sp_1 := tells_spec pa pc b ra rc q x hx (hn) pl hpl 3 (((i : Nat) : Int) - 1) 0 0 0 (by decide)
    refine l_call rfl rfl rfl rfl rfl rfl Try.call28 (sp_1) (by (repeat ((with_reducible apply Takes.cons); focus (first | (with_reducible (repeat (first | exact Take.here | apply Take.there)); done) | (repeat (first | exact Take.here | apply Take.there))))); exact Takes.nil) ?_
    rintro ⟨⟩ -
    try simp only [List.cons_append, List.nil_append]
    refine ag_nil ?_
    refine q_not rfl rfl rfl rfl ?_
    refine s_eq 29 rfl (v' := .bool false) rfl ?_
    refine r_done ?_
    refine s_keep [0, 1, 5, 29] (e' := [(0, _), (1, _), (5, _), (29, _)]) rfl ?_
    refine k_then_n ?_
    refine c_cond_f rfl ?_
    refine c_skip ?_
    refine k_blk_n ?_
    refine k_then_n ?_
    refine c_plain (.q 0 (.q 1 (.q 2 (.done)))) (by kernel_rfl) ?_
    refine q_move rfl rfl rfl rfl ?_
    refine q_int rfl rfl rfl rfl rfl (b_add' _ (by (first | exact fits_i64 (by omega) (by omega) | exact fits_u64 (by omega) (by omega) | exact fits_u32 (by omega) (by omega) | exact fits_u8 (by omega) (by omega)))) ?_
    refine q_assign rfl rfl rfl rfl ?_
    refine r_done ?_
    refine k_then_n ?_
    refine s_eq 5 rfl (v' := .int .i64 ((((i + 1) : Nat) : Int) - 1)) (by first | rfl | (congr 1; done) | (congr 1 <;> first | rfl | omega | (simp; done) | (simp; omega))) ?_
    refine loop_next (x := i) (i + 1) ?_ ?_ ?_ ?_
    · exact by show i + 1 ≤ x.T.length + 2; omega
    · show x.T.length + 2 - (i + 1) < x.T.length + 2 - i; omega
    · exact ⟨rfl, rfl, rfl, trivial⟩
    · (try simp only [List.cons_append, List.nil_append]); (repeat ((with_reducible apply Takes.cons); focus (first | (with_reducible (repeat (first | exact Take.here | apply Take.there)); done) | (repeat (first | exact Take.here | apply Take.there))))); (repeat (first | exact Takes.nil | exact Takes.self | refine takes_drop2 ?_))
  · skip
    refine c_exit ?_
    refine k_then_exit ?_
    refine k_then_exit ?_
    refine k_blk_here ?_
    refine k_then_n ?_
    refine c_seq ?_
    refine c_seq ?_
    refine c_plain (.q 0 (.done)) (by kernel_rfl) ?_
    refine q_assign rfl rfl rfl rfl ?_
    refine r_done ?_
    refine k_then_n ?_
    refine c_block ?_
    refine c_loop2 (α := Nat) (fun (j : Nat) => j ≤ x.O.length + 2) (fun (j : Nat) => [(6, .int .i64 (((j : Nat) : Int) - 1))]) (fun (j : Nat) => [ck pa pc b x, own 1 encZ pa pc pl, rk ra rc q x, own 1 encZ ra rc pl]) (fun (j : Nat) => x.O.length + 2 - j) [0, 1] (er := [(0, _), (1, _)]) rfl (0) ?_ (by exact ⟨rfl, trivial⟩) (by (try dsimp only); (try simp only [Nat.add_zero, Nat.zero_add]); (repeat ((with_reducible apply Takes.cons); focus (first | (with_reducible (repeat (first | exact Take.here | apply Take.there)); done) | (repeat (first | exact Take.here | apply Take.there))))); exact Takes.nil) ?_
    · exact Nat.zero_le _
    rintro j hle_j
    try simp only [List.cons_append, List.nil_append]
    refine c_seq ?_
    refine c_seq ?_
    refine s_take (A := rk ra rc q x) (by with_reducible (repeat (first | exact Take.here | apply Take.there))) ?_
    refine rk_open fun ta tc oa oc ba bc => ?_
    refine c_plain (.q 0 (.q 1 (.q 2 (.q 3 (.q 4 (.q 5 (.q 6 (.done)))))))) (by kernel_rfl) ?_
    refine q_move rfl rfl rfl rfl ?_
    refine q_move rfl rfl rfl rfl ?_
    refine q_nil_p rfl rfl rfl rfl ?_
    refine q_field (k := 6) rfl rfl rfl rfl Try.underlying88 rfl Try.sizeOf23 rfl ?_
    refine q_load_c (j := 6) rfl rfl rfl rfl Try.isAgg23 (by with_reducible (repeat (first | exact Take.here | apply Take.there))) (by first | rfl | exact (Nat.add_zero _).symm) (by rfl) ?_
    refine q_len rfl rfl rfl rfl Try.underlying23 ?_
    refine q_int rfl rfl rfl rfl rfl (b_leq _ _ _ _) ?_
    refine r_done ?_
    refine rk_fold (b := q) x (pa := ra) (pc := rc) (ta := ta) (tc := tc) (oa := oa) (oc := oc) (ba := ba) (bc := bc) (by (repeat ((with_reducible apply Takes.cons); focus (first | (with_reducible (repeat (first | exact Take.here | apply Take.there)); done) | (repeat (first | exact Take.here | apply Take.there))))); exact Takes.nil) (by rfl) (by rfl) (by rfl) (by rfl) ?_
    refine s_keep [0, 1, 6, 36] (e' := [(0, _), (1, _), (6, _), (36, _)]) rfl ?_
    refine k_then_n ?_
    refine c_cond_p rfl (fun hlt => ?_) (fun hlt => ?_)
    · skip
      refine c_skip ?_
      refine k_then_n ?_
      refine c_seq ?_
      refine c_block ?_
      refine c_seq ?_
      refine c_plain (.q 0 (.q 1 (.q 2 (.q 3 ((.l 4 [] (.q 5 (.done)))))))) (by kernel_rfl) ?_
      refine q_move rfl rfl rfl rfl ?_
      refine q_move rfl rfl rfl rfl ?_
      refine q_move rfl rfl rfl rfl ?_
      refine q_build rfl rfl rfl rfl (vs := [_, _, _, _, _]) (run_buildS Try.underlying64 Try.zeroValue64 (ps := [(0, 1), (1, 1), (2, 3)]) ⟨rfl, Try.sizeOf3, rfl, Try.sizeOf3, rfl, Try.sizeOf32, trivial⟩ rfl) ?_
      have sp_2 := tells_spec pa pc b ra rc q x hx (hn) pl hpl 4 (((j : Nat) : Int) - 1) 0 0 0 (by decide)
      refine l_call rfl rfl rfl rfl rfl rfl Try.call28 (sp_2) (by (repeat ((with_reducible apply Takes.cons); focus (first | (with_reducible (repeat (first | exact Take.here | apply Take.there)); done) | (repeat (first | exact Take.here | apply Take.there))))); exact Takes.nil) ?_
      rintro ⟨⟩ -
      try simp only [List.cons_append, List.nil_append]
      refine ag_nil ?_
      refine q_not rfl rfl rfl rfl ?_
      refine s_eq 44 rfl (v' := .bool false) rfl ?_
      refine r_done ?_
      refine s_keep [0, 1, 6, 44] (e' := [(0, _), (1, _), (6, _), (44, _)]) rfl ?_
      refine k_then_n ?_
      refine c_cond_f rfl ?_
      refine c_skip ?_
      refine k_blk_n ?_
      refine k_then_n ?_
      refine c_plain (.q 0 (.q 1 (.q 2 (.done)))) (by kernel_rfl) ?_
      refine q_move rfl rfl rfl rfl ?_
      refine q_int rfl rfl rfl rfl rfl (b_add' _ (by (first | exact fits_i64 (by omega) (by omega) | exact fits_u64 (by omega) (by omega) | exact fits_u32 (by omega) (by omega) | exact fits_u8 (by omega) (by omega)))) ?_
      refine q_assign rfl rfl rfl rfl ?_
      refine r_done ?_
      refine k_then_n ?_
      refine s_eq 6 rfl (v' := .int .i64 ((((j + 1) : Nat) : Int) - 1)) (by first | rfl | (congr 1; done) | (congr 1 <;> first | rfl | omega | (simp; done) | (simp; omega))) ?_
      refine loop_next (x := j) (j + 1) ?_ ?_ ?_ ?_
      · exact by show j + 1 ≤ x.O.length + 2; omega
      · show x.O.length + 2 - (j + 1) < x.O.length + 2 - j; omega
      · exact ⟨rfl, rfl, rfl, trivial⟩
      · (try simp only [List.cons_append, List.nil_append]); (repeat ((with_reducible apply Takes.cons); focus (first | (with_reducible (repeat (first | exact Take.here | apply Take.there)); done) | (repeat (first | exact Take.here | apply Take.there))))); (repeat (first | exact Takes.nil | exact Takes.self | refine takes_drop2 ?_))
    · skip
      refine c_exit ?_
      refine k_then_exit ?_
      refine k_then_exit ?_
      refine k_blk_here ?_
      refine k_then_n ?_
      refine c_seq ?_
      refine c_seq ?_
      refine c_plain (.q 0 (.done)) (by kernel_rfl) ?_
      refine q_assign rfl rfl rfl rfl ?_
      refine r_done ?_
      refine k_then_n ?_
      refine c_block ?_
      refine c_loop2 (α := Nat) (fun (m : Nat) => m ≤ x.B.length + 2) (fun (m : Nat) => [(7, .int .i64 (((m : Nat) : Int) - 1))]) (fun (m : Nat) => [ck pa pc b x, own 1 encZ pa pc pl, rk ra rc q x, own 1 encZ ra rc pl]) (fun (m : Nat) => x.B.length + 2 - m) [0, 1] (er := [(0, _), (1, _)]) rfl (0) ?_ (by exact ⟨rfl, trivial⟩) (by (try dsimp only); (try simp only [Nat.add_zero, Nat.zero_add]); (repeat ((with_reducible apply Takes.cons); focus (first | (with_reducible (repeat (first | exact Take.here | apply Take.there)); done) | (repeat (first | exact Take.here | apply Take.there))))); exact Takes.nil) ?_
      · exact Nat.zero_le _
      rintro m hle_m
      try simp only [List.cons_append, List.nil_append]
      refine c_seq ?_
      refine c_seq ?_
      refine s_take (A := rk ra rc q x) (by with_reducible (repeat (first | exact Take.here | apply Take.there))) ?_
      refine rk_open fun ta tc oa oc ba bc => ?_
      refine c_plain (.q 0 (.q 1 (.q 2 (.q 3 (.q 4 (.q 5 (.q 6 (.done)))))))) (by kernel_rfl) ?_
      refine q_move rfl rfl rfl rfl ?_
      refine q_move rfl rfl rfl rfl ?_
      refine q_nil_p rfl rfl rfl rfl ?_
      refine q_field (k := 7) rfl rfl rfl rfl Try.underlying88 rfl Try.sizeOf72 rfl ?_
      refine q_load_c (j := 7) rfl rfl rfl rfl Try.isAgg72 (by with_reducible (repeat (first | exact Take.here | apply Take.there))) (by first | rfl | exact (Nat.add_zero _).symm) (by rfl) ?_
      refine q_len rfl rfl rfl rfl Try.underlying72 ?_
      refine q_int rfl rfl rfl rfl rfl (b_leq _ _ _ _) ?_
      refine r_done ?_
      refine rk_fold (b := q) x (pa := ra) (pc := rc) (ta := ta) (tc := tc) (oa := oa) (oc := oc) (ba := ba) (bc := bc) (by (repeat ((with_reducible apply Takes.cons); focus (first | (with_reducible (repeat (first | exact Take.here | apply Take.there)); done) | (repeat (first | exact Take.here | apply Take.there))))); exact Takes.nil) (by rfl) (by rfl) (by rfl) (by rfl) ?_
      refine s_keep [0, 1, 7, 51] (e' := [(0, _), (1, _), (7, _), (51, _)]) rfl ?_
      refine k_then_n ?_
      refine c_cond_p rfl (fun hlt => ?_) (fun hlt => ?_)
      · skip
        refine c_skip ?_
        refine k_then_n ?_
        refine c_seq ?_
        refine c_block ?_
        refine c_seq ?_
        refine c_plain (.q 0 (.q 1 (.q 2 (.q 3 ((.l 4 [] (.q 5 (.done)))))))) (by kernel_rfl) ?_
        refine q_move rfl rfl rfl rfl ?_
        refine q_move rfl rfl rfl rfl ?_
        refine q_move rfl rfl rfl rfl ?_
        refine q_build rfl rfl rfl rfl (vs := [_, _, _, _, _]) (run_buildS Try.underlying64 Try.zeroValue64 (ps := [(0, 1), (1, 1), (2, 3)]) ⟨rfl, Try.sizeOf3, rfl, Try.sizeOf3, rfl, Try.sizeOf32, trivial⟩ rfl) ?_
        have sp_3 := tells_spec pa pc b ra rc q x hx (hn) pl hpl 5 (((m : Nat) : Int) - 1) 0 0 0 (by decide)
        refine l_call rfl rfl rfl rfl rfl rfl Try.call28 (sp_3) (by (repeat ((with_reducible apply Takes.cons); focus (first | (with_reducible (repeat (first | exact Take.here | apply Take.there)); done) | (repeat (first | exact Take.here | apply Take.there))))); exact Takes.nil) ?_
        rintro ⟨⟩ -
        try simp only [List.cons_append, List.nil_append]
        refine ag_nil ?_
        refine q_not rfl rfl rfl rfl ?_
        refine s_eq 59 rfl (v' := .bool false) rfl ?_
        refine r_done ?_
        refine s_keep [0, 1, 7, 59] (e' := [(0, _), (1, _), (7, _), (59, _)]) rfl ?_
        refine k_then_n ?_
        refine c_cond_f rfl ?_
        refine c_skip ?_
        refine k_blk_n ?_
        refine k_then_n ?_
        refine c_plain (.q 0 (.q 1 (.q 2 (.done)))) (by kernel_rfl) ?_
        refine q_move rfl rfl rfl rfl ?_
        refine q_int rfl rfl rfl rfl rfl (b_add' _ (by (first | exact fits_i64 (by omega) (by omega) | exact fits_u64 (by omega) (by omega) | exact fits_u32 (by omega) (by omega) | exact fits_u8 (by omega) (by omega)))) ?_
        refine q_assign rfl rfl rfl rfl ?_
        refine r_done ?_
        refine k_then_n ?_
        refine s_eq 7 rfl (v' := .int .i64 ((((m + 1) : Nat) : Int) - 1)) (by first | rfl | (congr 1; done) | (congr 1 <;> first | rfl | omega | (simp; done) | (simp; omega))) ?_
        refine loop_next (x := m) (m + 1) ?_ ?_ ?_ ?_
        · exact by show m + 1 ≤ x.B.length + 2; omega
        · show x.B.length + 2 - (m + 1) < x.B.length + 2 - m; omega
        · exact ⟨rfl, rfl, rfl, trivial⟩
        · (try simp only [List.cons_append, List.nil_append]); (repeat ((with_reducible apply Takes.cons); focus (first | (with_reducible (repeat (first | exact Take.here | apply Take.there)); done) | (repeat (first | exact Take.here | apply Take.there))))); (repeat (first | exact Takes.nil | exact Takes.self | refine takes_drop2 ?_))
      · skip
        refine c_exit ?_
        refine k_then_exit ?_
        refine k_then_exit ?_
        refine k_blk_here ?_
        refine k_then_n ?_
        refine c_seq ?_
        refine c_plain (.q 0 ((.l 1 [] (.q 2 ((.l 3 [] (.q 4 (.q 5 (.done))))))))) (by kernel_rfl) ?_
        refine q_move rfl rfl rfl rfl ?_
        have sp_4 := len_spec pa pc b x
        refine l_call rfl rfl rfl rfl rfl rfl Try.call20 (sp_4) (by (repeat ((with_reducible apply Takes.cons); focus (first | (with_reducible (repeat (first | exact Take.here | apply Take.there)); done) | (repeat (first | exact Take.here | apply Take.there))))); exact Takes.nil) ?_
        rintro ⟨⟩ -
        try simp only [List.cons_append, List.nil_append]
        refine ag_nil ?_
        refine q_move rfl rfl rfl rfl ?_
        have sp_5 := rlen_spec ra rc q x
        refine l_call rfl rfl rfl rfl rfl rfl Try.call47 (sp_5) (by (repeat ((with_reducible apply Takes.cons); focus (first | (with_reducible (repeat (first | exact Take.here | apply Take.there)); done) | (repeat (first | exact Take.here | apply Take.there))))); exact Takes.nil) ?_
        rintro ⟨⟩ -
        try simp only [List.cons_append, List.nil_append]
        refine ag_nil ?_
        refine q_int rfl rfl rfl rfl rfl (b_eql _ _ _ _) ?_
        refine q_assign rfl rfl rfl rfl ?_
        refine r_done ?_
        refine s_keep [4] (e' := [(4, _)]) rfl ?_
        refine k_then_n ?_
        refine c_ret ?_
        refine ret1 rfl rfl (()) (by first | rfl | (first | rfl | (congr 1; done) | (congr 1 <;> first | rfl | omega | (simp; done) | (simp; omega)))) (by trivial) ?_
        (repeat ((with_reducible apply Takes.cons); focus (first | (with_reducible (repeat (first | exact Take.here | apply Take.there)); done) | (repeat (first | exact Take.here | apply Take.there))))); (repeat (first | exact Takes.nil | exact Takes.self | refine takes_drop2 ?_))

theorem alikenil_spec : Spec Try.prog 29 [.pointer none, .pointer none] [] (fun (_ : Unit) => .bool true) (fun _ => True) (fun _ => []) := by
  refine spec_mk (n := 65) Try.func29 rfl rfl rfl ?_
  intro Γ w0
  simp only [argE, List.cons_append, List.nil_append, Nat.zero_add, Nat.reduceAdd]
  refine c_seq ?_
  refine c_plain (.q 0 (.done)) (by kernel_rfl) ?_
  refine q_assign rfl rfl rfl rfl ?_
  refine r_done ?_
  refine k_then_n ?_
  refine c_seq ?_
  refine c_seq ?_
  refine c_plain (.q 0 (.q 1 (.q 2 (.q 3 (.q 4 (.done)))))) (by kernel_rfl) ?_
  refine q_move rfl rfl rfl rfl ?_
  refine q_eq_nil rfl rfl rfl rfl Try.underlying42 ?_
  refine s_eq 9 rfl (v' := .bool true) rfl ?_
  refine q_move rfl rfl rfl rfl ?_
  refine q_eq_nil rfl rfl rfl rfl Try.underlying60 ?_
  refine s_eq 11 rfl (v' := .bool true) rfl ?_
  refine q_neb rfl rfl rfl rfl rfl Try.underlying4 ?_
  refine s_eq 12 rfl (v' := .bool false) rfl ?_
  refine r_done ?_
  refine s_keep [0, 1, 12] (e' := [(0, _), (1, _), (12, _)]) rfl ?_
  refine k_then_n ?_
  refine c_cond_f rfl ?_
  refine c_skip ?_
  refine k_then_n ?_
  refine c_seq ?_
  refine c_seq ?_
  refine c_plain (.q 0 (.q 1 (.done))) (by kernel_rfl) ?_
  refine q_move rfl rfl rfl rfl ?_
  refine q_eq_nil rfl rfl rfl rfl Try.underlying42 ?_
  refine s_eq 14 rfl (v' := .bool true) rfl ?_
  refine r_done ?_
  refine k_then_n ?_
  refine c_cond_t rfl ?_
  refine c_seq ?_
  refine c_plain (.q 0 (.done)) (by kernel_rfl) ?_
  refine q_assign rfl rfl rfl rfl ?_
  refine r_done ?_
  refine s_keep [4] (e' := [(4, _)]) rfl ?_
  refine k_then_n ?_
  refine c_ret ?_
  refine k_then_ret ?_
  refine ret1 rfl rfl (()) (by first | rfl | (first | rfl | (congr 1; done) | (congr 1 <;> first | rfl | omega | (simp; done) | (simp; omega)))) (by trivial) ?_
  (repeat ((with_reducible apply Takes.cons); focus (first | (with_reducible (repeat (first | exact Take.here | apply Take.there)); done) | (repeat (first | exact Take.here | apply Take.there))))); (repeat (first | exact Takes.nil | exact Takes.self | refine takes_drop2 ?_))

theorem alikeo_spec (pa : Option Addr) (pc : Nat) (ra : Option Addr) (rc : Nat) (o : Option (Nat × Nat × CS)) (pl : List Int) (ho : ∀ z, o = some z → CInv z.2.2 ∧ z.2.2.n ≤ 1000000000000000 ∧ z.2.2.pa = pl) :
    Spec Try.prog 29 [.pointer (o.map fun z => (⟨z.1, 0, none⟩ : Addr)), .pointer (o.map fun z => (⟨z.2.1, 0, none⟩ : Addr))] [oth pa pc ra rc o, own 1 encZ pa pc pl, own 1 encZ ra rc pl] (fun (_ : Unit) => .bool true) (fun _ => True) (fun _ => []) := by
  cases o with
  | none => exact alikenil_spec.conseq (fun Γ hp s => s.tail.tail.tail) (fun y hy => ⟨y, rfl, hy, fun Γ hp s => s⟩)
  | some z =>
    refine (alike_spec pa pc z.1 ra rc z.2.1 z.2.2 (ho z rfl).1 (ho z rfl).2.1 pl (ho z rfl).2.2).conseq (fun Γ hp s => ?_) (fun y hy => ⟨y, rfl, hy, fun Γ hp s => s.tail.tail.tail.tail⟩)
    obtain ⟨h1, l1, a1, s1⟩ := s
    have s2 := Bun.unfold (Γ := [ck pa pc z.1 z.2.2, rk ra rc z.2.1 z.2.2]) ⟨h1, l1, a1, s1⟩
    exact (by (repeat ((with_reducible apply Takes.cons); focus (first | (with_reducible (repeat (first | exact Take.here | apply Take.there)); done) | (repeat (first | exact Take.here | apply Take.there))))); exact Takes.nil : Takes _ [ck pa pc z.1 z.2.2, own 1 encZ pa pc pl, rk ra rc z.2.1 z.2.2, own 1 encZ ra rc pl] _) _ s2

theorem plays_ok (th va vo lk : Int) (pl : List Int) (ao : Option Addr) (n c : Nat) (A : HProp) (hr : RdS A ao (pl.flatMap encZ)) (hn : pl.length = n) (hb : n ≤ 4000000) (L : List T5) (so : Option Addr) (m sc : Nat) (hs : RdS A so (L.flatMap enc5)) (hm : L.length = m) (hmb : m ≤ 4000000) (hok : OkS th va vo lk pl) : Spec Try.prog 8 [.agg #[.int .i64 th, .int .i64 va, .int .i64 vo, .int .i64 lk, .slice ao n c], .slice so m sc] [A] (fun (_ : Unit) => .bool true) (fun _ => True) (fun _ => [A]) := by
  refine spec_mk (n := 104) Try.func8 rfl rfl rfl ?_
  intro Γ w0
  simp only [argE, List.cons_append, List.nil_append, Nat.zero_add, Nat.reduceAdd]
  refine c_seq ?_
  refine c_plain ((.l 0 [] (.q 1 (.done)))) (by kernel_rfl) ?_
  refine l_box rfl rfl rfl rfl (us := [_, _, _, _, _]) rfl ?_
  intro b2
  refine ag_nil ?_
  refine q_assign rfl rfl rfl rfl ?_
  refine r_done ?_
  refine k_then_n ?_
  refine c_seq ?_
  refine c_plain (.q 0 ((.l 1 [] ((.l 2 [] ((.l 3 [] (.done)))))))) (by kernel_rfl) ?_
  refine q_loadN_c rfl rfl rfl rfl Try.isAgg25 Try.sizeOf25 (by with_reducible (repeat (first | exact Take.here | apply Take.there))) 0 (us := [_, _, _, _, _]) (by first | rfl | exact (Nat.add_zero _).symm) rfl rfl ?_
  have sp_1 := twin_spec th va vo lk pl ao n c A (hr) (by first | rfl | assumption | omega | (simp; done) | (simp; omega)) (by omega)
  refine l_call rfl rfl rfl rfl rfl rfl Try.call11 (sp_1) (by (repeat ((with_reducible apply Takes.cons); focus (first | (with_reducible (repeat (first | exact Take.here | apply Take.there)); done) | (repeat (first | exact Take.here | apply Take.there))))); exact Takes.nil) ?_
  rintro ⟨qa, qc⟩ -
  try simp only [List.cons_append, List.nil_append]
  refine s_take (A := own 1 encZ qa qc (pl ++ [(-71)])) (by with_reducible (repeat (first | exact Take.here | apply Take.there))) ?_
  refine own_fc fun q1 q2 q3 => ?_
  simp only [List.length_append, List.length_singleton] at q1
  try simp only [List.cons_append, List.nil_append]
  refine ag_nil ?_
  refine l_alloc rfl rfl rfl Try.zeroValue25 (zs := [.int .i64 0, .int .i64 0, .int .i64 0, .int .i64 0, .slice none 0 0]) rfl ?_
  intro b5
  refine ag_nil ?_
  refine l_store (j := 0) rfl rfl rfl rfl Try.sizeOf25 (us := [_, _, _, _, _]) rfl rfl rfl (by with_reducible (repeat (first | exact Take.here | apply Take.there))) (by first | rfl | exact (Nat.add_zero _).symm) (by first | decide | (simp; done) | omega) ?_
  simp only [setL, List.set]
  refine ag_nil ?_
  refine r_done ?_
  refine s_keep [1, 2, 5] (e' := [(1, _), (2, _), (5, _)]) rfl ?_
  refine k_then_n ?_
  refine c_seq ?_
  refine c_plain (.q 0 ((.l 1 [] (.q 2 (.q 3 (.q 4 (.q 5 (.q 6 (.done))))))))) (by kernel_rfl) ?_
  refine q_loadN_c rfl rfl rfl rfl Try.isAgg25 Try.sizeOf25 (by with_reducible (repeat (first | exact Take.here | apply Take.there))) 0 (us := [_, _, _, _, _]) (by first | rfl | exact (Nat.add_zero _).symm) rfl rfl ?_
  have sp_2 := new_spec th va vo lk pl qa n qc (own 1 encZ qa qc (pl ++ [(-71)])) ((own_front encZ_len q2 q3)) (by first | rfl | assumption | omega | (simp; done) | (simp; omega)) (by omega) hok
  refine l_call rfl rfl rfl rfl rfl rfl Try.call17 (sp_2) (by (repeat ((with_reducible apply Takes.cons); focus (first | (with_reducible (repeat (first | exact Take.here | apply Take.there)); done) | (repeat (first | exact Take.here | apply Take.there))))); exact Takes.nil) ?_
  rintro ⟨nc, ncp, ncc⟩ -
  try simp only [List.cons_append, List.nil_append]
  refine ag_nil ?_
  refine q_move rfl rfl rfl rfl ?_
  refine q_extract rfl rfl rfl rfl rfl ?_
  refine q_extract rfl rfl rfl rfl rfl ?_
  refine q_assign rfl rfl rfl rfl ?_
  refine q_assign rfl rfl rfl rfl ?_
  refine r_done ?_
  refine s_keep [1, 2, 5, 6, 7] (e' := [(1, _), (2, _), (5, _), (6, _), (7, _)]) rfl ?_
  refine k_then_n ?_
  refine c_seq ?_
  refine c_plain (.q 0 ((.l 1 [] (.q 2 (.q 3 (.q 4 (.q 5 (.q 6 (.done))))))))) (by kernel_rfl) ?_
  refine q_loadN_c rfl rfl rfl rfl Try.isAgg25 Try.sizeOf25 (by with_reducible (repeat (first | exact Take.here | apply Take.there))) 0 (us := [_, _, _, _, _]) (by first | rfl | exact (Nat.add_zero _).symm) rfl rfl ?_
  have sp_3 := rnew_spec th va vo lk pl ao n c A (hr) (by first | rfl | assumption | omega | (simp; done) | (simp; omega)) (by omega) hok
  refine l_call rfl rfl rfl rfl rfl rfl Try.call25 (sp_3) (by (repeat ((with_reducible apply Takes.cons); focus (first | (with_reducible (repeat (first | exact Take.here | apply Take.there)); done) | (repeat (first | exact Take.here | apply Take.there))))); exact Takes.nil) ?_
  rintro ⟨nr, nrp, nrc⟩ -
  try simp only [List.cons_append, List.nil_append]
  refine ag_nil ?_
  refine q_move rfl rfl rfl rfl ?_
  refine q_extract rfl rfl rfl rfl rfl ?_
  refine q_extract rfl rfl rfl rfl rfl ?_
  refine q_assign rfl rfl rfl rfl ?_
  refine q_assign rfl rfl rfl rfl ?_
  refine r_done ?_
  refine s_keep [1, 2, 5, 6, 7, 8, 9] (e' := [(1, _), (2, _), (5, _), (6, _), (7, _), (8, _), (9, _)]) rfl ?_
  refine k_then_n ?_
  refine c_seq ?_
  refine c_seq ?_
  refine c_plain (.q 0 (.q 1 (.q 2 (.q 3 (.q 4 (.q 5 (.q 6 (.q 7 (.q 8 (.q 9 (.q 10 (.q 11 (.q 12 ((.l 13 [] (.q 14 (.q 15 (.done)))))))))))))))))) (by kernel_rfl) ?_
  refine q_move rfl rfl rfl rfl ?_
  refine q_move rfl rfl rfl rfl ?_
  refine q_int rfl rfl rfl rfl rfl (b_neq _ _ _ _) ?_
  refine s_eq 28 rfl (v' := .bool false) (by first | rfl | simp) ?_
  refine q_move rfl rfl rfl rfl ?_
  refine q_move rfl rfl rfl rfl ?_
  refine q_eq_nil rfl rfl rfl rfl Try.underlying42 ?_
  refine s_eq 31 rfl (v' := .bool false) rfl ?_
  refine q_move rfl rfl rfl rfl ?_
  refine q_eq_nil rfl rfl rfl rfl Try.underlying60 ?_
  refine s_eq 33 rfl (v' := .bool false) rfl ?_
  refine q_neb rfl rfl rfl rfl rfl Try.underlying4 ?_
  refine s_eq 34 rfl (v' := .bool false) rfl ?_
  refine s_eq 34 rfl (v' := .bool false) (by rfl) ?_
  refine q_pick_f rfl rfl rfl rfl rfl ?_
  refine q_move rfl rfl rfl rfl ?_
  refine q_loadN_c rfl rfl rfl rfl Try.isAgg25 Try.sizeOf25 (by with_reducible (repeat (first | exact Take.here | apply Take.there))) 0 (us := [_, _, _, _, _]) (by first | rfl | exact (Nat.add_zero _).symm) rfl rfl ?_
  refine q_loadN_c rfl rfl rfl rfl Try.isAgg25 Try.sizeOf25 (by with_reducible (repeat (first | exact Take.here | apply Take.there))) 0 (us := [_, _, _, _, _]) (by first | rfl | exact (Nat.add_zero _).symm) rfl rfl ?_
  have sp_4 := left_spec th va vo lk pl ao n c A hr hn hb qa qc
  refine l_call rfl rfl rfl rfl rfl rfl Try.call15 (sp_4) (by (repeat ((with_reducible apply Takes.cons); focus (first | (with_reducible (repeat (first | exact Take.here | apply Take.there)); done) | (repeat (first | exact Take.here | apply Take.there))))); exact Takes.nil) ?_
  rintro ⟨⟩ -
  try simp only [List.cons_append, List.nil_append]
  refine ag_nil ?_
  refine q_not rfl rfl rfl rfl ?_
  refine s_eq 40 rfl (v' := .bool false) rfl ?_
  refine q_pick_f rfl rfl rfl rfl rfl ?_
  refine r_done ?_
  refine s_keep [1, 5, 6, 8, 41] (e' := [(1, _), (5, _), (6, _), (8, _), (41, _)]) rfl ?_
  refine k_then_n ?_
  refine c_cond_f rfl ?_
  refine c_skip ?_
  refine k_then_n ?_
  refine c_seq ?_
  refine c_seq ?_
  refine c_plain (.q 0 (.q 1 (.done))) (by kernel_rfl) ?_
  refine q_move rfl rfl rfl rfl ?_
  refine q_eq_nil rfl rfl rfl rfl Try.underlying42 ?_
  refine s_eq 43 rfl (v' := .bool false) rfl ?_
  refine r_done ?_
  refine k_then_n ?_
  refine c_cond_f rfl ?_
  refine c_skip ?_
  refine k_then_n ?_
  refine c_seq ?_
  refine c_seq ?_
  refine c_plain (.q 0 (.done)) (by kernel_rfl) ?_
  refine q_assign rfl rfl rfl rfl ?_
  refine r_done ?_
  refine k_then_n ?_
  refine c_block ?_
  refine c_loop2 (α := Nat × List Int) (fun (x_ : Nat × List Int) => match x_ with | (z, f) => z ≤ n ∧ (f.length = n + 1)) (fun (x_ : Nat × List Int) => match x_ with | (z, f) => [(10, .int .i64 ((z : Nat) : Int))]) (fun (x_ : Nat × List Int) => match x_ with | (z, f) => [own 1 encZ qa qc f]) (fun (x_ : Nat × List Int) => match x_ with | (z, f) => n - z) [1, 5, 6, 8] (er := [(1, _), (5, _), (6, _), (8, _)]) rfl (0, (pl ++ [(-71)])) ?_ (by exact ⟨rfl, trivial⟩) (by (try dsimp only); (try simp only [Nat.add_zero, Nat.zero_add]); (repeat ((with_reducible apply Takes.cons); focus (first | (with_reducible (repeat (first | exact Take.here | apply Take.there)); done) | (repeat (first | exact Take.here | apply Take.there))))); exact Takes.nil) ?_
  · exact ⟨Nat.zero_le _, by rw [List.length_append, hn]; rfl⟩
  rintro ⟨z, f⟩ ⟨hle_z, hfl⟩
  try simp only [List.cons_append, List.nil_append]
  refine c_seq ?_
  refine c_seq ?_
  refine c_plain (.q 0 (.q 1 (.q 2 (.q 3 (.q 4 (.done)))))) (by kernel_rfl) ?_
  refine q_move rfl rfl rfl rfl ?_
  refine q_field (k := 4) rfl rfl rfl rfl Try.underlying25 rfl Try.sizeOf23 rfl ?_
  refine q_load_c (j := 4) rfl rfl rfl rfl Try.isAgg23 (by with_reducible (repeat (first | exact Take.here | apply Take.there))) (by first | rfl | exact (Nat.add_zero _).symm) (by rfl) ?_
  refine q_len rfl rfl rfl rfl Try.underlying23 ?_
  refine q_int rfl rfl rfl rfl rfl (b_lss _ _ _ _) ?_
  refine r_done ?_
  refine s_keep [1, 5, 6, 8, 10, 49] (e' := [(1, _), (5, _), (6, _), (8, _), (10, _), (49, _)]) rfl ?_
  refine k_then_n ?_
  refine c_cond_p rfl (fun hlt => ?_) (fun hlt => ?_)
  · skip
    refine c_skip ?_
    refine k_then_n ?_
    refine c_seq ?_
    refine c_block ?_
    refine c_plain (.q 0 (.q 1 (.q 2 (.q 3 ((.l 4 [] (.done))))))) (by kernel_rfl) ?_
    refine q_field (k := 4) rfl rfl rfl rfl Try.underlying25 rfl Try.sizeOf23 rfl ?_
    refine q_load_c (j := 4) rfl rfl rfl rfl Try.isAgg23 (by with_reducible (repeat (first | exact Take.here | apply Take.there))) (by first | rfl | exact (Nat.add_zero _).symm) (by rfl) ?_
    refine q_move rfl rfl rfl rfl ?_
    obtain ⟨e_5, he_5⟩ := get_lt (l := f) (i := z) (by first | omega | (simp; done) | (simp; omega))
    refine q_idxO (sz := 0) (k := z) (enc := encZ) (xs := f) rfl rfl rfl rfl rfl Try.underlying23 Try.sizeOf3 he_5 (by first | rfl | omega) (by omega) (by with_reducible (repeat (first | exact Take.here | apply Take.there))) ?_
    intro ib55 io55 ha55 hl55 hc55
    refine l_store_O (j := 0) (k := z) (q := 77) (enc := encZ) (off := io55) rfl rfl rfl rfl Try.sizeOf3 (us := [_]) rfl rfl rfl ha55 encZ_len he_5 (by with_reducible (repeat (first | exact Take.here | apply Take.there))) (by first | rfl | exact (Nat.add_zero _).symm | omega) (by first | decide | exact Nat.le_of_ble_eq_true rfl) (by rfl) ?_
    refine ag_nil ?_
    refine r_done ?_
    refine s_keep [1, 5, 6, 8, 10] (e' := [(1, _), (5, _), (6, _), (8, _), (10, _)]) rfl ?_
    refine k_blk_n ?_
    refine k_then_n ?_
    refine c_plain (.q 0 (.q 1 (.q 2 (.done)))) (by kernel_rfl) ?_
    refine q_move rfl rfl rfl rfl ?_
    refine q_int rfl rfl rfl rfl rfl (b_add' _ (by (first | exact fits_i64 (by omega) (by omega) | exact fits_u64 (by omega) (by omega) | exact fits_u32 (by omega) (by omega) | exact fits_u8 (by omega) (by omega)))) ?_
    refine q_assign rfl rfl rfl rfl ?_
    refine r_done ?_
    refine k_then_n ?_
    refine loop_next (x := (z, f)) ((z + 1, f.set z 77)) ?_ ?_ ?_ ?_
    · try dsimp only
      exact ⟨by omega, by rw [List.length_set]; exact hfl⟩
    · show n - (z + 1) < n - z; omega
    · exact ⟨rfl, rfl, rfl, rfl, rfl, trivial⟩
    · (try simp only [List.cons_append, List.nil_append]); (repeat ((with_reducible apply Takes.cons); focus (first | (with_reducible (repeat (first | exact Take.here | apply Take.there)); done) | (repeat (first | exact Take.here | apply Take.there))))); (repeat (first | exact Takes.nil | exact Takes.self | refine takes_drop2 ?_))
  · skip
    refine c_exit ?_
    refine k_then_exit ?_
    refine k_then_exit ?_
    refine k_blk_here ?_
    refine k_then_n ?_
    refine c_seq ?_
    have hxn := new_inv hok
    have hz0 : (newF th va vo lk pl).n = 0 := rfl
    refine oth_nil (pa := ncp) (pc := ncc) (ra := nrp) (rc := nrc) ?_
    refine c_plain (.q 0 (.done)) (by kernel_rfl) ?_
    refine q_assign rfl rfl rfl rfl ?_
    refine r_done ?_
    refine k_then_n ?_
    refine c_seq ?_
    refine c_plain (.q 0 (.done)) (by kernel_rfl) ?_
    refine q_assign rfl rfl rfl rfl ?_
    refine r_done ?_
    refine k_then_n ?_
    refine c_seq ?_
    refine c_seq ?_
    refine c_plain (.q 0 (.done)) (by kernel_rfl) ?_
    refine q_assign rfl rfl rfl rfl ?_
    refine r_done ?_
    refine k_then_n ?_
    refine c_block ?_
    refine c_loop2 (α := Nat × Nat × Nat × CS × Option (Nat × Nat × CS)) (fun (x_ : Nat × Nat × Nat × CS × Option (Nat × Nat × CS)) => match x_ with | (i, b, q, x, o) => i ≤ m ∧ (CInv x) ∧ (x.n ≤ (i : Int)) ∧ (x.pa = pl) ∧ (∀ z, o = some z → CInv z.2.2 ∧ z.2.2.n ≤ (i : Int) ∧ z.2.2.pa = pl)) (fun (x_ : Nat × Nat × Nat × CS × Option (Nat × Nat × CS)) => match x_ with | (i, b, q, x, o) => [(6, .pointer (some ⟨b, 0, none⟩)), (8, .pointer (some ⟨q, 0, none⟩)), (11, .pointer (o.map fun z => (⟨z.1, 0, none⟩ : Addr))), (12, .pointer (o.map fun z => (⟨z.2.1, 0, none⟩ : Addr))), (13, .int .i64 ((i : Nat) : Int))]) (fun (x_ : Nat × Nat × Nat × CS × Option (Nat × Nat × CS)) => match x_ with | (i, b, q, x, o) => [ck ncp ncc b x, rk nrp nrc q x, oth ncp ncc nrp nrc o, own 1 encZ ncp ncc pl, own 1 encZ nrp nrc pl]) (fun (x_ : Nat × Nat × Nat × CS × Option (Nat × Nat × CS)) => match x_ with | (i, b, q, x, o) => m - i) [1] (er := [(1, _)]) rfl (0, nc, nr, (newF th va vo lk pl), none) ?_ (by exact ⟨rfl, rfl, rfl, rfl, rfl, trivial⟩) (by (try dsimp only); (try simp only [Nat.add_zero, Nat.zero_add]); (repeat ((with_reducible apply Takes.cons); focus (first | (with_reducible (repeat (first | exact Take.here | apply Take.there)); done) | (repeat (first | exact Take.here | apply Take.there))))); exact Takes.nil) ?_
    · exact ⟨Nat.zero_le _, hxn, Int.le_refl _, rfl, fun z hz => by cases hz⟩
    rintro ⟨i, b, q, x, o⟩ ⟨hle_i, hx, hxm, hxp, ho⟩
    try simp only [List.cons_append, List.nil_append]
    refine c_seq ?_
    refine c_seq ?_
    refine c_plain (.q 0 (.q 1 (.q 2 (.q 3 (.done))))) (by kernel_rfl) ?_
    refine q_move rfl rfl rfl rfl ?_
    refine q_move rfl rfl rfl rfl ?_
    refine q_len rfl rfl rfl rfl Try.underlying59 ?_
    refine q_int rfl rfl rfl rfl rfl (b_lss _ _ _ _) ?_
    refine r_done ?_
    refine k_then_n ?_
    refine c_cond_p rfl (fun hlt2 => ?_) (fun hlt2 => ?_)
    · skip
      refine c_skip ?_
      refine k_then_n ?_
      refine c_seq ?_
      refine c_block ?_
      refine c_seq ?_
      refine c_plain (.q 0 (.q 1 (.q 2 (.q 3 (.q 4 (.done)))))) (by kernel_rfl) ?_
      refine q_move rfl rfl rfl rfl ?_
      refine q_move rfl rfl rfl rfl ?_
      obtain ⟨s_, hs_⟩ := get_lt (l := L) (i := i) (by first | omega | (simp; done) | (simp; omega))
      refine q_idxR (sz := 4) (k := i) rfl rfl rfl rfl rfl Try.underlying59 Try.sizeOf64 (hs) hs_ enc5_len (by first | rfl | omega) (by omega) ?_
      intro ib64 io64 _ hd64
      refine q_field (k := 0) rfl rfl rfl rfl Try.underlying64 rfl Try.sizeOf3 rfl ?_
      refine q_load rfl rfl rfl rfl Try.isAgg3 (by with_reducible (repeat (first | exact Take.here | apply Take.there))) (hd64 0 (.int .i64 s_.1) rfl) ?_
      refine r_done ?_
      refine s_keep [1, 6, 8, 11, 12, 13, 66] (e' := [(1, _), (6, _), (8, _), (11, _), (12, _), (13, _), (66, _)]) rfl ?_
      refine k_then_n ?_
      refine c_block ?_
      refine c_seq ?_
      refine c_plain (.q 0 (.q 1 (.done))) (by kernel_rfl) ?_
      refine q_int rfl rfl rfl rfl rfl (b_eql _ _ _ _) ?_
      refine q_assign rfl rfl rfl rfl ?_
      refine r_done ?_
      refine k_then_n ?_
      refine c_cond_p rfl (fun h7 => ?_) (fun h7 => ?_)
      · skip
        refine c_seq ?_
        refine c_plain (.q 0 (.q 1 (.done))) (by kernel_rfl) ?_
        refine q_move rfl rfl rfl rfl ?_
        refine q_assign rfl rfl rfl rfl ?_
        refine r_done ?_
        refine s_keep [1, 8, 11, 13] (e' := [(1, _), (8, _), (11, _), (13, _)]) rfl ?_
        refine k_then_n ?_
        refine c_seq ?_
        refine c_plain (.q 0 (.q 1 (.done))) (by kernel_rfl) ?_
        refine q_move rfl rfl rfl rfl ?_
        refine q_assign rfl rfl rfl rfl ?_
        refine r_done ?_
        refine k_then_n ?_
        refine c_seq ?_
        refine c_plain (.q 0 ((.l 1 [] (.q 2 (.done))))) (by kernel_rfl) ?_
        refine q_move rfl rfl rfl rfl ?_
        have sp_6 := copy_spec ncp ncc b x hx
        refine l_call rfl rfl rfl rfl rfl rfl Try.call26 (sp_6) (by (repeat ((with_reducible apply Takes.cons); focus (first | (with_reducible (repeat (first | exact Take.here | apply Take.there)); done) | (repeat (first | exact Take.here | apply Take.there))))); exact Takes.nil) ?_
        rintro nb -
        try simp only [List.cons_append, List.nil_append]
        refine ag_nil ?_
        refine q_assign rfl rfl rfl rfl ?_
        refine r_done ?_
        refine s_keep [1, 6, 11, 12, 13] (e' := [(1, _), (6, _), (11, _), (12, _), (13, _)]) rfl ?_
        refine k_then_n ?_
        refine c_seq ?_
        refine c_plain (.q 0 ((.l 1 [] (.q 2 (.done))))) (by kernel_rfl) ?_
        refine q_move rfl rfl rfl rfl ?_
        have sp_7 := rcopy_spec nrp nrc q x hx
        refine l_call rfl rfl rfl rfl rfl rfl Try.call27 (sp_7) (by (repeat ((with_reducible apply Takes.cons); focus (first | (with_reducible (repeat (first | exact Take.here | apply Take.there)); done) | (repeat (first | exact Take.here | apply Take.there))))); exact Takes.nil) ?_
        rintro nq -
        try simp only [List.cons_append, List.nil_append]
        refine ag_nil ?_
        refine q_assign rfl rfl rfl rfl ?_
        refine r_done ?_
        refine k_then_n ?_
        refine c_seq ?_
        refine c_plain (.q 0 (.q 1 (.done))) (by kernel_rfl) ?_
        refine q_move rfl rfl rfl rfl ?_
        refine q_eq_nil rfl rfl rfl rfl Try.underlying42 ?_
        refine s_eq 84 rfl (v' := .bool false) rfl ?_
        refine r_done ?_
        refine k_then_n ?_
        refine c_cond_f rfl ?_
        refine c_skip ?_
        refine k_blk_n ?_
        refine k_blk_n ?_
        refine k_then_n ?_
        refine c_plain (.q 0 (.q 1 (.q 2 (.done)))) (by kernel_rfl) ?_
        refine q_move rfl rfl rfl rfl ?_
        refine q_int rfl rfl rfl rfl rfl (b_add' _ (by (first | exact fits_i64 (by omega) (by omega) | exact fits_u64 (by omega) (by omega) | exact fits_u32 (by omega) (by omega) | exact fits_u8 (by omega) (by omega)))) ?_
        refine q_assign rfl rfl rfl rfl ?_
        refine r_done ?_
        refine s_keep [1, 6, 8, 11, 12, 13] (e' := [(1, _), (6, _), (8, _), (11, _), (12, _), (13, _)]) rfl ?_
        refine k_then_n ?_
        refine oth_fold (b := b) (q := q) (y := x) (by (repeat ((with_reducible apply Takes.cons); focus (first | (with_reducible (repeat (first | exact Take.here | apply Take.there)); done) | (repeat (first | exact Take.here | apply Take.there))))); exact Takes.nil) ?_
        refine loop_next (x := (i, b, q, x, o)) ((i + 1, nb, nq, x, some (b, q, x))) ?_ ?_ ?_ ?_
        · try dsimp only
          exact ⟨by omega, hx, by omega, hxp, fun z hz => by cases hz; exact ⟨hx, by show x.n ≤ _; omega, hxp⟩⟩
        · show m - (i + 1) < m - i; omega
        · exact ⟨rfl, rfl, rfl, rfl, rfl, rfl, trivial⟩
        · (try simp only [List.cons_append, List.nil_append]); (repeat ((with_reducible apply Takes.cons); focus (first | (with_reducible (repeat (first | exact Take.here | apply Take.there)); done) | (repeat (first | exact Take.here | apply Take.there))))); (repeat (first | exact Takes.nil | exact Takes.self | refine takes_drop2 ?_))
      · skip
        refine c_seq ?_
        refine c_plain (.q 0 (.q 1 (.done))) (by kernel_rfl) ?_
        refine q_int rfl rfl rfl rfl rfl (b_eql _ _ _ _) ?_
        refine q_assign rfl rfl rfl rfl ?_
        refine r_done ?_
        refine s_keep [1, 6, 8, 11, 12, 13, 85] (e' := [(1, _), (6, _), (8, _), (11, _), (12, _), (13, _), (85, _)]) rfl ?_
        refine k_then_n ?_
        refine c_cond_p rfl (fun h8 => ?_) (fun h8 => ?_)
        · skip
          refine c_seq ?_
          refine c_plain (.q 0 (.q 1 (.done))) (by kernel_rfl) ?_
          refine q_move rfl rfl rfl rfl ?_
          refine q_ne_nil rfl rfl rfl rfl Try.underlying42 ?_
          refine r_done ?_
          refine k_then_n ?_
          refine c_cond rfl (fun hon => ?_) (fun hon => ?_)
          · skip
            try simp only [Bool.and_eq_true, Bool.or_eq_true, Bool.not_eq_true', Bool.not_eq_false', Bool.and_eq_false_iff, Bool.or_eq_false_iff, decide_eq_true_eq, decide_eq_false_iff_not] at hon
            obtain ⟨⟨b2, q2, y⟩, rfl⟩ : ∃ z, o = some z := by
              cases o with
              | none => exact absurd hon (by simp)
              | some z => exact ⟨z, rfl⟩
            refine s_take (A := oth ncp ncc nrp nrc (some (b2, q2, y))) (by with_reducible (repeat (first | exact Take.here | apply Take.there))) ?_
            refine oth_open ?_
            obtain ⟨hy1, hy2, hy3⟩ := ho _ rfl
            simp only at hy1 hy2 hy3
            refine c_seq ?_
            refine c_plain (.q 0 (.q 1 (.q 2 (.q 3 (.done))))) (by kernel_rfl) ?_
            refine q_move rfl rfl rfl rfl ?_
            refine q_move rfl rfl rfl rfl ?_
            refine q_assign rfl rfl rfl rfl ?_
            refine q_assign rfl rfl rfl rfl ?_
            refine r_done ?_
            refine s_keep [1, 6, 8, 11, 12, 13] (e' := [(1, _), (6, _), (8, _), (11, _), (12, _), (13, _)]) rfl ?_
            refine k_then_n ?_
            refine c_plain (.q 0 (.q 1 (.q 2 (.q 3 (.done))))) (by kernel_rfl) ?_
            refine q_move rfl rfl rfl rfl ?_
            refine q_move rfl rfl rfl rfl ?_
            refine q_assign rfl rfl rfl rfl ?_
            refine q_assign rfl rfl rfl rfl ?_
            refine r_done ?_
            refine k_blk_n ?_
            refine k_blk_n ?_
            refine k_then_n ?_
            refine c_plain (.q 0 (.q 1 (.q 2 (.done)))) (by kernel_rfl) ?_
            refine q_move rfl rfl rfl rfl ?_
            refine q_int rfl rfl rfl rfl rfl (b_add' _ (by (first | exact fits_i64 (by omega) (by omega) | exact fits_u64 (by omega) (by omega) | exact fits_u32 (by omega) (by omega) | exact fits_u8 (by omega) (by omega)))) ?_
            refine q_assign rfl rfl rfl rfl ?_
            refine r_done ?_
            refine s_keep [1, 6, 8, 11, 12, 13] (e' := [(1, _), (6, _), (8, _), (11, _), (12, _), (13, _)]) rfl ?_
            refine k_then_n ?_
            refine oth_fold (b := b) (q := q) (y := x) (by (repeat ((with_reducible apply Takes.cons); focus (first | (with_reducible (repeat (first | exact Take.here | apply Take.there)); done) | (repeat (first | exact Take.here | apply Take.there))))); exact Takes.nil) ?_
            refine loop_next (x := (i, b, q, x, some (b2, q2, y))) ((i + 1, b2, q2, y, some (b, q, x))) ?_ ?_ ?_ ?_
            · try dsimp only
              exact ⟨by omega, hy1, by omega, hy3, fun z hz => by cases hz; exact ⟨hx, by show x.n ≤ _; omega, hxp⟩⟩
            · show m - (i + 1) < m - i; omega
            · exact ⟨rfl, rfl, rfl, rfl, rfl, rfl, trivial⟩
            · (try simp only [List.cons_append, List.nil_append]); (repeat ((with_reducible apply Takes.cons); focus (first | (with_reducible (repeat (first | exact Take.here | apply Take.there)); done) | (repeat (first | exact Take.here | apply Take.there))))); (repeat (first | exact Takes.nil | exact Takes.self | refine takes_drop2 ?_))
          · skip
            try simp only [Bool.and_eq_true, Bool.or_eq_true, Bool.not_eq_true', Bool.not_eq_false', Bool.and_eq_false_iff, Bool.or_eq_false_iff, decide_eq_true_eq, decide_eq_false_iff_not] at hon
            refine c_skip ?_
            refine k_blk_n ?_
            refine k_blk_n ?_
            refine k_then_n ?_
            refine c_plain (.q 0 (.q 1 (.q 2 (.done)))) (by kernel_rfl) ?_
            refine q_move rfl rfl rfl rfl ?_
            refine q_int rfl rfl rfl rfl rfl (b_add' _ (by (first | exact fits_i64 (by omega) (by omega) | exact fits_u64 (by omega) (by omega) | exact fits_u32 (by omega) (by omega) | exact fits_u8 (by omega) (by omega)))) ?_
            refine q_assign rfl rfl rfl rfl ?_
            refine r_done ?_
            refine s_keep [1, 6, 8, 11, 12, 13] (e' := [(1, _), (6, _), (8, _), (11, _), (12, _), (13, _)]) rfl ?_
            refine k_then_n ?_
            refine loop_next (x := (i, b, q, x, o)) ((i + 1, b, q, x, o)) ?_ ?_ ?_ ?_
            · try dsimp only
              exact ⟨by omega, hx, by omega, hxp, fun z hz => ⟨(ho z hz).1, by have := (ho z hz).2.1; omega, (ho z hz).2.2⟩⟩
            · show m - (i + 1) < m - i; omega
            · exact ⟨rfl, rfl, rfl, rfl, rfl, rfl, trivial⟩
            · (try simp only [List.cons_append, List.nil_append]); (repeat ((with_reducible apply Takes.cons); focus (first | (with_reducible (repeat (first | exact Take.here | apply Take.there)); done) | (repeat (first | exact Take.here | apply Take.there))))); (repeat (first | exact Takes.nil | exact Takes.self | refine takes_drop2 ?_))
        · skip
          refine c_seq ?_
          refine c_plain (.q 0 (.q 1 (.q 2 (.q 3 (.q 4 (.q 5 ((.l 6 [] (.q 7 (.done)))))))))) (by kernel_rfl) ?_
          refine q_move rfl rfl rfl rfl ?_
          refine q_move rfl rfl rfl rfl ?_
          refine q_move rfl rfl rfl rfl ?_
          refine q_move rfl rfl rfl rfl ?_
          refine q_idxR (sz := 4) (k := i) rfl rfl rfl rfl rfl Try.underlying59 Try.sizeOf64 (hs) hs_ enc5_len (by first | rfl | omega) (by omega) ?_
          intro ib71 io71 _ hd71
          refine q_loadN (vs := [_, _, _, _, _]) rfl rfl rfl rfl Try.isAgg64 Try.sizeOf64 (by with_reducible (repeat (first | exact Take.here | apply Take.there))) (hd71) rfl ?_
          have sp_8 := asks_spec ncp ncc b nrp nrc q x hx (by omega) pl hxp s_.1 s_.2.1 s_.2.2.1 s_.2.2.2.1 s_.2.2.2.2
          refine l_call rfl rfl rfl rfl rfl rfl Try.call28 (sp_8) (by (repeat ((with_reducible apply Takes.cons); focus (first | (with_reducible (repeat (first | exact Take.here | apply Take.there)); done) | (repeat (first | exact Take.here | apply Take.there))))); exact Takes.nil) ?_
          rintro ⟨⟩ -
          try simp only [List.cons_append, List.nil_append]
          refine ag_nil ?_
          refine q_not rfl rfl rfl rfl ?_
          refine s_eq 74 rfl (v' := .bool false) rfl ?_
          refine r_done ?_
          refine s_keep [1, 6, 8, 11, 12, 13, 74] (e' := [(1, _), (6, _), (8, _), (11, _), (12, _), (13, _), (74, _)]) rfl ?_
          refine k_then_n ?_
          refine c_cond_f rfl ?_
          refine c_skip ?_
          refine k_blk_n ?_
          refine k_blk_n ?_
          refine k_then_n ?_
          refine c_plain (.q 0 (.q 1 (.q 2 (.done)))) (by kernel_rfl) ?_
          refine q_move rfl rfl rfl rfl ?_
          refine q_int rfl rfl rfl rfl rfl (b_add' _ (by (first | exact fits_i64 (by omega) (by omega) | exact fits_u64 (by omega) (by omega) | exact fits_u32 (by omega) (by omega) | exact fits_u8 (by omega) (by omega)))) ?_
          refine q_assign rfl rfl rfl rfl ?_
          refine r_done ?_
          refine k_then_n ?_
          refine loop_next (x := (i, b, q, x, o)) ((i + 1, b, q, (aF x s_.1 s_.2.2.1 s_.2.2.2.1 s_.2.2.2.2), o)) ?_ ?_ ?_ ?_
          · try dsimp only
            exact ⟨by omega, aF_inv hx _ _ _ _, by have := aF_n (x := x) s_.1 s_.2.2.1 s_.2.2.2.1 s_.2.2.2.2; omega, by rw [aF_pa]; exact hxp, fun z hz => ⟨(ho z hz).1, by have := (ho z hz).2.1; omega, (ho z hz).2.2⟩⟩
          · show m - (i + 1) < m - i; omega
          · exact ⟨rfl, rfl, rfl, rfl, rfl, rfl, trivial⟩
          · (try simp only [List.cons_append, List.nil_append]); (repeat ((with_reducible apply Takes.cons); focus (first | (with_reducible (repeat (first | exact Take.here | apply Take.there)); done) | (repeat (first | exact Take.here | apply Take.there))))); (repeat (first | exact Takes.nil | exact Takes.self | refine takes_drop2 ?_))
    · skip
      refine c_exit ?_
      refine k_then_exit ?_
      refine k_then_exit ?_
      refine k_blk_here ?_
      refine k_then_n ?_
      refine c_seq ?_
      refine c_plain (.q 0 (.q 1 ((.l 2 [] (.q 3 (.q 4 (.q 5 ((.l 6 [] (.q 7 (.q 8 ((.l 9 [] (.q 10 (.q 11 (.done)))))))))))))))) (by kernel_rfl) ?_
      refine q_move rfl rfl rfl rfl ?_
      refine q_move rfl rfl rfl rfl ?_
      have sp_9 := alike_spec ncp ncc b nrp nrc q x hx (by omega) pl hxp
      refine l_call rfl rfl rfl rfl rfl rfl Try.call29 (sp_9) (by (repeat ((with_reducible apply Takes.cons); focus (first | (with_reducible (repeat (first | exact Take.here | apply Take.there)); done) | (repeat (first | exact Take.here | apply Take.there))))); exact Takes.nil) ?_
      rintro ⟨⟩ -
      try simp only [List.cons_append, List.nil_append]
      refine ag_nil ?_
      refine q_move rfl rfl rfl rfl ?_
      refine q_move rfl rfl rfl rfl ?_
      refine q_move rfl rfl rfl rfl ?_
      have sp_10 := alikeo_spec ncp ncc nrp nrc o pl (fun z hz => ⟨(ho z hz).1, by have := (ho z hz).2.1; omega, (ho z hz).2.2⟩)
      refine l_call rfl rfl rfl rfl rfl rfl Try.call29 (sp_10) (by (repeat ((with_reducible apply Takes.cons); focus (first | (with_reducible (repeat (first | exact Take.here | apply Take.there)); done) | (repeat (first | exact Take.here | apply Take.there))))); exact Takes.nil) ?_
      rintro ⟨⟩ -
      try simp only [List.cons_append, List.nil_append]
      refine ag_nil ?_
      refine q_pick_t rfl rfl rfl rfl rfl ?_
      refine q_move rfl rfl rfl rfl ?_
      refine l_call rfl rfl rfl rfl rfl rfl Try.call16 (known_spec) (by (repeat ((with_reducible apply Takes.cons); focus (first | (with_reducible (repeat (first | exact Take.here | apply Take.there)); done) | (repeat (first | exact Take.here | apply Take.there))))); exact Takes.nil) ?_
      rintro ⟨⟩ -
      try simp only [List.cons_append, List.nil_append]
      refine ag_nil ?_
      refine q_pick_t rfl rfl rfl rfl rfl ?_
      refine q_assign rfl rfl rfl rfl ?_
      refine r_done ?_
      refine s_keep [4] (e' := [(4, _)]) rfl ?_
      refine k_then_n ?_
      refine c_ret ?_
      refine ret1 rfl rfl (()) (by first | rfl | (first | rfl | (congr 1; done) | (congr 1 <;> first | rfl | omega | (simp; done) | (simp; omega)))) (by trivial) ?_
      (repeat ((with_reducible apply Takes.cons); focus (first | (with_reducible (repeat (first | exact Take.here | apply Take.there)); done) | (repeat (first | exact Take.here | apply Take.there))))); (repeat (first | exact Takes.nil | exact Takes.self | refine takes_drop2 ?_))

theorem plays_bad (th va vo lk : Int) (pl : List Int) (ao : Option Addr) (n c : Nat) (A : HProp) (hr : RdS A ao (pl.flatMap encZ)) (hn : pl.length = n) (hb : n ≤ 4000000) (L : List T5) (so : Option Addr) (m sc : Nat) (hs : RdS A so (L.flatMap enc5)) (hm : L.length = m) (hmb : m ≤ 4000000) (hok : ¬ OkS th va vo lk pl) : Spec Try.prog 8 [.agg #[.int .i64 th, .int .i64 va, .int .i64 vo, .int .i64 lk, .slice ao n c], .slice so m sc] [A] (fun (_ : Unit) => .bool true) (fun _ => True) (fun _ => [A]) := by
  refine spec_mk (n := 104) Try.func8 rfl rfl rfl ?_
  intro Γ w0
  simp only [argE, List.cons_append, List.nil_append, Nat.zero_add, Nat.reduceAdd]
  refine c_seq ?_
  refine c_plain ((.l 0 [] (.q 1 (.done)))) (by kernel_rfl) ?_
  refine l_box rfl rfl rfl rfl (us := [_, _, _, _, _]) rfl ?_
  intro b2
  refine ag_nil ?_
  refine q_assign rfl rfl rfl rfl ?_
  refine r_done ?_
  refine k_then_n ?_
  refine c_seq ?_
  refine c_plain (.q 0 ((.l 1 [] ((.l 2 [] ((.l 3 [] (.done)))))))) (by kernel_rfl) ?_
  refine q_loadN_c rfl rfl rfl rfl Try.isAgg25 Try.sizeOf25 (by with_reducible (repeat (first | exact Take.here | apply Take.there))) 0 (us := [_, _, _, _, _]) (by first | rfl | exact (Nat.add_zero _).symm) rfl rfl ?_
  have sp_1 := twin_spec th va vo lk pl ao n c A (hr) (by first | rfl | assumption | omega | (simp; done) | (simp; omega)) (by omega)
  refine l_call rfl rfl rfl rfl rfl rfl Try.call11 (sp_1) (by (repeat ((with_reducible apply Takes.cons); focus (first | (with_reducible (repeat (first | exact Take.here | apply Take.there)); done) | (repeat (first | exact Take.here | apply Take.there))))); exact Takes.nil) ?_
  rintro ⟨qa, qc⟩ -
  try simp only [List.cons_append, List.nil_append]
  refine s_take (A := own 1 encZ qa qc (pl ++ [(-71)])) (by with_reducible (repeat (first | exact Take.here | apply Take.there))) ?_
  refine own_fc fun q1 q2 q3 => ?_
  simp only [List.length_append, List.length_singleton] at q1
  try simp only [List.cons_append, List.nil_append]
  refine ag_nil ?_
  refine l_alloc rfl rfl rfl Try.zeroValue25 (zs := [.int .i64 0, .int .i64 0, .int .i64 0, .int .i64 0, .slice none 0 0]) rfl ?_
  intro b5
  refine ag_nil ?_
  refine l_store (j := 0) rfl rfl rfl rfl Try.sizeOf25 (us := [_, _, _, _, _]) rfl rfl rfl (by with_reducible (repeat (first | exact Take.here | apply Take.there))) (by first | rfl | exact (Nat.add_zero _).symm) (by first | decide | (simp; done) | omega) ?_
  simp only [setL, List.set]
  refine ag_nil ?_
  refine r_done ?_
  refine s_keep [1, 2, 5] (e' := [(1, _), (2, _), (5, _)]) rfl ?_
  refine k_then_n ?_
  refine c_seq ?_
  refine c_plain (.q 0 ((.l 1 [] (.q 2 (.q 3 (.q 4 (.q 5 (.q 6 (.done))))))))) (by kernel_rfl) ?_
  refine q_loadN_c rfl rfl rfl rfl Try.isAgg25 Try.sizeOf25 (by with_reducible (repeat (first | exact Take.here | apply Take.there))) 0 (us := [_, _, _, _, _]) (by first | rfl | exact (Nat.add_zero _).symm) rfl rfl ?_
  have sp_3 := newbad_spec th va vo lk pl qa n qc (own 1 encZ qa qc (pl ++ [(-71)])) ((own_front encZ_len q2 q3)) (by first | rfl | assumption | omega | (simp; done) | (simp; omega)) (by omega) hok
  refine l_call rfl rfl rfl rfl rfl rfl Try.call17 (sp_3) (by (repeat ((with_reducible apply Takes.cons); focus (first | (with_reducible (repeat (first | exact Take.here | apply Take.there)); done) | (repeat (first | exact Take.here | apply Take.there))))); exact Takes.nil) ?_
  rintro ⟨⟩ -
  try simp only [List.cons_append, List.nil_append]
  refine ag_nil ?_
  refine q_move rfl rfl rfl rfl ?_
  refine q_extract rfl rfl rfl rfl rfl ?_
  refine q_extract rfl rfl rfl rfl rfl ?_
  refine q_assign rfl rfl rfl rfl ?_
  refine q_assign rfl rfl rfl rfl ?_
  refine r_done ?_
  refine s_keep [1, 2, 5, 6, 7] (e' := [(1, _), (2, _), (5, _), (6, _), (7, _)]) rfl ?_
  refine k_then_n ?_
  refine c_seq ?_
  refine c_plain (.q 0 ((.l 1 [] (.q 2 (.q 3 (.q 4 (.q 5 (.q 6 (.done))))))))) (by kernel_rfl) ?_
  refine q_loadN_c rfl rfl rfl rfl Try.isAgg25 Try.sizeOf25 (by with_reducible (repeat (first | exact Take.here | apply Take.there))) 0 (us := [_, _, _, _, _]) (by first | rfl | exact (Nat.add_zero _).symm) rfl rfl ?_
  have sp_5 := rnewbad_spec th va vo lk pl ao n c A (hr) (by first | rfl | assumption | omega | (simp; done) | (simp; omega)) (by omega) hok
  refine l_call rfl rfl rfl rfl rfl rfl Try.call25 (sp_5) (by (repeat ((with_reducible apply Takes.cons); focus (first | (with_reducible (repeat (first | exact Take.here | apply Take.there)); done) | (repeat (first | exact Take.here | apply Take.there))))); exact Takes.nil) ?_
  rintro ⟨⟩ -
  try simp only [List.cons_append, List.nil_append]
  refine ag_nil ?_
  refine q_move rfl rfl rfl rfl ?_
  refine q_extract rfl rfl rfl rfl rfl ?_
  refine q_extract rfl rfl rfl rfl rfl ?_
  refine q_assign rfl rfl rfl rfl ?_
  refine q_assign rfl rfl rfl rfl ?_
  refine r_done ?_
  refine s_keep [1, 2, 5, 6, 7, 8, 9] (e' := [(1, _), (2, _), (5, _), (6, _), (7, _), (8, _), (9, _)]) rfl ?_
  refine k_then_n ?_
  refine c_seq ?_
  refine c_seq ?_
  refine c_plain (.q 0 (.q 1 (.q 2 (.q 3 (.q 4 (.q 5 (.q 6 (.q 7 (.q 8 (.q 9 (.q 10 (.q 11 (.q 12 ((.l 13 [] (.q 14 (.q 15 (.done)))))))))))))))))) (by kernel_rfl) ?_
  refine q_move rfl rfl rfl rfl ?_
  refine q_move rfl rfl rfl rfl ?_
  refine q_int rfl rfl rfl rfl rfl (b_neq _ _ _ _) ?_
  refine s_eq 28 rfl (v' := .bool false) (by first | rfl | simp) ?_
  refine q_move rfl rfl rfl rfl ?_
  refine q_move rfl rfl rfl rfl ?_
  refine q_eq_nil rfl rfl rfl rfl Try.underlying42 ?_
  refine s_eq 31 rfl (v' := .bool true) rfl ?_
  refine q_move rfl rfl rfl rfl ?_
  refine q_eq_nil rfl rfl rfl rfl Try.underlying60 ?_
  refine s_eq 33 rfl (v' := .bool true) rfl ?_
  refine q_neb rfl rfl rfl rfl rfl Try.underlying4 ?_
  refine s_eq 34 rfl (v' := .bool false) rfl ?_
  refine s_eq 34 rfl (v' := .bool false) (by rfl) ?_
  refine q_pick_f rfl rfl rfl rfl rfl ?_
  refine q_move rfl rfl rfl rfl ?_
  refine q_loadN_c rfl rfl rfl rfl Try.isAgg25 Try.sizeOf25 (by with_reducible (repeat (first | exact Take.here | apply Take.there))) 0 (us := [_, _, _, _, _]) (by first | rfl | exact (Nat.add_zero _).symm) rfl rfl ?_
  refine q_loadN_c rfl rfl rfl rfl Try.isAgg25 Try.sizeOf25 (by with_reducible (repeat (first | exact Take.here | apply Take.there))) 0 (us := [_, _, _, _, _]) (by first | rfl | exact (Nat.add_zero _).symm) rfl rfl ?_
  have sp_6 := left_spec th va vo lk pl ao n c A hr hn hb qa qc
  refine l_call rfl rfl rfl rfl rfl rfl Try.call15 (sp_6) (by (repeat ((with_reducible apply Takes.cons); focus (first | (with_reducible (repeat (first | exact Take.here | apply Take.there)); done) | (repeat (first | exact Take.here | apply Take.there))))); exact Takes.nil) ?_
  rintro ⟨⟩ -
  try simp only [List.cons_append, List.nil_append]
  refine ag_nil ?_
  refine q_not rfl rfl rfl rfl ?_
  refine s_eq 40 rfl (v' := .bool false) rfl ?_
  refine q_pick_f rfl rfl rfl rfl rfl ?_
  refine r_done ?_
  refine s_keep [1, 5, 6, 8, 41] (e' := [(1, _), (5, _), (6, _), (8, _), (41, _)]) rfl ?_
  refine k_then_n ?_
  refine c_cond_f rfl ?_
  refine c_skip ?_
  refine k_then_n ?_
  refine c_seq ?_
  refine c_seq ?_
  refine c_plain (.q 0 (.q 1 (.done))) (by kernel_rfl) ?_
  refine q_move rfl rfl rfl rfl ?_
  refine q_eq_nil rfl rfl rfl rfl Try.underlying42 ?_
  refine s_eq 43 rfl (v' := .bool true) rfl ?_
  refine r_done ?_
  refine k_then_n ?_
  refine c_cond_t rfl ?_
  refine c_seq ?_
  refine c_plain ((.l 0 [] (.q 1 (.done)))) (by kernel_rfl) ?_
  refine l_call rfl rfl rfl rfl rfl rfl Try.call16 (known_spec) (by (repeat ((with_reducible apply Takes.cons); focus (first | (with_reducible (repeat (first | exact Take.here | apply Take.there)); done) | (repeat (first | exact Take.here | apply Take.there))))); exact Takes.nil) ?_
  rintro ⟨⟩ -
  try simp only [List.cons_append, List.nil_append]
  refine ag_nil ?_
  refine q_assign rfl rfl rfl rfl ?_
  refine r_done ?_
  refine s_keep [4] (e' := [(4, _)]) rfl ?_
  refine k_then_n ?_
  refine c_ret ?_
  refine k_then_ret ?_
  refine ret1 rfl rfl (()) (by first | rfl | (first | rfl | (congr 1; done) | (congr 1 <;> first | rfl | omega | (simp; done) | (simp; omega)))) (by trivial) ?_
  (repeat ((with_reducible apply Takes.cons); focus (first | (with_reducible (repeat (first | exact Take.here | apply Take.there)); done) | (repeat (first | exact Take.here | apply Take.there))))); (repeat (first | exact Takes.nil | exact Takes.self | refine takes_drop2 ?_))

theorem plays_spec (th va vo lk : Int) (pl : List Int) (ao : Option Addr) (n c : Nat) (A : HProp) (hr : RdS A ao (pl.flatMap encZ)) (hn : pl.length = n) (hb : n ≤ 4000000) (L : List T5) (so : Option Addr) (m sc : Nat) (hs : RdS A so (L.flatMap enc5)) (hm : L.length = m) (hmb : m ≤ 4000000) : Spec Try.prog 8 [.agg #[.int .i64 th, .int .i64 va, .int .i64 vo, .int .i64 lk, .slice ao n c], .slice so m sc] [A] (fun (_ : Unit) => .bool true) (fun _ => True) (fun _ => [A]) := by
  by_cases hok : OkS th va vo lk pl
  · exact plays_ok th va vo lk pl ao n c A hr hn hb L so m sc hs hm hmb hok
  · exact plays_bad th va vo lk pl ao n c A hr hn hb L so m sc hs hm hmb hok
end Go.Ab.Fe
