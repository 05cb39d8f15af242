/- Package vclock: epochs. -/
import Derived.Test.YtjoacllimldfkaaVc7
set_option linter.unusedVariables false
set_option linter.unusedSimpArgs false
set_option maxRecDepth 100000
namespace Go.Ab.Vc
open Go Go.Proofs Go.Ab
theorem or_pack {t c : Nat} (ht : t < 65536) (hc : c < 281474976710656) : orV .u64 ((t * 281474976710656 : Nat) : Int) (c : Int) = ((t * 281474976710656 + c : Nat) : Int) := by
  have h1 : (t * 281474976710656 ||| c) = t * 281474976710656 + c := by
    have := Nat.shiftLeft_add_eq_or_of_lt (i := 48) (b := c) (by omega) t
    rw [Nat.shiftLeft_eq] at this
    exact this.symm
  have h2 : (BitVec.ofInt IntKind.u64.bits ((t * 281474976710656 : Nat) : Int) ||| BitVec.ofInt IntKind.u64.bits (c : Int)).toNat = t * 281474976710656 + c := by
    show (BitVec.ofInt 64 _ ||| BitVec.ofInt 64 _).toNat = _
    rw [BitVec.ofInt_natCast, BitVec.ofInt_natCast, BitVec.toNat_or, BitVec.toNat_ofNat, BitVec.toNat_ofNat, Nat.mod_eq_of_lt (by omega), Nat.mod_eq_of_lt (by omega), h1]
  rw [orV, h2]
  exact wrap_fits (fits_u64 (by omega) (by omega))
theorem and_mask {e : Nat} (he : e < 18446744073709551616) : andV .u64 (e : Int) 281474976710655 = ((e % 281474976710656 : Nat) : Int) := by
  have h2 : (BitVec.ofInt IntKind.u64.bits (e : Int) &&& BitVec.ofInt IntKind.u64.bits 281474976710655).toNat = e % 281474976710656 := by
    show (BitVec.ofInt 64 _ &&& BitVec.ofInt 64 ((281474976710655 : Nat) : Int)).toNat = _
    rw [BitVec.ofInt_natCast, BitVec.ofInt_natCast, BitVec.toNat_and, BitVec.toNat_ofNat, BitVec.toNat_ofNat, Nat.mod_eq_of_lt (by omega), Nat.mod_eq_of_lt (by omega)]
    exact Nat.and_two_pow_sub_one_eq_mod e 48
  rw [andV, h2]
  exact wrap_fits (fits_u64 (by omega) (by omega))
/-- May an epoch be? Its thread, its clock. -/
abbrev epV (e : Nat) : Prop := e ≠ 0 ∧ e / 281474976710656 < 65535 ∧ e % 281474976710656 ≠ 0
def epT (e : Nat) : Nat := if epV e then e / 281474976710656 else 0
def epC (e : Nat) : Nat := if epV e then e % 281474976710656 else 0
/-- Has a vector an epoch? -/
def hasE (e : Nat) (l : List Int) : Prop := (epC e : Int) ≤ l.getD (epT e) 0
instance (e : Nat) (l : List Int) : Decidable (hasE e l) := inferInstanceAs (Decidable (_ ≤ _))
/-- A thread's epoch. -/
def eN (l : List Int) (t : Nat) : Nat := if l.getD t 0 = 0 then 0 else t * 281474976710656 + (l.getD t 0).toNat
theorem eN_lt {l : List Int} (hl : CV l) {t : Nat} (ht : t < 65535) : eN l t < 18446744073709551616 := by
  have := g_rng hl.rng (by decide) t
  simp only [maxC] at this
  unfold eN; split <;> omega
theorem has_eN {l m : List Int} (hl : CV l) (hm : CV m) {t : Nat} (ht : t < 65535) : hasE (eN l t) m ↔ l.getD t 0 ≤ m.getD t 0 := by
  have h1 := g_rng hl.rng (by decide) t
  have h2 := g_rng hm.rng (by decide) t
  simp only [maxC] at h1
  unfold eN
  split
  · rename_i h
    have e1 : epC 0 = 0 := by simp [epC]
    rw [hasE, e1, h]
    exact ⟨fun _ => h2.1, fun _ => (g_rng hm.rng (by decide) _).1⟩
  · rename_i h
    obtain ⟨c, hc⟩ := Int.eq_ofNat_of_zero_le h1.1
    have hcn : (l.getD t 0).toNat = c := by rw [hc]; rfl
    rw [hc] at h1
    have h3 : c ≠ 0 := fun h0 => h (by rw [hc, h0]; rfl)
    have hd : (t * 281474976710656 + c) / 281474976710656 = t := by omega
    have hmod : (t * 281474976710656 + c) % 281474976710656 = c := by omega
    have hv : epV (t * 281474976710656 + c) := ⟨by omega, by rw [hd]; exact ht, by rw [hmod]; exact h3⟩
    rw [hcn, hasE, epC, epT, if_pos hv, if_pos hv, hd, hmod, hc]
theorem eN_zero {l : List Int} (hl : CV l) (t : Nat) : eN l t = 0 ↔ l.getD t 0 = 0 := by
  have h1 := g_rng hl.rng (by decide) t
  unfold eN; split <;> omega
theorem eN_pos {l : List Int} {t : Nat} (h : l.getD t 0 ≠ 0) : eN l t = t * 281474976710656 + (l.getD t 0).toNat := if_neg h
theorem epT_lt (e : Nat) : epT e < 65535 := by
  unfold epT; split
  · rename_i h; exact h.2.1
  · decide
theorem parts_spec (e : Nat) (he : e < 18446744073709551616) : Spec Try.prog 66 [.int .u64 ((e : Nat) : Int)] [] (fun (_ : Unit) => .tuple #[.int .u16 ((epT e : Nat) : Int), .int .u64 ((epC e : Nat) : Int), .bool (decide (e = 0 ∨ epV e))]) (fun _ => True) (fun _ => []) := by
  refine spec_mk (n := 24) Try.func66 rfl rfl rfl ?_
  intro Γ w0
  simp only [argE, List.cons_append, List.nil_append, Nat.zero_add, Nat.reduceAdd]
  refine c_seq ?_
  refine c_plain (.q 0 (.q 1 (.q 2 (.done)))) (by kernel_rfl) ?_
  refine q_assign rfl rfl rfl rfl ?_
  refine q_assign rfl rfl rfl rfl ?_
  refine q_assign rfl rfl rfl rfl ?_
  refine r_done ?_
  refine k_then_n ?_
  refine c_seq ?_
  refine c_plain (.q 0 (.q 1 (.done))) (by kernel_rfl) ?_
  refine q_move rfl rfl rfl rfl ?_
  refine q_assign rfl rfl rfl rfl ?_
  refine r_done ?_
  refine s_keep [0, 5] (e' := [(0, _), (5, _)]) rfl ?_
  refine k_then_n ?_
  refine c_seq ?_
  refine c_plain (.q 0 (.q 1 (.q 2 (.done)))) (by kernel_rfl) ?_
  refine q_move rfl rfl rfl rfl ?_
  refine q_int rfl rfl rfl rfl rfl (b_and _ _ _ _) ?_
  refine s_eq 9 rfl (v' := .int .u64 ((e % 281474976710656 : Nat) : Int)) (by rw [and_mask he]) ?_
  refine q_assign rfl rfl rfl rfl ?_
  refine r_done ?_
  refine k_then_n ?_
  refine c_seq ?_
  refine c_plain (.q 0 (.q 1 (.done))) (by kernel_rfl) ?_
  refine q_move rfl rfl rfl rfl ?_
  refine q_assign rfl rfl rfl rfl ?_
  refine r_done ?_
  refine k_then_n ?_
  refine c_seq ?_
  refine c_plain (.q 0 (.q 1 (.q 2 (.done)))) (by kernel_rfl) ?_
  refine q_move rfl rfl rfl rfl ?_
  refine q_int rfl rfl rfl rfl rfl (b_shrL _ 48 281474976710656 rfl (by decide) rfl) ?_
  refine s_eq 12 rfl (v' := .int .u64 (((e / 281474976710656) : Nat) : Int)) (by first | rfl | (congr 1; omega)) ?_
  refine q_assign rfl rfl rfl rfl ?_
  refine r_done ?_
  refine s_keep [0, 5, 6] (e' := [(0, _), (5, _), (6, _)]) rfl ?_
  refine k_then_n ?_
  refine c_seq ?_
  refine c_seq ?_
  refine c_plain (.q 0 (.q 1 (.done))) (by kernel_rfl) ?_
  refine q_move rfl rfl rfl rfl ?_
  refine q_int rfl rfl rfl rfl rfl (b_eql _ _ _ _) ?_
  refine r_done ?_
  refine k_then_n ?_
  refine c_cond_p rfl (fun hz => ?_) (fun hz => ?_)
  · skip
    have hnv : ¬ epV e := fun h => h.1 (by omega)
    refine c_seq ?_
    refine c_plain (.q 0 (.q 1 (.q 2 (.done)))) (by kernel_rfl) ?_
    refine q_assign rfl rfl rfl rfl ?_
    refine q_assign rfl rfl rfl rfl ?_
    refine q_assign rfl rfl rfl rfl ?_
    refine r_done ?_
    refine s_keep [2, 3, 4] (e' := [(2, _), (3, _), (4, _)]) rfl ?_
    refine k_then_n ?_
    refine c_ret ?_
    refine k_then_ret ?_
    refine retL (us := [_, _, _]) rfl ⟨rv_tmp rfl, rv_tmp rfl, rv_tmp rfl, trivial⟩ (()) (by first | (have hd : decide (e = 0 ∨ epV e) = true := decide_eq_true (.inl (by omega)); rw [epT, epC, if_neg hnv, if_neg hnv, hd]; rfl) | (have hnv : ¬ epV e := (fun h => by have h2 := h.2.1; have h3 := h.2.2; omega); have hd : decide (e = 0 ∨ epV e) = false := decide_eq_false (fun h => h.elim (fun h => by omega) hnv); rw [epT, epC, if_neg hnv, if_neg hnv, hd]; rfl) | (have hv : epV e := ⟨by omega, by omega, by omega⟩; rw [epT, epC, if_pos hv, if_pos hv, decide_eq_true (Or.inr hv)]; rfl)) (by trivial) ?_
    (repeat ((with_reducible apply Takes.cons); focus (first | (with_reducible (repeat (first | exact Take.here | apply Take.there)); done) | (repeat (first | exact Take.here | apply Take.there))))); (repeat (first | exact Takes.nil | exact Takes.self | refine takes_drop2 ?_))
  · skip
    refine c_skip ?_
    refine k_then_n ?_
    refine c_seq ?_
    refine c_seq ?_
    refine c_plain (.q 0 (.q 1 (.q 2 (.q 3 (.q 4 (.q 5 (.done))))))) (by kernel_rfl) ?_
    refine q_move rfl rfl rfl rfl ?_
    refine q_int rfl rfl rfl rfl rfl (b_geq _ _ _ _) ?_
    refine q_move rfl rfl rfl rfl ?_
    refine s_bool_p 17 rfl (fun hth => ?_) (fun hth => ?_)
    · skip
      refine q_skip rfl rfl rfl rfl ?_
      refine q_skip rfl rfl rfl rfl ?_
      refine q_pick_t rfl rfl rfl rfl rfl ?_
      refine r_done ?_
      refine s_keep [5, 6, 20] (e' := [(5, _), (6, _), (20, _)]) rfl ?_
      refine k_then_n ?_
      refine c_cond_t rfl ?_
      refine c_seq ?_
      refine c_plain (.q 0 (.q 1 (.q 2 (.done)))) (by kernel_rfl) ?_
      refine q_assign rfl rfl rfl rfl ?_
      refine q_assign rfl rfl rfl rfl ?_
      refine q_assign rfl rfl rfl rfl ?_
      refine r_done ?_
      refine k_then_n ?_
      refine c_ret ?_
      refine k_then_ret ?_
      refine retL (us := [_, _, _]) rfl ⟨rv_tmp rfl, rv_tmp rfl, rv_tmp rfl, trivial⟩ (()) (by first | (have hd : decide (e = 0 ∨ epV e) = true := decide_eq_true (.inl (by omega)); rw [epT, epC, if_neg hnv, if_neg hnv, hd]; rfl) | (have hnv : ¬ epV e := (fun h => by have h2 := h.2.1; have h3 := h.2.2; omega); have hd : decide (e = 0 ∨ epV e) = false := decide_eq_false (fun h => h.elim (fun h => by omega) hnv); rw [epT, epC, if_neg hnv, if_neg hnv, hd]; rfl) | (have hv : epV e := ⟨by omega, by omega, by omega⟩; rw [epT, epC, if_pos hv, if_pos hv, decide_eq_true (Or.inr hv)]; rfl)) (by trivial) ?_
      (repeat ((with_reducible apply Takes.cons); focus (first | (with_reducible (repeat (first | exact Take.here | apply Take.there)); done) | (repeat (first | exact Take.here | apply Take.there))))); (repeat (first | exact Takes.nil | exact Takes.self | refine takes_drop2 ?_))
    · skip
      refine q_move rfl rfl rfl rfl ?_
      refine q_int rfl rfl rfl rfl rfl (b_eql _ _ _ _) ?_
      refine q_pick_f rfl rfl rfl rfl rfl ?_
      refine r_done ?_
      refine s_keep [5, 6, 20] (e' := [(5, _), (6, _), (20, _)]) rfl ?_
      refine k_then_n ?_
      refine c_cond_p rfl (fun hcl => ?_) (fun hcl => ?_)
      · skip
        refine c_seq ?_
        refine c_plain (.q 0 (.q 1 (.q 2 (.done)))) (by kernel_rfl) ?_
        refine q_assign rfl rfl rfl rfl ?_
        refine q_assign rfl rfl rfl rfl ?_
        refine q_assign rfl rfl rfl rfl ?_
        refine r_done ?_
        refine k_then_n ?_
        refine c_ret ?_
        refine k_then_ret ?_
        refine retL (us := [_, _, _]) rfl ⟨rv_tmp rfl, rv_tmp rfl, rv_tmp rfl, trivial⟩ (()) (by first | (have hd : decide (e = 0 ∨ epV e) = true := decide_eq_true (.inl (by omega)); rw [epT, epC, if_neg hnv, if_neg hnv, hd]; rfl) | (have hnv : ¬ epV e := (fun h => by have h2 := h.2.1; have h3 := h.2.2; omega); have hd : decide (e = 0 ∨ epV e) = false := decide_eq_false (fun h => h.elim (fun h => by omega) hnv); rw [epT, epC, if_neg hnv, if_neg hnv, hd]; rfl) | (have hv : epV e := ⟨by omega, by omega, by omega⟩; rw [epT, epC, if_pos hv, if_pos hv, decide_eq_true (Or.inr hv)]; rfl)) (by trivial) ?_
        (repeat ((with_reducible apply Takes.cons); focus (first | (with_reducible (repeat (first | exact Take.here | apply Take.there)); done) | (repeat (first | exact Take.here | apply Take.there))))); (repeat (first | exact Takes.nil | exact Takes.self | refine takes_drop2 ?_))
      · skip
        refine c_skip ?_
        refine k_then_n ?_
        refine c_seq ?_
        refine c_plain (.q 0 (.q 1 (.q 2 (.q 3 (.q 4 (.q 5 (.done))))))) (by kernel_rfl) ?_
        refine q_move rfl rfl rfl rfl ?_
        refine q_conv' rfl rfl rfl rfl Try.underlying98 Try.underlying30 (by simp only [fits, IntKind.min, IntKind.max, IntKind.signed, IntKind.bits]; simp; omega) ?_
        refine q_move rfl rfl rfl rfl ?_
        refine q_assign rfl rfl rfl rfl ?_
        refine q_assign rfl rfl rfl rfl ?_
        refine q_assign rfl rfl rfl rfl ?_
        refine r_done ?_
        refine s_keep [2, 3, 4] (e' := [(2, _), (3, _), (4, _)]) rfl ?_
        refine k_then_n ?_
        refine c_ret ?_
        refine retL (us := [_, _, _]) rfl ⟨rv_tmp rfl, rv_tmp rfl, rv_tmp rfl, trivial⟩ (()) (by first | (have hd : decide (e = 0 ∨ epV e) = true := decide_eq_true (.inl (by omega)); rw [epT, epC, if_neg hnv, if_neg hnv, hd]; rfl) | (have hnv : ¬ epV e := (fun h => by have h2 := h.2.1; have h3 := h.2.2; omega); have hd : decide (e = 0 ∨ epV e) = false := decide_eq_false (fun h => h.elim (fun h => by omega) hnv); rw [epT, epC, if_neg hnv, if_neg hnv, hd]; rfl) | (have hv : epV e := ⟨by omega, by omega, by omega⟩; rw [epT, epC, if_pos hv, if_pos hv, decide_eq_true (Or.inr hv)]; rfl)) (by trivial) ?_
        (repeat ((with_reducible apply Takes.cons); focus (first | (with_reducible (repeat (first | exact Take.here | apply Take.there)); done) | (repeat (first | exact Take.here | apply Take.there))))); (repeat (first | exact Takes.nil | exact Takes.self | refine takes_drop2 ?_))

theorem eleq_spec (e : Nat) (he : e < 18446744073709551616) (l : List Int) (ao : Option Addr) (n c : Nat) (A : HProp) (hn : l.length = n) (hr : RdS A ao (l.flatMap encU)) : Spec Try.prog 46 [.int .u64 ((e : Nat) : Int), .slice ao n c] [A] (fun (_ : Unit) => .bool (decide (hasE e l))) (fun _ => True) (fun _ => [A]) := by
  refine spec_mk (n := 27) Try.func46 rfl rfl rfl ?_
  intro Γ w0
  simp only [argE, List.cons_append, List.nil_append, Nat.zero_add, Nat.reduceAdd]
  refine c_seq ?_
  refine c_plain (.q 0 (.done)) (by kernel_rfl) ?_
  refine q_assign rfl rfl rfl rfl ?_
  refine r_done ?_
  refine k_then_n ?_
  refine c_seq ?_
  refine c_plain (.q 0 ((.l 1 [] (.q 2 (.q 3 (.q 4 (.q 5 (.q 6 (.q 7 (.q 8 (.done))))))))))) (by kernel_rfl) ?_
  refine q_move rfl rfl rfl rfl ?_
  have sp_1 := parts_spec e he
  refine l_call rfl rfl rfl rfl rfl rfl Try.call66 (sp_1) (by (repeat ((with_reducible apply Takes.cons); focus (first | (with_reducible (repeat (first | exact Take.here | apply Take.there)); done) | (repeat (first | exact Take.here | apply Take.there))))); exact Takes.nil) ?_
  rintro ⟨⟩ -
  try simp only [List.cons_append, List.nil_append]
  refine ag_nil ?_
  refine q_move rfl rfl rfl rfl ?_
  refine q_extract rfl rfl rfl rfl rfl ?_
  refine q_extract rfl rfl rfl rfl rfl ?_
  refine q_extract rfl rfl rfl rfl rfl ?_
  refine q_assign rfl rfl rfl rfl ?_
  refine q_assign rfl rfl rfl rfl ?_
  refine q_assign rfl rfl rfl rfl ?_
  refine r_done ?_
  refine s_keep [1, 5, 6] (e' := [(1, _), (5, _), (6, _)]) rfl ?_
  refine k_then_n ?_
  refine c_seq ?_
  refine c_seq ?_
  have htl := epT_lt e
  refine c_plain (.q 0 (.q 1 (.q 2 (.q 3 (.q 4 (.done)))))) (by kernel_rfl) ?_
  refine q_move rfl rfl rfl rfl ?_
  refine q_conv' rfl rfl rfl rfl Try.underlying3 Try.underlying98 (by (first | exact fits_i64 (by omega) (by omega) | exact fits_u64 (by omega) (by omega) | exact fits_u32 (by omega) (by omega) | exact fits_u8 (by omega) (by omega))) ?_
  refine q_move rfl rfl rfl rfl ?_
  refine q_len rfl rfl rfl rfl Try.underlying23 ?_
  refine q_int rfl rfl rfl rfl rfl (b_geq _ _ _ _) ?_
  refine r_done ?_
  refine s_keep [1, 5, 6, 18] (e' := [(1, _), (5, _), (6, _), (18, _)]) rfl ?_
  refine k_then_n ?_
  refine c_cond_p rfl (fun hge => ?_) (fun hge => ?_)
  · skip
    refine c_seq ?_
    refine c_plain (.q 0 (.q 1 (.q 2 (.done)))) (by kernel_rfl) ?_
    refine q_move rfl rfl rfl rfl ?_
    refine q_int rfl rfl rfl rfl rfl (b_eql _ _ _ _) ?_
    refine q_assign rfl rfl rfl rfl ?_
    refine r_done ?_
    refine s_keep [4] (e' := [(4, _)]) rfl ?_
    refine k_then_n ?_
    refine c_ret ?_
    refine k_then_ret ?_
    refine ret1 rfl rfl (()) (by congr 1; exact decide_eq_decide.2 (by rw [hasE, g_out (by omega)]; try omega)) (by trivial) ?_
    (repeat ((with_reducible apply Takes.cons); focus (first | (with_reducible (repeat (first | exact Take.here | apply Take.there)); done) | (repeat (first | exact Take.here | apply Take.there))))); (repeat (first | exact Takes.nil | exact Takes.self | refine takes_drop2 ?_))
  · skip
    obtain ⟨x, hx⟩ := get_lt (l := l) (i := epT e) (by omega)
    refine c_skip ?_
    refine k_then_n ?_
    refine c_seq ?_
    refine c_plain (.q 0 (.q 1 (.q 2 (.q 3 (.q 4 (.q 5 (.q 6 (.done)))))))) (by kernel_rfl) ?_
    refine q_move rfl rfl rfl rfl ?_
    refine q_move rfl rfl rfl rfl ?_
    refine q_move rfl rfl rfl rfl ?_
    refine q_idxR (sz := 0) (k := epT e) rfl rfl rfl rfl rfl Try.underlying23 Try.sizeOf30 (hr) hx encU_len (by first | rfl | omega) (by omega) ?_
    intro ib24 io24 _ hd24
    refine q_load rfl rfl rfl rfl Try.isAgg30 (by with_reducible (repeat (first | exact Take.here | apply Take.there))) (hd24 0 (.int .u64 x) rfl) ?_
    refine q_int rfl rfl rfl rfl rfl (b_leq _ _ _ _) ?_
    refine q_assign rfl rfl rfl rfl ?_
    refine r_done ?_
    refine s_keep [4] (e' := [(4, _)]) rfl ?_
    refine k_then_n ?_
    refine c_ret ?_
    refine ret1 rfl rfl (()) (by congr 1; exact decide_eq_decide.2 (by rw [hasE, getD_mem hx])) (by trivial) ?_
    (repeat ((with_reducible apply Takes.cons); focus (first | (with_reducible (repeat (first | exact Take.here | apply Take.there)); done) | (repeat (first | exact Take.here | apply Take.there))))); (repeat (first | exact Takes.nil | exact Takes.self | refine takes_drop2 ?_))

theorem has_spec (b : Nat) (l : List Int) (ao : Option Addr) (n cap : Nat) (hn : l.length = n) (e : Nat) (he : e < 18446744073709551616) : Spec Try.prog 27 [.pointer (some ⟨b, 0, none⟩), .int .u64 ((e : Nat) : Int)] [cells b 0 [.slice ao n cap], own 1 encU ao cap l] (fun (_ : Unit) => .bool (decide (hasE e l))) (fun _ => True) (fun _ => [cells b 0 [.slice ao n cap], own 1 encU ao cap l]) := by
  refine spec_mk (n := 15) Try.func27 rfl rfl rfl ?_
  intro Γ w0
  simp only [argE, List.cons_append, List.nil_append, Nat.zero_add, Nat.reduceAdd]
  refine c_seq ?_
  refine c_plain (.q 0 (.done)) (by kernel_rfl) ?_
  refine q_assign rfl rfl rfl rfl ?_
  refine r_done ?_
  refine k_then_n ?_
  refine c_seq ?_
  refine c_plain (.q 0 (.q 1 (.q 2 (.q 3 (.q 4 (.q 5 (.q 6 (.q 7 ((.l 8 [] (.q 9 (.q 10 (.done))))))))))))) (by kernel_rfl) ?_
  refine q_move rfl rfl rfl rfl ?_
  refine q_ne_nil rfl rfl rfl rfl Try.underlying25 ?_
  refine s_eq 6 rfl (v' := .bool true) rfl ?_
  refine q_move rfl rfl rfl rfl ?_
  refine q_move rfl rfl rfl rfl ?_
  refine q_move rfl rfl rfl rfl ?_
  refine q_nil_p rfl rfl rfl rfl ?_
  refine q_field (k := 0) rfl rfl rfl rfl Try.underlying64 rfl Try.sizeOf23 rfl ?_
  refine q_load_c (j := 0) rfl rfl rfl rfl Try.isAgg23 (by with_reducible (repeat (first | exact Take.here | apply Take.there))) (by first | rfl | exact (Nat.add_zero _).symm) (by rfl) ?_
  refine s_take (A := own 1 encU ao cap l) (by with_reducible (repeat (first | exact Take.here | apply Take.there))) ?_
  refine own_fc fun f_1a f_1b f_1c => ?_
  have sp_2 := eleq_spec e he l ao n cap (own 1 encU ao cap l) (by first | rfl | assumption | omega | (simp; done) | (simp; omega)) (rds_own encU_len (fun h => (f_1b h).1) f_1c)
  refine l_call rfl rfl rfl rfl rfl rfl Try.call46 (sp_2) (by (repeat ((with_reducible apply Takes.cons); focus (first | (with_reducible (repeat (first | exact Take.here | apply Take.there)); done) | (repeat (first | exact Take.here | apply Take.there))))); exact Takes.nil) ?_
  rintro ⟨⟩ -
  try simp only [List.cons_append, List.nil_append]
  refine ag_nil ?_
  refine q_pick_t rfl rfl rfl rfl rfl ?_
  refine q_assign rfl rfl rfl rfl ?_
  refine r_done ?_
  refine s_keep [4] (e' := [(4, _)]) rfl ?_
  refine k_then_n ?_
  refine c_ret ?_
  refine ret1 rfl rfl (()) (by first | rfl | (first | rfl | (congr 1; done) | (congr 1 <;> first | rfl | omega | (simp; done) | (simp; omega)))) (by trivial) ?_
  (repeat ((with_reducible apply Takes.cons); focus (first | (with_reducible (repeat (first | exact Take.here | apply Take.there)); done) | (repeat (first | exact Take.here | apply Take.there))))); (repeat (first | exact Takes.nil | exact Takes.self | refine takes_drop2 ?_))

theorem pack_spec (t c : Nat) (ht : t < 65535) (hc : 0 < c ∧ c < 281474976710656) : Spec Try.prog 45 [.int .i64 ((t : Nat) : Int), .int .u64 ((c : Nat) : Int)] [] (fun (_ : Unit) => .tuple #[.int .u64 ((t * 281474976710656 + c : Nat) : Int), .int .i64 0]) (fun _ => True) (fun _ => []) := by
  refine spec_mk (n := 29) Try.func45 rfl rfl rfl ?_
  intro Γ w0
  simp only [argE, List.cons_append, List.nil_append, Nat.zero_add, Nat.reduceAdd]
  refine c_seq ?_
  refine c_plain (.q 0 (.q 1 (.done))) (by kernel_rfl) ?_
  refine q_assign rfl rfl rfl rfl ?_
  refine q_assign rfl rfl rfl rfl ?_
  refine r_done ?_
  refine k_then_n ?_
  refine c_seq ?_
  refine c_seq ?_
  refine c_plain (.q 0 (.q 1 (.q 2 (.q 3 (.q 4 (.q 5 (.q 6 (.q 7 (.q 8 (.q 9 (.q 10 (.q 11 (.q 12 (.q 13 (.done))))))))))))))) (by kernel_rfl) ?_
  refine q_move rfl rfl rfl rfl ?_
  refine q_int rfl rfl rfl rfl rfl (b_lss _ _ _ _) ?_
  refine q_move rfl rfl rfl rfl ?_
  refine s_bool_p 9 rfl (fun hg => by exfalso; omega) (fun hg => ?_)
  refine q_move rfl rfl rfl rfl ?_
  refine q_int rfl rfl rfl rfl rfl (b_geq _ _ _ _) ?_
  refine q_pick_f rfl rfl rfl rfl rfl ?_
  refine q_move rfl rfl rfl rfl ?_
  refine s_bool_p 13 rfl (fun hg => by exfalso; omega) (fun hg => ?_)
  refine q_move rfl rfl rfl rfl ?_
  refine q_int rfl rfl rfl rfl rfl (b_eql _ _ _ _) ?_
  refine q_pick_f rfl rfl rfl rfl rfl ?_
  refine q_move rfl rfl rfl rfl ?_
  refine s_bool_p 17 rfl (fun hg => by exfalso; omega) (fun hg => ?_)
  refine q_move rfl rfl rfl rfl ?_
  refine q_int rfl rfl rfl rfl rfl (b_gtr _ _ _ _) ?_
  refine q_pick_f rfl rfl rfl rfl rfl ?_
  refine r_done ?_
  refine s_keep [0, 1, 20] (e' := [(0, _), (1, _), (20, _)]) rfl ?_
  refine k_then_n ?_
  refine c_cond_p rfl (fun hg => by exfalso; omega) (fun hg => ?_)
  refine c_skip ?_
  refine k_then_n ?_
  refine c_seq ?_
  refine c_plain (.q 0 (.q 1 (.q 2 (.done)))) (by kernel_rfl) ?_
  refine q_move rfl rfl rfl rfl ?_
  refine q_conv' rfl rfl rfl rfl Try.underlying30 Try.underlying3 (by (first | exact fits_i64 (by omega) (by omega) | exact fits_u64 (by omega) (by omega) | exact fits_u32 (by omega) (by omega) | exact fits_u8 (by omega) (by omega))) ?_
  refine q_assign rfl rfl rfl rfl ?_
  refine r_done ?_
  refine s_keep [1, 6] (e' := [(1, _), (6, _)]) rfl ?_
  refine k_then_n ?_
  refine c_seq ?_
  refine c_plain (.q 0 (.q 1 (.q 2 (.done)))) (by kernel_rfl) ?_
  refine q_move rfl rfl rfl rfl ?_
  refine q_int rfl rfl rfl rfl rfl (b_shlL _ 48 281474976710656 rfl (by decide) rfl) ?_
  refine s_eq 24 rfl (v' := .int .u64 ((t * 281474976710656 : Nat) : Int)) (by rw [wrap_fits (fits_u64 (by omega) (by omega))]; first | done | (congr 1; done) | (congr 1; omega)) ?_
  refine q_assign rfl rfl rfl rfl ?_
  refine r_done ?_
  refine k_then_n ?_
  refine c_seq ?_
  refine c_plain (.q 0 (.q 1 (.q 2 (.q 3 (.done))))) (by kernel_rfl) ?_
  refine q_move rfl rfl rfl rfl ?_
  refine q_move rfl rfl rfl rfl ?_
  refine q_int rfl rfl rfl rfl rfl (b_or _ _ _ _) ?_
  refine s_eq 27 rfl (v' := .int .u64 ((t * 281474976710656 + c : Nat) : Int)) (by rw [or_pack (by omega) (by omega)]) ?_
  refine q_assign rfl rfl rfl rfl ?_
  refine r_done ?_
  refine s_keep [6] (e' := [(6, _)]) rfl ?_
  refine k_then_n ?_
  refine c_seq ?_
  refine c_plain (.q 0 (.q 1 (.q 2 (.done)))) (by kernel_rfl) ?_
  refine q_move rfl rfl rfl rfl ?_
  refine q_assign rfl rfl rfl rfl ?_
  refine q_assign rfl rfl rfl rfl ?_
  refine r_done ?_
  refine k_then_n ?_
  refine c_ret ?_
  refine ret2 rfl rfl rfl (()) (by first | rfl | (first | rfl | (congr 1; done) | (congr 1 <;> first | rfl | omega | (simp; done) | (simp; omega)))) (by trivial) ?_
  (repeat ((with_reducible apply Takes.cons); focus (first | (with_reducible (repeat (first | exact Take.here | apply Take.there)); done) | (repeat (first | exact Take.here | apply Take.there))))); (repeat (first | exact Takes.nil | exact Takes.self | refine takes_drop2 ?_))

theorem epoch_spec (b : Nat) (l : List Int) (ao : Option Addr) (n cap : Nat) (hn : l.length = n) (hl : CV l) (t : Nat) (ht : t < 65535) : Spec Try.prog 26 [.pointer (some ⟨b, 0, none⟩), .int .i64 ((t : Nat) : Int)] [cells b 0 [.slice ao n cap], own 1 encU ao cap l] (fun (_ : Unit) => .tuple #[.int .u64 ((eN l t : Nat) : Int), .int .i64 0]) (fun _ => True) (fun _ => [cells b 0 [.slice ao n cap], own 1 encU ao cap l]) := by
  refine spec_mk (n := 24) Try.func26 rfl rfl rfl ?_
  intro Γ w0
  simp only [argE, List.cons_append, List.nil_append, Nat.zero_add, Nat.reduceAdd]
  have hll := hl.len
  refine c_seq ?_
  refine c_plain (.q 0 (.q 1 (.done))) (by kernel_rfl) ?_
  refine q_assign rfl rfl rfl rfl ?_
  refine q_assign rfl rfl rfl rfl ?_
  refine r_done ?_
  refine k_then_n ?_
  refine c_seq ?_
  refine c_seq ?_
  refine c_plain (.q 0 (.q 1 ((.l 2 [] (.q 3 (.done)))))) (by kernel_rfl) ?_
  refine q_move rfl rfl rfl rfl ?_
  refine q_move rfl rfl rfl rfl ?_
  have sp_1 := wrong_spec b t (by omega)
  refine l_call rfl rfl rfl rfl rfl rfl Try.call42 (sp_1) (by (repeat ((with_reducible apply Takes.cons); focus (first | (with_reducible (repeat (first | exact Take.here | apply Take.there)); done) | (repeat (first | exact Take.here | apply Take.there))))); exact Takes.nil) ?_
  rintro ⟨⟩ -
  try simp only [List.cons_append, List.nil_append]
  refine ag_nil ?_
  refine q_assign rfl rfl rfl rfl ?_
  refine r_done ?_
  refine s_keep [0, 1, 6] (e' := [(0, _), (1, _), (6, _)]) rfl ?_
  refine k_then_n ?_
  refine c_seq ?_
  refine c_plain (.q 0 (.q 1 (.done))) (by kernel_rfl) ?_
  refine q_move rfl rfl rfl rfl ?_
  refine q_int rfl rfl rfl rfl rfl (b_neq _ _ _ _) ?_
  refine r_done ?_
  refine k_then_n ?_
  refine c_cond_p rfl (fun hg => by exfalso; first | exact hg rfl | exact hg trivial | simp at hg) (fun hg => ?_)
  refine c_skip ?_
  refine k_then_n ?_
  refine c_seq ?_
  refine c_seq ?_
  refine c_plain (.q 0 (.q 1 ((.l 2 [] (.q 3 (.done)))))) (by kernel_rfl) ?_
  refine q_move rfl rfl rfl rfl ?_
  refine q_move rfl rfl rfl rfl ?_
  have sp_2 := get_spec b l ao n cap (by first | rfl | assumption | omega | (simp; done) | (simp; omega)) t
  refine l_call rfl rfl rfl rfl rfl rfl Try.call13 (sp_2) (by (repeat ((with_reducible apply Takes.cons); focus (first | (with_reducible (repeat (first | exact Take.here | apply Take.there)); done) | (repeat (first | exact Take.here | apply Take.there))))); exact Takes.nil) ?_
  rintro ⟨⟩ -
  try simp only [List.cons_append, List.nil_append]
  refine ag_nil ?_
  refine q_int rfl rfl rfl rfl rfl (b_eql _ _ _ _) ?_
  refine r_done ?_
  refine s_keep [0, 1, 16] (e' := [(0, _), (1, _), (16, _)]) rfl ?_
  refine k_then_n ?_
  refine c_cond_p rfl (fun hz => ?_) (fun hz => ?_)
  · skip
    refine c_seq ?_
    refine c_plain (.q 0 (.q 1 (.done))) (by kernel_rfl) ?_
    refine q_assign rfl rfl rfl rfl ?_
    refine q_assign rfl rfl rfl rfl ?_
    refine r_done ?_
    refine k_then_n ?_
    refine c_ret ?_
    refine k_then_ret ?_
    refine ret2 rfl rfl rfl (()) (by rw [show eN l t = 0 from if_pos hz]; rfl) (by trivial) ?_
    (repeat ((with_reducible apply Takes.cons); focus (first | (with_reducible (repeat (first | exact Take.here | apply Take.there)); done) | (repeat (first | exact Take.here | apply Take.there))))); (repeat (first | exact Takes.nil | exact Takes.self | refine takes_drop2 ?_))
  · skip
    have hgr := g_rng hl.rng (by decide) t
    obtain ⟨c, hc⟩ := Int.eq_ofNat_of_zero_le hgr.1
    simp only [maxC] at hgr
    have hen : eN l t = t * 281474976710656 + c := by rw [eN_pos hz, hc]; rfl
    refine c_skip ?_
    refine k_then_n ?_
    refine c_seq ?_
    refine c_plain (.q 0 (.q 1 (.q 2 ((.l 3 [] ((.l 4 [] (.q 5 (.q 6 (.q 7 (.q 8 (.done)))))))))))) (by kernel_rfl) ?_
    refine q_move rfl rfl rfl rfl ?_
    refine q_move rfl rfl rfl rfl ?_
    refine q_move rfl rfl rfl rfl ?_
    have sp_3 := get_spec b l ao n cap (by first | rfl | assumption | omega | (simp; done) | (simp; omega)) t
    refine l_call rfl rfl rfl rfl rfl rfl Try.call13 (sp_3) (by (repeat ((with_reducible apply Takes.cons); focus (first | (with_reducible (repeat (first | exact Take.here | apply Take.there)); done) | (repeat (first | exact Take.here | apply Take.there))))); exact Takes.nil) ?_
    rintro ⟨⟩ -
    try simp only [List.cons_append, List.nil_append]
    refine ag_nil ?_
    refine s_eq 20 rfl (v' := .int .u64 ((c : Nat) : Int)) (by rw [hc]) ?_
    have sp_4 := pack_spec t c ht (by omega)
    refine l_call rfl rfl rfl rfl rfl rfl Try.call45 (sp_4) (by (repeat ((with_reducible apply Takes.cons); focus (first | (with_reducible (repeat (first | exact Take.here | apply Take.there)); done) | (repeat (first | exact Take.here | apply Take.there))))); exact Takes.nil) ?_
    rintro ⟨⟩ -
    try simp only [List.cons_append, List.nil_append]
    refine ag_nil ?_
    refine q_extract rfl rfl rfl rfl rfl ?_
    refine q_extract rfl rfl rfl rfl rfl ?_
    refine q_assign rfl rfl rfl rfl ?_
    refine q_assign rfl rfl rfl rfl ?_
    refine r_done ?_
    refine s_keep [4, 5] (e' := [(4, _), (5, _)]) rfl ?_
    refine k_then_n ?_
    refine c_ret ?_
    refine ret2 rfl rfl rfl (()) (by rw [hen]) (by trivial) ?_
    (repeat ((with_reducible apply Takes.cons); focus (first | (with_reducible (repeat (first | exact Take.here | apply Take.there)); done) | (repeat (first | exact Take.here | apply Take.there))))); (repeat (first | exact Takes.nil | exact Takes.self | refine takes_drop2 ?_))
end Go.Ab.Vc
