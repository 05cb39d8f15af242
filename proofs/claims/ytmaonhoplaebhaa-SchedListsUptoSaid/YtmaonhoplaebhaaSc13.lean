/- Package sched's law Lists. -/
import Derived.Test.YtmaonhoplaebhaaSc7
import Derived.Test.YtmaonhoplaebhaaEngO
set_option linter.unusedVariables false
set_option linter.unusedSimpArgs false
set_option maxRecDepth 100000
namespace Go.Ab.Sc
open Go Go.Proofs Go.Ab
/-- The digits of k. -/
def dg (q : Nat) : Nat → Nat → List Int
  | 0, _ => []
  | n + 1, k => dg q n (k / q) ++ [((k % q : Nat) : Int)]
/-- What is left behind them. -/
def dv (q : Nat) : Nat → Nat → Nat
  | 0, k => k
  | n + 1, k => dv q n (k / q)
theorem dg_len (q : Nat) : ∀ n k, (dg q n k).length = n
  | 0, _ => rfl
  | n + 1, k => by simp [dg, dg_len q n]
theorem dg_zero (q : Nat) : ∀ n, dg q n 0 = List.replicate n 0
  | 0 => rfl
  | n + 1 => by rw [dg, Nat.zero_div, Nat.zero_mod, dg_zero q n, List.replicate_succ']; rfl
theorem dv_zero (q : Nat) : ∀ n, dv q n 0 = 0
  | 0 => rfl
  | n + 1 => by rw [dv, Nat.zero_div, dv_zero q n]
theorem dv_eq (q : Nat) : ∀ n k, dv q n k = k / q ^ n
  | 0, k => by simp [dv]
  | n + 1, k => by rw [dv, dv_eq q n, Nat.div_div_eq_div_mul, Nat.pow_succ, Nat.mul_comm]
theorem dv_lt {q n r : Nat} (hq : 0 < q ∨ n = 0) (h : dv q n r = 0) : r < q ^ n := by
  have hp : 0 < q ^ n := by
    rcases hq with h | h
    · exact Nat.pow_pos h
    · subst h; simp
  rw [dv_eq] at h
  rcases Nat.div_eq_zero_iff.1 h with h | h
  · omega
  · exact h
theorem dg_last {q i a : Nat} (z : List Int) : (dg q (i + 1) a ++ z)[i]? = some ((a % q : Nat) : Int) := by
  have h := dg_len q i (a / q)
  rw [dg, List.append_assoc, List.getElem?_append_right (by omega), h, Nat.sub_self]; rfl
theorem dg_set {q i a : Nat} (z : List Int) (v : Int) : (dg q (i + 1) a ++ z).set i v = dg q i (a / q) ++ (v :: z) := by
  have h := dg_len q i (a / q)
  rw [dg, List.append_assoc, List.set_append_right _ _ (by omega), h, Nat.sub_self]; rfl
theorem rep_last {i : Nat} (z : List Int) : (List.replicate (i + 1) (0 : Int) ++ z)[i]? = some 0 := by
  rw [List.getElem?_append_left (by simp)]; simp
theorem rep_set {i : Nat} (z : List Int) (v : Int) : (List.replicate (i + 1) (0 : Int) ++ z).set i v = List.replicate i 0 ++ (v :: z) := by
  rw [List.replicate_succ', List.append_assoc, List.set_append_right _ _ (by simp)]; simp
structure CI (q n i r a : Nat) : Prop where
  eq : dg q n (r + 1) = dg q i (a + 1) ++ List.replicate (n - i) 0
  dv1 : dv q n (r + 1) = dv q i (a + 1)
  dv0 : dv q i a = 0
  le : i ≤ n
theorem ci_start {q n r : Nat} (h : dv q n r = 0) : CI q n n r r := ⟨by simp, rfl, h, Nat.le_refl _⟩
theorem up_carry {q a : Nat} (hq : 0 < q) (hc : a % q = q - 1) : (a + 1) / q = a / q + 1 ∧ (a + 1) % q = 0 := by
  have h := Nat.div_add_mod a q
  have e : a + 1 = q * (a / q + 1) := by rw [Nat.mul_add]; omega
  exact ⟨by rw [e, Nat.mul_div_cancel_left _ hq], by rw [e, Nat.mul_mod_right]⟩
theorem up_stay {q a : Nat} (hq : 0 < q) (hc : a % q ≠ q - 1) : (a + 1) / q = a / q ∧ (a + 1) % q = a % q + 1 := by
  have h := Nat.div_add_mod a q
  have hm := Nat.mod_lt a hq
  have e : a + 1 = q * (a / q) + (a % q + 1) := by omega
  have hlt : a % q + 1 < q := by omega
  constructor
  · rw [e, Nat.mul_add_div hq, Nat.div_eq_of_lt hlt]; simp
  · rw [e, Nat.mul_add_mod, Nat.mod_eq_of_lt hlt]
theorem ci_carry {q n i r a : Nat} (h : CI q n (i + 1) r a) (hq : 0 < q) (hc : a % q = q - 1) : CI q n i r (a / q) := by
  obtain ⟨h1, h2⟩ := up_carry hq hc
  obtain ⟨e, d1, d0, le⟩ := h
  refine ⟨?_, by rw [d1, dv, h1], d0, by omega⟩
  rw [e, dg, h1, h2, List.append_assoc, show n - i = (n - (i + 1)) + 1 from by omega, List.replicate_succ]; rfl
theorem ci_list {q n i r a : Nat} (h : CI q n (i + 1) r a) : (dg q (i + 1) a ++ List.replicate (n - (i + 1)) 0).set i 0 = dg q i (a / q) ++ List.replicate (n - i) 0 := by
  have := h.le
  rw [dg_set, show n - i = (n - (i + 1)) + 1 from by omega, List.replicate_succ]
theorem ci_end {q n i r a : Nat} (h : CI q n (i + 1) r a) (hq : 0 < q) (hc : a % q ≠ q - 1) : (dg q (i + 1) a ++ List.replicate (n - (i + 1)) 0).set i (((a % q : Nat) : Int) + 1) = dg q n (r + 1) ∧ dv q n (r + 1) = 0 := by
  obtain ⟨h1, h2⟩ := up_stay hq hc
  obtain ⟨e, d1, d0, le⟩ := h
  refine ⟨?_, by rw [d1, dv, h1]; exact d0⟩
  rw [dg_set, e, dg, h1, h2, List.append_assoc]; rfl
theorem ci_stop {q n r a : Nat} (h : CI q n 0 r a) : dv q n (r + 1) ≠ 0 := by
  rw [h.dv1, dv]; omega
/-- What a round over the lists holds. -/
def LJ (b3 b4 b7 b9 b11 n q tu : Nat) (s : List (LstA Int) × Option Addr × Nat × Nat) : HProp := Bun [cells b3 0 [.int .i64 (n : Int)], cells b4 0 [.int .u32 (q : Int)], cells b7 0 [.int .i64 (tu : Int)], cells b9 0 [.slice s.2.1 s.1.length s.2.2.1], own 1 encHW s.2.1 s.2.2.1 s.1, bigS (owA 1 encW) s.1, cells b11 0 [.int .i64 (s.2.2.2 : Int)]]
def LI (n tu t0 r : Nat) (s : List (LstA Int) × Option Addr × Nat × Nat) : Prop := s.2.2.2 = r ∧ r ≤ tu ∧ s.1.length = t0 + r ∧ ∀ x ∈ s.1, x.2.2.length ≤ n
def LF (n tu t0 : Nat) (s : List (LstA Int) × Option Addr × Nat × Nat) (c : Code) : Prop := c = .exit 2 ∧ s.2.2.2 = tu + 1 ∧ s.1.length = t0 + tu + 1 ∧ ∀ x ∈ s.1, x.2.2.length ≤ n
section
variable {w0 : World} {ds : List Deferred} {m : Nat} {e : Env} {Γ Γ' : List HProp} {X : Act → World → Prop} {b3 b4 b7 b9 b11 n q tu k tc : Nat} {T : List (LstA Int)} {ta : Option Addr}
theorem lj_open (k1 : Le (St w0 ds m e (cells b3 0 [.int .i64 (n : Int)] :: cells b4 0 [.int .u32 (q : Int)] :: cells b7 0 [.int .i64 (tu : Int)] :: cells b9 0 [.slice ta T.length tc] :: own 1 encHW ta tc T :: bigS (owA 1 encW) T :: cells b11 0 [.int .i64 (k : Int)] :: Γ)) X) : Le (St w0 ds m e (LJ b3 b4 b7 b9 b11 n q tu (T, ta, tc, k) :: Γ)) X := s_heap (fun _ h => Bun.unfold (Γ := [cells b3 0 [.int .i64 (n : Int)], cells b4 0 [.int .u32 (q : Int)], cells b7 0 [.int .i64 (tu : Int)], cells b9 0 [.slice ta T.length tc], own 1 encHW ta tc T, bigS (owA 1 encW) T, cells b11 0 [.int .i64 (k : Int)]]) h) k1
theorem lj_fold {b3 b4 b7 b9 b11 n q tu k tc : Nat} {T : List (LstA Int)} {ta : Option Addr} {m2 : Nat} (tk : Takes Γ [cells b3 0 [.int .i64 (n : Int)], cells b4 0 [.int .u32 (q : Int)], cells b7 0 [.int .i64 (tu : Int)], cells b9 0 [.slice ta m2 tc], own 1 encHW ta tc T, bigS (owA 1 encW) T, cells b11 0 [.int .i64 (k : Int)]] Γ') (hm : m2 = T.length) (k1 : Le (St w0 ds m e (LJ b3 b4 b7 b9 b11 n q tu (T, ta, tc, k) :: Γ')) X) : Le (St w0 ds m e Γ) X := by
  subst hm
  exact s_heap (fun hp h => Bun.fold (Γ := [cells b3 0 [.int .i64 (n : Int)], cells b4 0 [.int .u32 (q : Int)], cells b7 0 [.int .i64 (tu : Int)], cells b9 0 [.slice ta T.length tc], own 1 encHW ta tc T, bigS (owA 1 encW) T, cells b11 0 [.int .i64 (k : Int)]]) (tk _ h)) k1
end
theorem lists1_spec {σ : Type} (n q bn bq : Nat) (hn : n ≤ 1048576) (hqn : 0 < q ∨ n = 0) (hq : q < 4294967296) (yf : Value) (JL : Option Code → HProp) (J : σ → HProp) (I : Nat → σ → Prop) (Fin : σ → Code → Prop)
    (hy : ∀ r s ao cap, I r s → dv q n r = 0 → CallF Try.prog yf [.slice ao n cap] [JL none, J s, own 1 encW ao cap (dg q n r)] (fun (x : σ × Option Code) => .bool x.2.isNone) (fun x => (x.2 = none → I (r + 1) x.1) ∧ (∀ c, x.2 = some c → Fin x.1 c)) (fun x => [JL x.2, J x.1]))
    (s0 : σ) (h0 : I 0 s0) : Spec Try.prog 44 [yf, .pointer (some ⟨bn, 0, none⟩), .pointer (some ⟨bq, 0, none⟩)] [JL none, J s0, cells bn 0 [.int .i64 ((n : Nat) : Int)], cells bq 0 [.int .u32 ((q : Nat) : Int)]] (fun (x : Nat × σ × Option Code) => .tuple #[]) (fun x => (x.2.2 = none ∧ I x.1 x.2.1 ∧ dv q n x.1 ≠ 0) ∨ ∃ c, x.2.2 = some c ∧ Fin x.2.1 c) (fun x => [JL x.2.2, J x.2.1, cells bn 0 [.int .i64 ((n : Nat) : Int)], cells bq 0 [.int .u32 ((q : Nat) : Int)]]) := by
  refine spec_mk (n := 49) Try.func44 rfl rfl rfl ?_
  intro Γ w0
  simp only [argE, List.cons_append, List.nil_append, Nat.zero_add, Nat.reduceAdd]
  refine c_seq ?_
  refine c_seq ?_
  refine c_plain (.q 0 ((.l 1 [] (.q 2 (.q 3 (.q 4 (.q 5 (.q 6 (.q 7 (.q 8 (.q 9 (.q 10 (.done))))))))))))) (by kernel_rfl) ?_
  refine q_load_c (j := 0) rfl rfl rfl rfl Try.isAgg3 (by with_reducible (repeat (first | exact Take.here | apply Take.there))) (by first | rfl | exact (Nat.add_zero _).symm) (by rfl) ?_
  have sp_1 := length_spec ((n : Nat) : Int)
  refine l_call rfl rfl rfl rfl rfl rfl Try.call38 (sp_1) (by (repeat ((with_reducible apply Takes.cons); focus (first | (with_reducible (repeat (first | exact Take.here | apply Take.there)); done) | (repeat (first | exact Take.here | apply Take.there))))); exact Takes.nil) ?_
  rintro ⟨⟩ -
  try simp only [List.cons_append, List.nil_append]
  refine ag_nil ?_
  refine q_int rfl rfl rfl rfl rfl (b_neq _ _ _ _) ?_
  refine q_move rfl rfl rfl rfl ?_
  refine s_bool_p 9 rfl (fun hg => by exfalso; exact hg (lenE_nat hn)) (fun hg => ?_)
  refine q_load_c (j := 0) rfl rfl rfl rfl Try.isAgg25 (by with_reducible (repeat (first | exact Take.here | apply Take.there))) (by first | rfl | exact (Nat.add_zero _).symm) (by rfl) ?_
  refine q_int rfl rfl rfl rfl rfl (b_eql _ _ _ _) ?_
  refine q_move rfl rfl rfl rfl ?_
  refine s_bool_p 12 rfl (fun g_2 => ?_) (fun g_2 => ?_)
  · skip
    refine q_load_c (j := 0) rfl rfl rfl rfl Try.isAgg3 (by with_reducible (repeat (first | exact Take.here | apply Take.there))) (by first | rfl | exact (Nat.add_zero _).symm) (by rfl) ?_
    refine q_int rfl rfl rfl rfl rfl (b_gtr _ _ _ _) ?_
    refine q_pick_t rfl rfl rfl rfl rfl ?_
    refine q_pick_f rfl rfl rfl rfl rfl ?_
    refine r_done ?_
    refine s_keep [0, 1, 2, 16] (e' := [(0, _), (1, _), (2, _), (16, _)]) rfl ?_
    refine k_then_n ?_
    refine c_cond_p rfl (fun hg => by exfalso; omega) (fun hg => ?_)
    refine c_skip ?_
    refine k_then_n ?_
    refine c_seq ?_
    refine c_plain (.q 0 ((.l 1 [] (.q 2 (.done))))) (by kernel_rfl) ?_
    refine q_load_c (j := 0) rfl rfl rfl rfl Try.isAgg3 (by with_reducible (repeat (first | exact Take.here | apply Take.there))) (by first | rfl | exact (Nat.add_zero _).symm) (by rfl) ?_
    refine l_make (sz := 1) (enc := encW) (len := n) (cap := n) (0) rfl rfl rfl rfl rfl (by first | rfl | omega) (by first | rfl | omega) Try.underlying24 Try.typeInfo25 rfl rfl rfl (by decide) (by omega) (by omega) (by show 4 * _ ≤ _; omega) (by rfl) (encW_len) ?_
    intro b18
    refine ag_nil ?_
    refine q_assign rfl rfl rfl rfl ?_
    refine r_done ?_
    refine k_then_n ?_
    refine c_block ?_
    rw [← dg_zero q n]
    have hdz := dg_len q n 0
    refine c_loop2 (α := Nat × σ) (fun (x_ : Nat × σ) => match x_ with | (r, s) => I r s ∧ dv q n r = 0) (fun (x_ : Nat × σ) => match x_ with | (r, s) => []) (fun (x_ : Nat × σ) => match x_ with | (r, s) => [JL none, J s, own 1 encW (some ⟨b18, 0, none⟩) n (dg q n r)]) (fun (x_ : Nat × σ) => match x_ with | (r, s) => q ^ n - r) [0, 1, 2, 4] (er := [(0, _), (1, _), (2, _), (4, _)]) rfl (0, s0) ?_ (by exact trivial) (by (repeat ((with_reducible apply Takes.cons); focus (first | (with_reducible (repeat (first | exact Take.here | apply Take.there)); done) | (repeat (first | exact Take.here | apply Take.there))))); exact Takes.nil) ?_
    · exact ⟨h0, dv_zero q n⟩
    rintro ⟨r, s⟩ ⟨hI, hdv⟩
    try simp only [List.cons_append, List.nil_append]
    have hdl := dg_len q n r
    refine c_seq ?_
    refine c_seq ?_
    refine c_plain (.q 0 (.q 1 ((.l 2 [] ((.l 3 [] (.done))))))) (by kernel_rfl) ?_
    refine q_move rfl rfl rfl rfl ?_
    refine q_move rfl rfl rfl rfl ?_
    refine s_take (A := own 1 encW (some ⟨b18, 0, none⟩) n (dg q n r)) (by with_reducible (repeat (first | exact Take.here | apply Take.there))) ?_
    refine own_fc fun f_3a f_3b f_3c => ?_
    have sp_4 := clonew_spec (dg q n r) (some ⟨b18, 0, none⟩) n n (own 1 encW (some ⟨b18, 0, none⟩) n (dg q n r)) (by first | rfl | assumption | omega | (simp; done) | (simp; omega)) (rds_own encW_len (fun h => (f_3b h).1) f_3c) (by omega)
    refine l_call rfl rfl rfl rfl rfl rfl Try.call45 (sp_4) (by (repeat ((with_reducible apply Takes.cons); focus (first | (with_reducible (repeat (first | exact Take.here | apply Take.there)); done) | (repeat (first | exact Take.here | apply Take.there))))); exact Takes.nil) ?_
    rintro ⟨cla, clc⟩ -
    try simp only [List.cons_append, List.nil_append]
    refine ag_nil ?_
    refine l_callF rfl rfl rfl rfl rfl (hy r s cla clc hI hdv) (by (repeat ((with_reducible apply Takes.cons); focus (first | (with_reducible (repeat (first | exact Take.here | apply Take.there)); done) | (repeat (first | exact Take.here | apply Take.there))))); exact Takes.nil) ?_
    rintro ⟨s2, p⟩ hr
    try simp only [List.cons_append, List.nil_append]
    refine ag_nil ?_
    refine r_done ?_
    refine k_then_n ?_
    refine c_cond rfl (fun hp => ?_) (fun hp => ?_)
    · skip
      try simp only [Bool.and_eq_true, Bool.or_eq_true, Bool.not_eq_true', Bool.not_eq_false', Bool.and_eq_false_iff, Bool.or_eq_false_iff, decide_eq_true_eq, decide_eq_false_iff_not] at hp
      obtain rfl : p = none := by
        cases p with
        | none => rfl
        | some c => cases hp
      have hI2 := hr.1 rfl
      refine c_skip ?_
      refine k_then_n ?_
      refine c_block ?_
      refine c_seq ?_
      refine c_plain (.q 0 (.q 1 (.q 2 (.done)))) (by kernel_rfl) ?_
      refine q_load_c (j := 0) rfl rfl rfl rfl Try.isAgg3 (by with_reducible (repeat (first | exact Take.here | apply Take.there))) (by first | rfl | exact (Nat.add_zero _).symm) (by rfl) ?_
      refine q_int rfl rfl rfl rfl rfl (b_sub' _ (by (first | exact fits_i64 (by omega) (by omega) | exact fits_u64 (by omega) (by omega) | exact fits_u32 (by omega) (by omega) | exact fits_u8 (by omega) (by omega)))) ?_
      refine q_assign rfl rfl rfl rfl ?_
      refine r_done ?_
      refine s_keep [0, 1, 2, 4, 5] (e' := [(0, _), (1, _), (2, _), (4, _), (5, _)]) rfl ?_
      refine k_then_n ?_
      refine c_seq ?_
      refine c_block ?_
      refine c_loop2 (α := Nat × Nat) (fun (x_ : Nat × Nat) => match x_ with | (i, a) => CI q n i r a) (fun (x_ : Nat × Nat) => match x_ with | (i, a) => [(5, .int .i64 (((i : Nat) : Int) - 1))]) (fun (x_ : Nat × Nat) => match x_ with | (i, a) => [own 1 encW (some ⟨b18, 0, none⟩) n (dg q i a ++ List.replicate (n - i) 0)]) (fun (x_ : Nat × Nat) => match x_ with | (i, a) => i) [0, 1, 2, 4] (er := [(0, _), (1, _), (2, _), (4, _)]) rfl (n, r) ?_ (by exact ⟨rfl, trivial⟩) (by dsimp only; rw [Nat.sub_self, List.replicate_zero, List.append_nil]; (repeat ((with_reducible apply Takes.cons); focus (first | (with_reducible (repeat (first | exact Take.here | apply Take.there)); done) | (repeat (first | exact Take.here | apply Take.there))))); exact Takes.nil) ?_
      · exact ci_start hdv
      rintro ⟨i, a⟩ (hC : CI q n i r a)
      try simp only [List.cons_append, List.nil_append]
      have hil := hC.le
      have hdl3 : (dg q i a ++ List.replicate (n - i) 0).length = n := by simp [dg_len]; omega
      refine c_seq ?_
      refine c_seq ?_
      refine c_draw rfl (.q 0 (.q 1 (.q 2 (.q 3 (.q 4 (.q 5 (.q 6 (.q 7 (.q 8 (.q 9 (.q 10 (.done)))))))))))) (by kernel_rfl) ?_
      refine q_move rfl rfl rfl rfl ?_
      refine q_int rfl rfl rfl rfl rfl (b_geq _ _ _ _) ?_
      refine q_move rfl rfl rfl rfl ?_
      refine s_bool_p 27 rfl (fun hi0 => ?_) (fun hi0 => ?_)
      · skip
        obtain ⟨i, rfl⟩ : ∃ j, i = j + 1 := ⟨i - 1, by omega⟩
        refine s_eq 5 rfl (v' := .int .i64 ((i : Nat) : Int)) (by congr 1; omega) ?_
        have hq0 : 0 < q := by omega
        have hmod := Nat.mod_lt a hq0
        refine q_move rfl rfl rfl rfl ?_
        refine q_move rfl rfl rfl rfl ?_
        refine q_idxO (sz := 0) (k := i) (enc := encW) (xs := (dg q (i + 1) a ++ List.replicate (n - (i + 1)) 0)) rfl rfl rfl rfl rfl Try.underlying24 Try.sizeOf25 (dg_last _) (by first | rfl | omega) (by omega) (by with_reducible (repeat (first | exact Take.here | apply Take.there))) ?_
        intro ib30 io30 ha30 hl30 hc30
        refine q_load_O (v := (.int .u32 ((a % q : Nat) : Int))) (j := 0) (k' := i) (enc := encW) (off := io30) rfl rfl rfl rfl Try.isAgg25 ha30 encW_len (dg_last _) (by with_reducible (repeat (first | exact Take.here | apply Take.there))) (by first | rfl | exact (Nat.add_zero _).symm | omega) (by rfl) ?_
        refine q_load_c (j := 0) rfl rfl rfl rfl Try.isAgg25 (by with_reducible (repeat (first | exact Take.here | apply Take.there))) (by first | rfl | exact (Nat.add_zero _).symm) (by rfl) ?_
        refine q_int rfl rfl rfl rfl rfl (b_sub' _ (by (first | exact fits_i64 (by omega) (by omega) | exact fits_u64 (by omega) (by omega) | exact fits_u32 (by omega) (by omega) | exact fits_u8 (by omega) (by omega)))) ?_
        refine q_int rfl rfl rfl rfl rfl (b_eql _ _ _ _) ?_
        refine q_pick_t rfl rfl rfl rfl rfl ?_
        refine r_done ?_
        refine k_then_n ?_
        refine c_cond_p rfl (fun hcy => ?_) (fun hcy => ?_)
        · skip
          have hcy2 : a % q = q - 1 := by omega
          refine c_skip ?_
          refine k_then_n ?_
          refine c_seq ?_
          refine c_block ?_
          refine c_plain (.q 0 (.q 1 (.q 2 ((.l 3 [] (.done)))))) (by kernel_rfl) ?_
          refine q_move rfl rfl rfl rfl ?_
          refine q_move rfl rfl rfl rfl ?_
          refine q_idxO (sz := 0) (k := i) (enc := encW) (xs := (dg q (i + 1) a ++ List.replicate (n - (i + 1)) 0)) rfl rfl rfl rfl rfl Try.underlying24 Try.sizeOf25 (dg_last _) (by first | rfl | omega) (by omega) (by with_reducible (repeat (first | exact Take.here | apply Take.there))) ?_
          intro ib40 io40 ha40 hl40 hc40
          refine l_store_O (j := 0) (k := i) (q := 0) (enc := encW) (off := io40) rfl rfl rfl rfl Try.sizeOf25 (us := [_]) rfl rfl rfl ha40 encW_len (dg_last _) (by with_reducible (repeat (first | exact Take.here | apply Take.there))) (by first | rfl | exact (Nat.add_zero _).symm | omega) (by first | decide | exact Nat.le_of_ble_eq_true rfl) (by rfl) ?_
          refine ag_nil ?_
          refine r_done ?_
          refine s_keep [0, 1, 2, 4, 5, 28, 29, 30, 31, 32, 33, 34] (e' := [(0, _), (1, _), (2, _), (4, _), (5, _), (28, _), (29, _), (30, _), (31, _), (32, _), (33, _), (34, _)]) rfl ?_
          refine k_blk_n ?_
          refine k_then_n ?_
          refine c_plain (.q 0 (.q 1 (.q 2 (.done)))) (by kernel_rfl) ?_
          refine q_move rfl rfl rfl rfl ?_
          refine q_int rfl rfl rfl rfl rfl (b_sub' _ (by (first | exact fits_i64 (by omega) (by omega) | exact fits_u64 (by omega) (by omega) | exact fits_u32 (by omega) (by omega) | exact fits_u8 (by omega) (by omega)))) ?_
          refine q_assign rfl rfl rfl rfl ?_
          refine r_done ?_
          refine k_then_n ?_
          rw [ci_list hC]
          refine loop_next (x := (i + 1, a)) ((i, a / q)) ?_ ?_ ?_ ?_
          · try dsimp only
            exact ci_carry hC hq0 hcy2
          · show i < i + 1; omega
          · exact ⟨rfl, rfl, rfl, rfl, rfl, trivial⟩
          · (try simp only [List.cons_append, List.nil_append]); (repeat ((with_reducible apply Takes.cons); focus (first | (with_reducible (repeat (first | exact Take.here | apply Take.there)); done) | (repeat (first | exact Take.here | apply Take.there))))); (repeat (first | exact Takes.nil | exact Takes.self | refine takes_drop2 ?_))
        · skip
          have hcy2 : a % q ≠ q - 1 := by omega
          refine c_exit ?_
          refine k_then_exit ?_
          refine k_then_exit ?_
          refine k_blk_here ?_
          refine k_then_n ?_
          refine c_seq ?_
          refine c_seq ?_
          refine c_plain (.q 0 (.q 1 (.done))) (by kernel_rfl) ?_
          refine q_move rfl rfl rfl rfl ?_
          refine q_int rfl rfl rfl rfl rfl (b_lss _ _ _ _) ?_
          refine r_done ?_
          refine s_keep [0, 1, 2, 4, 5, 28, 29, 30, 31, 32, 33, 34, 42] (e' := [(0, _), (1, _), (2, _), (4, _), (5, _), (28, _), (29, _), (30, _), (31, _), (32, _), (33, _), (34, _), (42, _)]) rfl ?_
          refine k_then_n ?_
          refine c_cond_p rfl (fun hg => by exfalso; omega) (fun hg => ?_)
          refine c_skip ?_
          refine k_then_n ?_
          refine c_plain (.q 0 (.q 1 (.q 2 (.q 3 (.q 4 (.q 5 ((.l 6 [] (.done))))))))) (by kernel_rfl) ?_
          refine q_move rfl rfl rfl rfl ?_
          refine q_move rfl rfl rfl rfl ?_
          refine q_idxO (sz := 0) (k := i) (enc := encW) (xs := (dg q (i + 1) a ++ List.replicate (n - (i + 1)) 0)) rfl rfl rfl rfl rfl Try.underlying24 Try.sizeOf25 (dg_last _) (by first | rfl | omega) (by omega) (by with_reducible (repeat (first | exact Take.here | apply Take.there))) ?_
          intro ib45 io45 ha45 hl45 hc45
          refine q_load_O (v := (.int .u32 ((a % q : Nat) : Int))) (j := 0) (k' := i) (enc := encW) (off := io45) rfl rfl rfl rfl Try.isAgg25 ha45 encW_len (dg_last _) (by with_reducible (repeat (first | exact Take.here | apply Take.there))) (by first | rfl | exact (Nat.add_zero _).symm | omega) (by rfl) ?_
          refine q_int rfl rfl rfl rfl rfl (b_add' _ (by exact fits_u32 (by omega) (by omega))) ?_
          refine q_idxO (sz := 0) (k := i) (enc := encW) (xs := (dg q (i + 1) a ++ List.replicate (n - (i + 1)) 0)) rfl rfl rfl rfl rfl Try.underlying24 Try.sizeOf25 (dg_last _) (by first | rfl | omega) (by omega) (by with_reducible (repeat (first | exact Take.here | apply Take.there))) ?_
          intro ib48 io48 ha48 hl48 hc48
          refine l_store_O (j := 0) (k := i) (q := (((a % q : Nat) : Int) + 1)) (enc := encW) (off := io48) rfl rfl rfl rfl Try.sizeOf25 (us := [_]) rfl rfl rfl ha48 encW_len (dg_last _) (by with_reducible (repeat (first | exact Take.here | apply Take.there))) (by first | rfl | exact (Nat.add_zero _).symm | omega) (by first | decide | exact Nat.le_of_ble_eq_true rfl) (by rfl) ?_
          refine ag_nil ?_
          refine r_done ?_
          refine s_keep [0, 1, 2, 4, 28, 29, 30, 31, 32, 33, 34] (e' := [(0, _), (1, _), (2, _), (4, _), (28, _), (29, _), (30, _), (31, _), (32, _), (33, _), (34, _)]) rfl ?_
          refine k_blk_n ?_
          refine k_then_n ?_
          have hde := ci_end hC hq0 hcy2
          rw [hde.1]
          refine loop_next (x := (r, s)) ((r + 1, s2)) ?_ ?_ ?_ ?_
          · try dsimp only
            exact ⟨hI2, hde.2⟩
          · show q ^ n - (r + 1) < q ^ n - r; have := dv_lt hqn hdv; omega
          · exact ⟨rfl, rfl, rfl, rfl, trivial⟩
          · (try simp only [List.cons_append, List.nil_append]); (repeat ((with_reducible apply Takes.cons); focus (first | (with_reducible (repeat (first | exact Take.here | apply Take.there)); done) | (repeat (first | exact Take.here | apply Take.there))))); (repeat (first | exact Takes.nil | exact Takes.self | refine takes_drop2 ?_))
      · skip
        refine q_skip rfl rfl rfl rfl ?_
        refine q_skip rfl rfl rfl rfl ?_
        refine q_skip rfl rfl rfl rfl ?_
        refine q_skip rfl rfl rfl rfl ?_
        refine q_skip rfl rfl rfl rfl ?_
        refine q_skip rfl rfl rfl rfl ?_
        refine q_skip rfl rfl rfl rfl ?_
        refine q_pick_f rfl rfl rfl rfl rfl ?_
        refine r_done ?_
        refine k_then_n ?_
        refine c_cond_f rfl ?_
        refine c_exit ?_
        refine k_then_exit ?_
        refine k_then_exit ?_
        refine k_blk_here ?_
        refine k_then_n ?_
        refine c_seq ?_
        refine c_seq ?_
        refine c_plain (.q 0 (.q 1 (.done))) (by kernel_rfl) ?_
        refine q_move rfl rfl rfl rfl ?_
        refine q_int rfl rfl rfl rfl rfl (b_lss _ _ _ _) ?_
        refine r_done ?_
        refine s_keep [0, 1, 2, 4, 5, 28, 29, 30, 31, 32, 33, 34, 42] (e' := [(0, _), (1, _), (2, _), (4, _), (5, _), (28, _), (29, _), (30, _), (31, _), (32, _), (33, _), (34, _), (42, _)]) rfl ?_
        refine k_then_n ?_
        refine c_cond_p rfl (fun hg => ?_) (fun hg => by exfalso; omega)
        obtain rfl : i = 0 := by omega
        refine c_ret ?_
        refine k_then_ret ?_
        refine k_blk_ret ?_
        refine k_then_ret ?_
        refine k_blk_ret ?_
        refine ret0 rfl ((r + 1, s2, none)) (by first | rfl | (first | rfl | (congr 1; done) | (congr 1 <;> first | rfl | omega | (simp; done) | (simp; omega)))) (by exact .inl ⟨rfl, hI2, ci_stop hC⟩) ?_
        (repeat ((with_reducible apply Takes.cons); focus (first | (with_reducible (repeat (first | exact Take.here | apply Take.there)); done) | (repeat (first | exact Take.here | apply Take.there))))); (repeat (first | exact Takes.nil | exact Takes.self | refine takes_drop2 ?_))
    · skip
      try simp only [Bool.and_eq_true, Bool.or_eq_true, Bool.not_eq_true', Bool.not_eq_false', Bool.and_eq_false_iff, Bool.or_eq_false_iff, decide_eq_true_eq, decide_eq_false_iff_not] at hp
      obtain ⟨c, rfl⟩ : ∃ c, p = some c := by
        cases p with
        | none => cases hp
        | some c => exact ⟨c, rfl⟩
      refine c_exit ?_
      refine k_then_exit ?_
      refine k_then_exit ?_
      refine k_blk_here ?_
      refine ret_end ?_
      refine ret0 rfl ((r, s2, some c)) (by first | rfl | (first | rfl | (congr 1; done) | (congr 1 <;> first | rfl | omega | (simp; done) | (simp; omega)))) (by exact .inr ⟨c, rfl, hr.2 c rfl⟩) ?_
      (repeat ((with_reducible apply Takes.cons); focus (first | (with_reducible (repeat (first | exact Take.here | apply Take.there)); done) | (repeat (first | exact Take.here | apply Take.there))))); (repeat (first | exact Takes.nil | exact Takes.self | refine takes_drop2 ?_))
  · skip
    refine q_skip rfl rfl rfl rfl ?_
    refine q_skip rfl rfl rfl rfl ?_
    refine q_pick_f rfl rfl rfl rfl rfl ?_
    refine q_pick_f rfl rfl rfl rfl rfl ?_
    refine r_done ?_
    refine s_keep [0, 1, 2, 16] (e' := [(0, _), (1, _), (2, _), (16, _)]) rfl ?_
    refine k_then_n ?_
    refine c_cond_f rfl ?_
    refine c_skip ?_
    refine k_then_n ?_
    refine c_seq ?_
    refine c_plain (.q 0 ((.l 1 [] (.q 2 (.done))))) (by kernel_rfl) ?_
    refine q_load_c (j := 0) rfl rfl rfl rfl Try.isAgg3 (by with_reducible (repeat (first | exact Take.here | apply Take.there))) (by first | rfl | exact (Nat.add_zero _).symm) (by rfl) ?_
    refine l_make (sz := 1) (enc := encW) (len := n) (cap := n) (0) rfl rfl rfl rfl rfl (by first | rfl | omega) (by first | rfl | omega) Try.underlying24 Try.typeInfo25 rfl rfl rfl (by decide) (by omega) (by omega) (by show 4 * _ ≤ _; omega) (by rfl) (encW_len) ?_
    intro b18
    refine ag_nil ?_
    refine q_assign rfl rfl rfl rfl ?_
    refine r_done ?_
    refine k_then_n ?_
    refine c_block ?_
    rw [← dg_zero q n]
    have hdz := dg_len q n 0
    refine c_loop2 (α := Nat × σ) (fun (x_ : Nat × σ) => match x_ with | (r, s) => I r s ∧ dv q n r = 0) (fun (x_ : Nat × σ) => match x_ with | (r, s) => []) (fun (x_ : Nat × σ) => match x_ with | (r, s) => [JL none, J s, own 1 encW (some ⟨b18, 0, none⟩) n (dg q n r)]) (fun (x_ : Nat × σ) => match x_ with | (r, s) => q ^ n - r) [0, 1, 2, 4] (er := [(0, _), (1, _), (2, _), (4, _)]) rfl (0, s0) ?_ (by exact trivial) (by (repeat ((with_reducible apply Takes.cons); focus (first | (with_reducible (repeat (first | exact Take.here | apply Take.there)); done) | (repeat (first | exact Take.here | apply Take.there))))); exact Takes.nil) ?_
    · exact ⟨h0, dv_zero q n⟩
    rintro ⟨r, s⟩ ⟨hI, hdv⟩
    try simp only [List.cons_append, List.nil_append]
    have hdl := dg_len q n r
    refine c_seq ?_
    refine c_seq ?_
    refine c_plain (.q 0 (.q 1 ((.l 2 [] ((.l 3 [] (.done))))))) (by kernel_rfl) ?_
    refine q_move rfl rfl rfl rfl ?_
    refine q_move rfl rfl rfl rfl ?_
    refine s_take (A := own 1 encW (some ⟨b18, 0, none⟩) n (dg q n r)) (by with_reducible (repeat (first | exact Take.here | apply Take.there))) ?_
    refine own_fc fun f_5a f_5b f_5c => ?_
    have sp_6 := clonew_spec (dg q n r) (some ⟨b18, 0, none⟩) n n (own 1 encW (some ⟨b18, 0, none⟩) n (dg q n r)) (by first | rfl | assumption | omega | (simp; done) | (simp; omega)) (rds_own encW_len (fun h => (f_5b h).1) f_5c) (by omega)
    refine l_call rfl rfl rfl rfl rfl rfl Try.call45 (sp_6) (by (repeat ((with_reducible apply Takes.cons); focus (first | (with_reducible (repeat (first | exact Take.here | apply Take.there)); done) | (repeat (first | exact Take.here | apply Take.there))))); exact Takes.nil) ?_
    rintro ⟨cla, clc⟩ -
    try simp only [List.cons_append, List.nil_append]
    refine ag_nil ?_
    refine l_callF rfl rfl rfl rfl rfl (hy r s cla clc hI hdv) (by (repeat ((with_reducible apply Takes.cons); focus (first | (with_reducible (repeat (first | exact Take.here | apply Take.there)); done) | (repeat (first | exact Take.here | apply Take.there))))); exact Takes.nil) ?_
    rintro ⟨s2, p⟩ hr
    try simp only [List.cons_append, List.nil_append]
    refine ag_nil ?_
    refine r_done ?_
    refine k_then_n ?_
    refine c_cond rfl (fun hp => ?_) (fun hp => ?_)
    · skip
      try simp only [Bool.and_eq_true, Bool.or_eq_true, Bool.not_eq_true', Bool.not_eq_false', Bool.and_eq_false_iff, Bool.or_eq_false_iff, decide_eq_true_eq, decide_eq_false_iff_not] at hp
      obtain rfl : p = none := by
        cases p with
        | none => rfl
        | some c => cases hp
      have hI2 := hr.1 rfl
      refine c_skip ?_
      refine k_then_n ?_
      refine c_block ?_
      refine c_seq ?_
      refine c_plain (.q 0 (.q 1 (.q 2 (.done)))) (by kernel_rfl) ?_
      refine q_load_c (j := 0) rfl rfl rfl rfl Try.isAgg3 (by with_reducible (repeat (first | exact Take.here | apply Take.there))) (by first | rfl | exact (Nat.add_zero _).symm) (by rfl) ?_
      refine q_int rfl rfl rfl rfl rfl (b_sub' _ (by (first | exact fits_i64 (by omega) (by omega) | exact fits_u64 (by omega) (by omega) | exact fits_u32 (by omega) (by omega) | exact fits_u8 (by omega) (by omega)))) ?_
      refine q_assign rfl rfl rfl rfl ?_
      refine r_done ?_
      refine s_keep [0, 1, 2, 4, 5] (e' := [(0, _), (1, _), (2, _), (4, _), (5, _)]) rfl ?_
      refine k_then_n ?_
      refine c_seq ?_
      refine c_block ?_
      refine c_loop2 (α := Nat × Nat) (fun (x_ : Nat × Nat) => match x_ with | (i, a) => CI q n i r a) (fun (x_ : Nat × Nat) => match x_ with | (i, a) => [(5, .int .i64 (((i : Nat) : Int) - 1))]) (fun (x_ : Nat × Nat) => match x_ with | (i, a) => [own 1 encW (some ⟨b18, 0, none⟩) n (dg q i a ++ List.replicate (n - i) 0)]) (fun (x_ : Nat × Nat) => match x_ with | (i, a) => i) [0, 1, 2, 4] (er := [(0, _), (1, _), (2, _), (4, _)]) rfl (n, r) ?_ (by exact ⟨rfl, trivial⟩) (by dsimp only; rw [Nat.sub_self, List.replicate_zero, List.append_nil]; (repeat ((with_reducible apply Takes.cons); focus (first | (with_reducible (repeat (first | exact Take.here | apply Take.there)); done) | (repeat (first | exact Take.here | apply Take.there))))); exact Takes.nil) ?_
      · exact ci_start hdv
      rintro ⟨i, a⟩ (hC : CI q n i r a)
      try simp only [List.cons_append, List.nil_append]
      have hil := hC.le
      have hdl3 : (dg q i a ++ List.replicate (n - i) 0).length = n := by simp [dg_len]; omega
      refine c_seq ?_
      refine c_seq ?_
      refine c_draw rfl (.q 0 (.q 1 (.q 2 (.q 3 (.q 4 (.q 5 (.q 6 (.q 7 (.q 8 (.q 9 (.q 10 (.done)))))))))))) (by kernel_rfl) ?_
      refine q_move rfl rfl rfl rfl ?_
      refine q_int rfl rfl rfl rfl rfl (b_geq _ _ _ _) ?_
      refine q_move rfl rfl rfl rfl ?_
      refine s_bool_p 27 rfl (fun hi0 => ?_) (fun hi0 => ?_)
      · skip
        obtain ⟨i, rfl⟩ : ∃ j, i = j + 1 := ⟨i - 1, by omega⟩
        refine s_eq 5 rfl (v' := .int .i64 ((i : Nat) : Int)) (by congr 1; omega) ?_
        have hq0 : 0 < q := by omega
        have hmod := Nat.mod_lt a hq0
        refine q_move rfl rfl rfl rfl ?_
        refine q_move rfl rfl rfl rfl ?_
        refine q_idxO (sz := 0) (k := i) (enc := encW) (xs := (dg q (i + 1) a ++ List.replicate (n - (i + 1)) 0)) rfl rfl rfl rfl rfl Try.underlying24 Try.sizeOf25 (dg_last _) (by first | rfl | omega) (by omega) (by with_reducible (repeat (first | exact Take.here | apply Take.there))) ?_
        intro ib30 io30 ha30 hl30 hc30
        refine q_load_O (v := (.int .u32 ((a % q : Nat) : Int))) (j := 0) (k' := i) (enc := encW) (off := io30) rfl rfl rfl rfl Try.isAgg25 ha30 encW_len (dg_last _) (by with_reducible (repeat (first | exact Take.here | apply Take.there))) (by first | rfl | exact (Nat.add_zero _).symm | omega) (by rfl) ?_
        refine q_load_c (j := 0) rfl rfl rfl rfl Try.isAgg25 (by with_reducible (repeat (first | exact Take.here | apply Take.there))) (by first | rfl | exact (Nat.add_zero _).symm) (by rfl) ?_
        refine q_int rfl rfl rfl rfl rfl (b_sub' _ (by (first | exact fits_i64 (by omega) (by omega) | exact fits_u64 (by omega) (by omega) | exact fits_u32 (by omega) (by omega) | exact fits_u8 (by omega) (by omega)))) ?_
        refine q_int rfl rfl rfl rfl rfl (b_eql _ _ _ _) ?_
        refine q_pick_t rfl rfl rfl rfl rfl ?_
        refine r_done ?_
        refine k_then_n ?_
        refine c_cond_p rfl (fun hcy => ?_) (fun hcy => ?_)
        · skip
          have hcy2 : a % q = q - 1 := by omega
          refine c_skip ?_
          refine k_then_n ?_
          refine c_seq ?_
          refine c_block ?_
          refine c_plain (.q 0 (.q 1 (.q 2 ((.l 3 [] (.done)))))) (by kernel_rfl) ?_
          refine q_move rfl rfl rfl rfl ?_
          refine q_move rfl rfl rfl rfl ?_
          refine q_idxO (sz := 0) (k := i) (enc := encW) (xs := (dg q (i + 1) a ++ List.replicate (n - (i + 1)) 0)) rfl rfl rfl rfl rfl Try.underlying24 Try.sizeOf25 (dg_last _) (by first | rfl | omega) (by omega) (by with_reducible (repeat (first | exact Take.here | apply Take.there))) ?_
          intro ib40 io40 ha40 hl40 hc40
          refine l_store_O (j := 0) (k := i) (q := 0) (enc := encW) (off := io40) rfl rfl rfl rfl Try.sizeOf25 (us := [_]) rfl rfl rfl ha40 encW_len (dg_last _) (by with_reducible (repeat (first | exact Take.here | apply Take.there))) (by first | rfl | exact (Nat.add_zero _).symm | omega) (by first | decide | exact Nat.le_of_ble_eq_true rfl) (by rfl) ?_
          refine ag_nil ?_
          refine r_done ?_
          refine s_keep [0, 1, 2, 4, 5, 28, 29, 30, 31, 32, 33, 34] (e' := [(0, _), (1, _), (2, _), (4, _), (5, _), (28, _), (29, _), (30, _), (31, _), (32, _), (33, _), (34, _)]) rfl ?_
          refine k_blk_n ?_
          refine k_then_n ?_
          refine c_plain (.q 0 (.q 1 (.q 2 (.done)))) (by kernel_rfl) ?_
          refine q_move rfl rfl rfl rfl ?_
          refine q_int rfl rfl rfl rfl rfl (b_sub' _ (by (first | exact fits_i64 (by omega) (by omega) | exact fits_u64 (by omega) (by omega) | exact fits_u32 (by omega) (by omega) | exact fits_u8 (by omega) (by omega)))) ?_
          refine q_assign rfl rfl rfl rfl ?_
          refine r_done ?_
          refine k_then_n ?_
          rw [ci_list hC]
          refine loop_next (x := (i + 1, a)) ((i, a / q)) ?_ ?_ ?_ ?_
          · try dsimp only
            exact ci_carry hC hq0 hcy2
          · show i < i + 1; omega
          · exact ⟨rfl, rfl, rfl, rfl, rfl, trivial⟩
          · (try simp only [List.cons_append, List.nil_append]); (repeat ((with_reducible apply Takes.cons); focus (first | (with_reducible (repeat (first | exact Take.here | apply Take.there)); done) | (repeat (first | exact Take.here | apply Take.there))))); (repeat (first | exact Takes.nil | exact Takes.self | refine takes_drop2 ?_))
        · skip
          have hcy2 : a % q ≠ q - 1 := by omega
          refine c_exit ?_
          refine k_then_exit ?_
          refine k_then_exit ?_
          refine k_blk_here ?_
          refine k_then_n ?_
          refine c_seq ?_
          refine c_seq ?_
          refine c_plain (.q 0 (.q 1 (.done))) (by kernel_rfl) ?_
          refine q_move rfl rfl rfl rfl ?_
          refine q_int rfl rfl rfl rfl rfl (b_lss _ _ _ _) ?_
          refine r_done ?_
          refine s_keep [0, 1, 2, 4, 5, 28, 29, 30, 31, 32, 33, 34, 42] (e' := [(0, _), (1, _), (2, _), (4, _), (5, _), (28, _), (29, _), (30, _), (31, _), (32, _), (33, _), (34, _), (42, _)]) rfl ?_
          refine k_then_n ?_
          refine c_cond_p rfl (fun hg => by exfalso; omega) (fun hg => ?_)
          refine c_skip ?_
          refine k_then_n ?_
          refine c_plain (.q 0 (.q 1 (.q 2 (.q 3 (.q 4 (.q 5 ((.l 6 [] (.done))))))))) (by kernel_rfl) ?_
          refine q_move rfl rfl rfl rfl ?_
          refine q_move rfl rfl rfl rfl ?_
          refine q_idxO (sz := 0) (k := i) (enc := encW) (xs := (dg q (i + 1) a ++ List.replicate (n - (i + 1)) 0)) rfl rfl rfl rfl rfl Try.underlying24 Try.sizeOf25 (dg_last _) (by first | rfl | omega) (by omega) (by with_reducible (repeat (first | exact Take.here | apply Take.there))) ?_
          intro ib45 io45 ha45 hl45 hc45
          refine q_load_O (v := (.int .u32 ((a % q : Nat) : Int))) (j := 0) (k' := i) (enc := encW) (off := io45) rfl rfl rfl rfl Try.isAgg25 ha45 encW_len (dg_last _) (by with_reducible (repeat (first | exact Take.here | apply Take.there))) (by first | rfl | exact (Nat.add_zero _).symm | omega) (by rfl) ?_
          refine q_int rfl rfl rfl rfl rfl (b_add' _ (by exact fits_u32 (by omega) (by omega))) ?_
          refine q_idxO (sz := 0) (k := i) (enc := encW) (xs := (dg q (i + 1) a ++ List.replicate (n - (i + 1)) 0)) rfl rfl rfl rfl rfl Try.underlying24 Try.sizeOf25 (dg_last _) (by first | rfl | omega) (by omega) (by with_reducible (repeat (first | exact Take.here | apply Take.there))) ?_
          intro ib48 io48 ha48 hl48 hc48
          refine l_store_O (j := 0) (k := i) (q := (((a % q : Nat) : Int) + 1)) (enc := encW) (off := io48) rfl rfl rfl rfl Try.sizeOf25 (us := [_]) rfl rfl rfl ha48 encW_len (dg_last _) (by with_reducible (repeat (first | exact Take.here | apply Take.there))) (by first | rfl | exact (Nat.add_zero _).symm | omega) (by first | decide | exact Nat.le_of_ble_eq_true rfl) (by rfl) ?_
          refine ag_nil ?_
          refine r_done ?_
          refine s_keep [0, 1, 2, 4, 28, 29, 30, 31, 32, 33, 34] (e' := [(0, _), (1, _), (2, _), (4, _), (28, _), (29, _), (30, _), (31, _), (32, _), (33, _), (34, _)]) rfl ?_
          refine k_blk_n ?_
          refine k_then_n ?_
          have hde := ci_end hC hq0 hcy2
          rw [hde.1]
          refine loop_next (x := (r, s)) ((r + 1, s2)) ?_ ?_ ?_ ?_
          · try dsimp only
            exact ⟨hI2, hde.2⟩
          · show q ^ n - (r + 1) < q ^ n - r; have := dv_lt hqn hdv; omega
          · exact ⟨rfl, rfl, rfl, rfl, trivial⟩
          · (try simp only [List.cons_append, List.nil_append]); (repeat ((with_reducible apply Takes.cons); focus (first | (with_reducible (repeat (first | exact Take.here | apply Take.there)); done) | (repeat (first | exact Take.here | apply Take.there))))); (repeat (first | exact Takes.nil | exact Takes.self | refine takes_drop2 ?_))
      · skip
        refine q_skip rfl rfl rfl rfl ?_
        refine q_skip rfl rfl rfl rfl ?_
        refine q_skip rfl rfl rfl rfl ?_
        refine q_skip rfl rfl rfl rfl ?_
        refine q_skip rfl rfl rfl rfl ?_
        refine q_skip rfl rfl rfl rfl ?_
        refine q_skip rfl rfl rfl rfl ?_
        refine q_pick_f rfl rfl rfl rfl rfl ?_
        refine r_done ?_
        refine k_then_n ?_
        refine c_cond_f rfl ?_
        refine c_exit ?_
        refine k_then_exit ?_
        refine k_then_exit ?_
        refine k_blk_here ?_
        refine k_then_n ?_
        refine c_seq ?_
        refine c_seq ?_
        refine c_plain (.q 0 (.q 1 (.done))) (by kernel_rfl) ?_
        refine q_move rfl rfl rfl rfl ?_
        refine q_int rfl rfl rfl rfl rfl (b_lss _ _ _ _) ?_
        refine r_done ?_
        refine s_keep [0, 1, 2, 4, 5, 28, 29, 30, 31, 32, 33, 34, 42] (e' := [(0, _), (1, _), (2, _), (4, _), (5, _), (28, _), (29, _), (30, _), (31, _), (32, _), (33, _), (34, _), (42, _)]) rfl ?_
        refine k_then_n ?_
        refine c_cond_p rfl (fun hg => ?_) (fun hg => by exfalso; omega)
        obtain rfl : i = 0 := by omega
        refine c_ret ?_
        refine k_then_ret ?_
        refine k_blk_ret ?_
        refine k_then_ret ?_
        refine k_blk_ret ?_
        refine ret0 rfl ((r + 1, s2, none)) (by first | rfl | (first | rfl | (congr 1; done) | (congr 1 <;> first | rfl | omega | (simp; done) | (simp; omega)))) (by exact .inl ⟨rfl, hI2, ci_stop hC⟩) ?_
        (repeat ((with_reducible apply Takes.cons); focus (first | (with_reducible (repeat (first | exact Take.here | apply Take.there)); done) | (repeat (first | exact Take.here | apply Take.there))))); (repeat (first | exact Takes.nil | exact Takes.self | refine takes_drop2 ?_))
    · skip
      try simp only [Bool.and_eq_true, Bool.or_eq_true, Bool.not_eq_true', Bool.not_eq_false', Bool.and_eq_false_iff, Bool.or_eq_false_iff, decide_eq_true_eq, decide_eq_false_iff_not] at hp
      obtain ⟨c, rfl⟩ : ∃ c, p = some c := by
        cases p with
        | none => cases hp
        | some c => exact ⟨c, rfl⟩
      refine c_exit ?_
      refine k_then_exit ?_
      refine k_then_exit ?_
      refine k_blk_here ?_
      refine ret_end ?_
      refine ret0 rfl ((r, s2, some c)) (by first | rfl | (first | rfl | (congr 1; done) | (congr 1 <;> first | rfl | omega | (simp; done) | (simp; omega)))) (by exact .inr ⟨c, rfl, hr.2 c rfl⟩) ?_
      (repeat ((with_reducible apply Takes.cons); focus (first | (with_reducible (repeat (first | exact Take.here | apply Take.there)); done) | (repeat (first | exact Take.here | apply Take.there))))); (repeat (first | exact Takes.nil | exact Takes.self | refine takes_drop2 ?_))

theorem lists1_bad (z : Int) (q bn bq : Nat) (hbad : lenE z ≠ 0 ∨ ((q : Nat) : Int) = 0 ∧ 0 < z) (yf : Value) (JL : HProp) : Spec Try.prog 44 [yf, .pointer (some ⟨bn, 0, none⟩), .pointer (some ⟨bq, 0, none⟩)] [JL, cells bn 0 [.int .i64 z], cells bq 0 [.int .u32 ((q : Nat) : Int)]] (fun (_ : Unit) => .tuple #[]) (fun _ => True) (fun _ => [JL, cells bn 0 [.int .i64 z], cells bq 0 [.int .u32 ((q : Nat) : Int)]]) := by
  refine spec_mk (n := 49) Try.func44 rfl rfl rfl ?_
  intro Γ w0
  simp only [argE, List.cons_append, List.nil_append, Nat.zero_add, Nat.reduceAdd]
  refine c_seq ?_
  refine c_seq ?_
  refine c_plain (.q 0 ((.l 1 [] (.q 2 (.q 3 (.q 4 (.q 5 (.q 6 (.q 7 (.q 8 (.q 9 (.q 10 (.done))))))))))))) (by kernel_rfl) ?_
  refine q_load_c (j := 0) rfl rfl rfl rfl Try.isAgg3 (by with_reducible (repeat (first | exact Take.here | apply Take.there))) (by first | rfl | exact (Nat.add_zero _).symm) (by rfl) ?_
  have sp_1 := length_spec z
  refine l_call rfl rfl rfl rfl rfl rfl Try.call38 (sp_1) (by (repeat ((with_reducible apply Takes.cons); focus (first | (with_reducible (repeat (first | exact Take.here | apply Take.there)); done) | (repeat (first | exact Take.here | apply Take.there))))); exact Takes.nil) ?_
  rintro ⟨⟩ -
  try simp only [List.cons_append, List.nil_append]
  refine ag_nil ?_
  refine q_int rfl rfl rfl rfl rfl (b_neq _ _ _ _) ?_
  refine q_move rfl rfl rfl rfl ?_
  refine s_bool_p 9 rfl (fun g_2 => ?_) (fun g_2 => ?_)
  · skip
    refine q_skip rfl rfl rfl rfl ?_
    refine q_skip rfl rfl rfl rfl ?_
    refine q_skip rfl rfl rfl rfl ?_
    refine q_skip rfl rfl rfl rfl ?_
    refine q_skip rfl rfl rfl rfl ?_
    refine q_skip rfl rfl rfl rfl ?_
    refine q_pick_t rfl rfl rfl rfl rfl ?_
    refine r_done ?_
    refine s_keep [0, 1, 2, 16] (e' := [(0, _), (1, _), (2, _), (16, _)]) rfl ?_
    refine k_then_n ?_
    refine c_cond_t rfl ?_
    refine c_ret ?_
    refine k_then_ret ?_
    refine ret0 rfl (()) (by first | rfl | (first | rfl | (congr 1; done) | (congr 1 <;> first | rfl | omega | (simp; done) | (simp; omega)))) (by trivial) ?_
    (repeat ((with_reducible apply Takes.cons); focus (first | (with_reducible (repeat (first | exact Take.here | apply Take.there)); done) | (repeat (first | exact Take.here | apply Take.there))))); (repeat (first | exact Takes.nil | exact Takes.self | refine takes_drop2 ?_))
  · skip
    refine q_load_c (j := 0) rfl rfl rfl rfl Try.isAgg25 (by with_reducible (repeat (first | exact Take.here | apply Take.there))) (by first | rfl | exact (Nat.add_zero _).symm) (by rfl) ?_
    refine q_int rfl rfl rfl rfl rfl (b_eql _ _ _ _) ?_
    refine q_move rfl rfl rfl rfl ?_
    refine s_bool_p 12 rfl (fun hg6 => ?_) (fun hg6 => by exfalso; omega)
    refine q_load_c (j := 0) rfl rfl rfl rfl Try.isAgg3 (by with_reducible (repeat (first | exact Take.here | apply Take.there))) (by first | rfl | exact (Nat.add_zero _).symm) (by rfl) ?_
    refine q_int rfl rfl rfl rfl rfl (b_gtr _ _ _ _) ?_
    refine q_pick_t rfl rfl rfl rfl rfl ?_
    refine q_pick_f rfl rfl rfl rfl rfl ?_
    refine r_done ?_
    refine s_keep [0, 1, 2, 16] (e' := [(0, _), (1, _), (2, _), (16, _)]) rfl ?_
    refine k_then_n ?_
    refine c_cond_p rfl (fun hg => ?_) (fun hg => by exfalso; omega)
    refine c_ret ?_
    refine k_then_ret ?_
    refine ret0 rfl (()) (by first | rfl | (first | rfl | (congr 1; done) | (congr 1 <;> first | rfl | omega | (simp; done) | (simp; omega)))) (by trivial) ?_
    (repeat ((with_reducible apply Takes.cons); focus (first | (with_reducible (repeat (first | exact Take.here | apply Take.there)); done) | (repeat (first | exact Take.here | apply Take.there))))); (repeat (first | exact Takes.nil | exact Takes.self | refine takes_drop2 ?_))

theorem lists_spec (z : Int) (q : Nat) : Spec Try.prog 20 [.int .i64 z, .int .u32 ((q : Nat) : Int)] [] (fun (r : Nat × Nat) => .func (.func 44) #[] #[.pointer (some ⟨r.1, 0, none⟩), .pointer (some ⟨r.2, 0, none⟩)]) (fun r => True) (fun r => [cells r.1 0 [.int .i64 z], cells r.2 0 [.int .u32 ((q : Nat) : Int)]]) := by
  refine spec_mk (n := 6) Try.func20 rfl rfl rfl ?_
  intro Γ w0
  simp only [argE, List.cons_append, List.nil_append, Nat.zero_add, Nat.reduceAdd]
  refine c_seq ?_
  refine c_plain ((.l 0 [] ((.l 1 [] (.q 2 (.done)))))) (by kernel_rfl) ?_
  refine l_box rfl rfl rfl rfl (us := [_]) rfl ?_
  intro b2
  refine ag_nil ?_
  refine l_box rfl rfl rfl rfl (us := [_]) rfl ?_
  intro b3
  refine ag_nil ?_
  refine q_assign rfl rfl rfl rfl ?_
  refine r_done ?_
  refine k_then_n ?_
  refine c_seq ?_
  refine c_plain (.q 0 (.q 1 (.done))) (by kernel_rfl) ?_
  refine q_func rfl rfl rfl rfl rfl ?_
  refine q_assign rfl rfl rfl rfl ?_
  refine r_done ?_
  refine s_keep [4] (e' := [(4, _)]) rfl ?_
  refine k_then_n ?_
  refine c_ret ?_
  refine ret1 rfl rfl ((b2, b3)) (by first | rfl | (first | rfl | (congr 1; done) | (congr 1 <;> first | rfl | omega | (simp; done) | (simp; omega)))) (by trivial) ?_
  (repeat ((with_reducible apply Takes.cons); focus (first | (with_reducible (repeat (first | exact Take.here | apply Take.there)); done) | (repeat (first | exact Take.here | apply Take.there))))); (repeat (first | exact Takes.nil | exact Takes.self | refine takes_drop2 ?_))

theorem rlist_spec (n q k : Nat) (hn : n ≤ 1048576) (hqn : 0 < q ∨ n = 0) (hq : q < 4294967296) (hk : k ≤ 4000000000000) : Spec Try.prog 21 [.int .i64 ((n : Nat) : Int), .int .u32 ((q : Nat) : Int), .int .i64 ((k : Nat) : Int)] [] (fun (r : Option Addr × Nat) => .tuple #[.slice r.1 n r.2, .bool (decide (dv q n k = 0))]) (fun r => True) (fun r => [own 1 encW r.1 r.2 (dg q n k)]) := by
  refine spec_mk (n := 51) Try.func21 rfl rfl rfl ?_
  intro Γ w0
  simp only [argE, List.cons_append, List.nil_append, Nat.zero_add, Nat.reduceAdd]
  refine c_seq ?_
  refine c_plain (.q 0 (.q 1 (.done))) (by kernel_rfl) ?_
  refine q_assign rfl rfl rfl rfl ?_
  refine q_assign rfl rfl rfl rfl ?_
  refine r_done ?_
  refine k_then_n ?_
  refine c_seq ?_
  refine c_seq ?_
  refine c_plain (.q 0 ((.l 1 [] (.q 2 (.q 3 (.q 4 (.q 5 (.q 6 (.q 7 (.q 8 (.q 9 (.q 10 (.q 11 (.q 12 (.q 13 (.q 14 (.done))))))))))))))))) (by kernel_rfl) ?_
  refine q_move rfl rfl rfl rfl ?_
  have sp_1 := rlength_spec ((n : Nat) : Int)
  refine l_call rfl rfl rfl rfl rfl rfl Try.call37 (sp_1) (by (repeat ((with_reducible apply Takes.cons); focus (first | (with_reducible (repeat (first | exact Take.here | apply Take.there)); done) | (repeat (first | exact Take.here | apply Take.there))))); exact Takes.nil) ?_
  rintro ⟨⟩ -
  try simp only [List.cons_append, List.nil_append]
  refine ag_nil ?_
  refine q_int rfl rfl rfl rfl rfl (b_neq _ _ _ _) ?_
  refine q_move rfl rfl rfl rfl ?_
  refine s_bool_p 13 rfl (fun hg => by exfalso; exact hg (lenE_nat hn)) (fun hg => ?_)
  refine q_move rfl rfl rfl rfl ?_
  refine q_int rfl rfl rfl rfl rfl (b_lss _ _ _ _) ?_
  refine q_pick_f rfl rfl rfl rfl rfl ?_
  refine q_move rfl rfl rfl rfl ?_
  refine s_bool_p 17 rfl (fun hg => by exfalso; omega) (fun hg => ?_)
  refine q_move rfl rfl rfl rfl ?_
  refine q_int rfl rfl rfl rfl rfl (b_eql _ _ _ _) ?_
  refine q_move rfl rfl rfl rfl ?_
  refine s_bool_p 20 rfl (fun g_2 => ?_) (fun g_2 => ?_)
  · skip
    refine q_move rfl rfl rfl rfl ?_
    refine q_int rfl rfl rfl rfl rfl (b_gtr _ _ _ _) ?_
    refine q_pick_t rfl rfl rfl rfl rfl ?_
    refine q_pick_f rfl rfl rfl rfl rfl ?_
    refine r_done ?_
    refine s_keep [0, 1, 2, 24] (e' := [(0, _), (1, _), (2, _), (24, _)]) rfl ?_
    refine k_then_n ?_
    refine c_cond_p rfl (fun hg => by exfalso; omega) (fun hg => ?_)
    refine c_skip ?_
    refine k_then_n ?_
    refine c_seq ?_
    refine c_plain (.q 0 ((.l 1 [] (.q 2 (.done))))) (by kernel_rfl) ?_
    refine q_move rfl rfl rfl rfl ?_
    refine l_make (sz := 1) (enc := encW) (len := n) (cap := n) (0) rfl rfl rfl rfl rfl (by first | rfl | omega) (by first | rfl | omega) Try.underlying24 Try.typeInfo25 rfl rfl rfl (by decide) (by omega) (by omega) (by show 4 * _ ≤ _; omega) (by rfl) (encW_len) ?_
    intro b26
    refine ag_nil ?_
    refine q_assign rfl rfl rfl rfl ?_
    refine r_done ?_
    refine k_then_n ?_
    refine c_seq ?_
    refine c_seq ?_
    refine c_plain (.q 0 (.q 1 (.q 2 (.done)))) (by kernel_rfl) ?_
    refine q_move rfl rfl rfl rfl ?_
    refine q_int rfl rfl rfl rfl rfl (b_sub' _ (by (first | exact fits_i64 (by omega) (by omega) | exact fits_u64 (by omega) (by omega) | exact fits_u32 (by omega) (by omega) | exact fits_u8 (by omega) (by omega)))) ?_
    refine q_assign rfl rfl rfl rfl ?_
    refine r_done ?_
    refine s_keep [1, 2, 8, 9] (e' := [(1, _), (2, _), (8, _), (9, _)]) rfl ?_
    refine k_then_n ?_
    refine c_block ?_
    refine c_loop2 (α := Nat × Nat × List Int) (fun (x_ : Nat × Nat × List Int) => match x_ with | (i, a, tl) => dg q n k = dg q i a ++ tl ∧ tl.length = n - i ∧ dv q n k = dv q i a ∧ i ≤ n ∧ a ≤ k) (fun (x_ : Nat × Nat × List Int) => match x_ with | (i, a, tl) => [(2, .int .i64 ((a : Nat) : Int)), (9, .int .i64 (((i : Nat) : Int) - 1))]) (fun (x_ : Nat × Nat × List Int) => match x_ with | (i, a, tl) => [own 1 encW (some ⟨b26, 0, none⟩) n (List.replicate i (0 : Int) ++ tl)]) (fun (x_ : Nat × Nat × List Int) => match x_ with | (i, a, tl) => i) [1, 8] (er := [(1, _), (8, _)]) rfl (n, k, []) ?_ (by exact ⟨rfl, rfl, trivial⟩) (by dsimp only; rw [List.append_nil]; (repeat ((with_reducible apply Takes.cons); focus (first | (with_reducible (repeat (first | exact Take.here | apply Take.there)); done) | (repeat (first | exact Take.here | apply Take.there))))); exact Takes.nil) ?_
    · exact ⟨by simp, by simp, rfl, Nat.le_refl _, Nat.le_refl _⟩
    rintro ⟨i, a, tl⟩ ⟨hdg, htl, hdvv, hil, hak⟩
    try simp only [List.cons_append, List.nil_append]
    have hll : (List.replicate i (0 : Int) ++ tl).length = n := by rw [List.length_append, List.length_replicate]; omega
    refine c_seq ?_
    refine c_seq ?_
    refine c_plain (.q 0 (.q 1 (.done))) (by kernel_rfl) ?_
    refine q_move rfl rfl rfl rfl ?_
    refine q_int rfl rfl rfl rfl rfl (b_geq _ _ _ _) ?_
    refine r_done ?_
    refine k_then_n ?_
    refine c_cond_p rfl (fun hi0 => ?_) (fun hi0 => ?_)
    · skip
      obtain ⟨i, rfl⟩ : ∃ j, i = j + 1 := ⟨i - 1, by omega⟩
      refine s_eq 9 rfl (v' := .int .i64 ((i : Nat) : Int)) (by congr 1; omega) ?_
      have hq0 : 0 < q := by omega
      have hmod := Nat.mod_lt a hq0
      have hdvl := Nat.div_le_self a q
      have hdv0 : (0 : Int) ≤ (a : Int) / (q : Int) := Int.ediv_nonneg (by omega) (by omega)
      refine c_skip ?_
      refine k_then_n ?_
      refine c_seq ?_
      refine c_block ?_
      refine c_seq ?_
      refine c_plain (.q 0 (.q 1 (.q 2 (.q 3 (.q 4 (.q 5 (.q 6 (.q 7 (.q 8 ((.l 9 [] (.done)))))))))))) (by kernel_rfl) ?_
      refine q_move rfl rfl rfl rfl ?_
      refine q_move rfl rfl rfl rfl ?_
      refine q_move rfl rfl rfl rfl ?_
      refine q_conv' rfl rfl rfl rfl Try.underlying34 Try.underlying3 (by (first | exact fits_i64 (by omega) (by omega) | exact fits_u64 (by omega) (by omega) | exact fits_u32 (by omega) (by omega) | exact fits_u8 (by omega) (by omega))) ?_
      refine q_move rfl rfl rfl rfl ?_
      refine q_conv' rfl rfl rfl rfl Try.underlying34 Try.underlying25 (by (first | exact fits_i64 (by omega) (by omega) | exact fits_u64 (by omega) (by omega) | exact fits_u32 (by omega) (by omega) | exact fits_u8 (by omega) (by omega))) ?_
      refine q_int rfl rfl rfl rfl rfl (b_rem _ (by omega) (by omega)) ?_
      refine s_eq 39 rfl (v' := .int .u64 ((a % q : Nat) : Int)) (by first | rfl | (congr 1; omega)) ?_
      refine q_conv' rfl rfl rfl rfl Try.underlying25 Try.underlying34 (by (first | exact fits_i64 (by omega) (by omega) | exact fits_u64 (by omega) (by omega) | exact fits_u32 (by omega) (by omega) | exact fits_u8 (by omega) (by omega))) ?_
      refine q_idxO (sz := 0) (k := i) (enc := encW) (xs := (List.replicate (i + 1) (0 : Int) ++ tl)) rfl rfl rfl rfl rfl Try.underlying24 Try.sizeOf25 (rep_last _) (by first | rfl | omega) (by omega) (by with_reducible (repeat (first | exact Take.here | apply Take.there))) ?_
      intro ib41 io41 ha41 hl41 hc41
      refine l_store_O (j := 0) (k := i) (q := ((a % q : Nat) : Int)) (enc := encW) (off := io41) rfl rfl rfl rfl Try.sizeOf25 (us := [_]) rfl rfl rfl ha41 encW_len (rep_last _) (by with_reducible (repeat (first | exact Take.here | apply Take.there))) (by first | rfl | exact (Nat.add_zero _).symm | omega) (by first | decide | exact Nat.le_of_ble_eq_true rfl) (by rfl) ?_
      refine ag_nil ?_
      refine r_done ?_
      refine s_keep [1, 2, 8, 9] (e' := [(1, _), (2, _), (8, _), (9, _)]) rfl ?_
      refine k_then_n ?_
      refine c_plain (.q 0 (.q 1 (.q 2 (.q 3 (.q 4 (.q 5 (.q 6 (.done)))))))) (by kernel_rfl) ?_
      refine q_move rfl rfl rfl rfl ?_
      refine q_conv' rfl rfl rfl rfl Try.underlying34 Try.underlying3 (by (first | exact fits_i64 (by omega) (by omega) | exact fits_u64 (by omega) (by omega) | exact fits_u32 (by omega) (by omega) | exact fits_u8 (by omega) (by omega))) ?_
      refine q_move rfl rfl rfl rfl ?_
      refine q_conv' rfl rfl rfl rfl Try.underlying34 Try.underlying25 (by (first | exact fits_i64 (by omega) (by omega) | exact fits_u64 (by omega) (by omega) | exact fits_u32 (by omega) (by omega) | exact fits_u8 (by omega) (by omega))) ?_
      refine q_int rfl rfl rfl rfl rfl (b_quo _ (by omega) (by omega) (by (first | exact fits_i64 (by omega) (by omega) | exact fits_u64 (by omega) (by omega) | exact fits_u32 (by omega) (by omega) | exact fits_u8 (by omega) (by omega)))) ?_
      refine s_eq 46 rfl (v' := .int .u64 ((a / q : Nat) : Int)) (by first | rfl | (congr 1; omega)) ?_
      refine q_conv' rfl rfl rfl rfl Try.underlying3 Try.underlying34 (by (first | exact fits_i64 (by omega) (by omega) | exact fits_u64 (by omega) (by omega) | exact fits_u32 (by omega) (by omega) | exact fits_u8 (by omega) (by omega))) ?_
      refine q_assign rfl rfl rfl rfl ?_
      refine r_done ?_
      refine s_keep [1, 2, 8, 9] (e' := [(1, _), (2, _), (8, _), (9, _)]) rfl ?_
      refine k_blk_n ?_
      refine k_then_n ?_
      refine c_plain (.q 0 (.q 1 (.q 2 (.done)))) (by kernel_rfl) ?_
      refine q_move rfl rfl rfl rfl ?_
      refine q_int rfl rfl rfl rfl rfl (b_sub' _ (by (first | exact fits_i64 (by omega) (by omega) | exact fits_u64 (by omega) (by omega) | exact fits_u32 (by omega) (by omega) | exact fits_u8 (by omega) (by omega)))) ?_
      refine q_assign rfl rfl rfl rfl ?_
      refine r_done ?_
      refine k_then_n ?_
      rw [rep_set]
      refine loop_next (x := (i + 1, a, tl)) ((i, a / q, ((a % q : Nat) : Int) :: tl)) ?_ ?_ ?_ ?_
      · try dsimp only
        exact ⟨by rw [hdg, dg, List.append_assoc]; rfl, by rw [List.length_cons, htl]; omega, by rw [hdvv, dv], by omega, by omega⟩
      · show i < i + 1; omega
      · exact ⟨rfl, rfl, rfl, rfl, trivial⟩
      · (try simp only [List.cons_append, List.nil_append]); (repeat ((with_reducible apply Takes.cons); focus (first | (with_reducible (repeat (first | exact Take.here | apply Take.there)); done) | (repeat (first | exact Take.here | apply Take.there))))); (repeat (first | exact Takes.nil | exact Takes.self | refine takes_drop2 ?_))
    · skip
      obtain rfl : i = 0 := by omega
      refine c_exit ?_
      refine k_then_exit ?_
      refine k_then_exit ?_
      refine k_blk_here ?_
      refine k_then_n ?_
      refine c_seq ?_
      refine c_plain (.q 0 (.q 1 (.q 2 (.q 3 (.q 4 (.done)))))) (by kernel_rfl) ?_
      refine q_move rfl rfl rfl rfl ?_
      refine q_move rfl rfl rfl rfl ?_
      refine q_int rfl rfl rfl rfl rfl (b_eql _ _ _ _) ?_
      refine q_assign rfl rfl rfl rfl ?_
      refine q_assign rfl rfl rfl rfl ?_
      refine r_done ?_
      refine s_keep [6, 7] (e' := [(6, _), (7, _)]) rfl ?_
      refine k_then_n ?_
      refine c_ret ?_
      refine s_eq 7 rfl (v' := .bool (decide (dv q n k = 0))) (by rw [hdvv]; congr 1; exact decide_eq_decide.2 (by simp [dv])) ?_
      rw [show List.replicate 0 (0 : Int) ++ tl = dg q n k from by rw [hdg]; simp [dg]]
      refine ret2 rfl rfl rfl ((some ⟨b26, 0, none⟩, n)) (by first | rfl | (first | rfl | (congr 1; done) | (congr 1 <;> first | rfl | omega | (simp; done) | (simp; omega)))) (by trivial) ?_
      (repeat ((with_reducible apply Takes.cons); focus (first | (with_reducible (repeat (first | exact Take.here | apply Take.there)); done) | (repeat (first | exact Take.here | apply Take.there))))); (repeat (first | exact Takes.nil | exact Takes.self | refine takes_drop2 ?_))
  · skip
    refine q_skip rfl rfl rfl rfl ?_
    refine q_skip rfl rfl rfl rfl ?_
    refine q_pick_f rfl rfl rfl rfl rfl ?_
    refine q_pick_f rfl rfl rfl rfl rfl ?_
    refine r_done ?_
    refine s_keep [0, 1, 2, 24] (e' := [(0, _), (1, _), (2, _), (24, _)]) rfl ?_
    refine k_then_n ?_
    refine c_cond_f rfl ?_
    refine c_skip ?_
    refine k_then_n ?_
    refine c_seq ?_
    refine c_plain (.q 0 ((.l 1 [] (.q 2 (.done))))) (by kernel_rfl) ?_
    refine q_move rfl rfl rfl rfl ?_
    refine l_make (sz := 1) (enc := encW) (len := n) (cap := n) (0) rfl rfl rfl rfl rfl (by first | rfl | omega) (by first | rfl | omega) Try.underlying24 Try.typeInfo25 rfl rfl rfl (by decide) (by omega) (by omega) (by show 4 * _ ≤ _; omega) (by rfl) (encW_len) ?_
    intro b26
    refine ag_nil ?_
    refine q_assign rfl rfl rfl rfl ?_
    refine r_done ?_
    refine k_then_n ?_
    refine c_seq ?_
    refine c_seq ?_
    refine c_plain (.q 0 (.q 1 (.q 2 (.done)))) (by kernel_rfl) ?_
    refine q_move rfl rfl rfl rfl ?_
    refine q_int rfl rfl rfl rfl rfl (b_sub' _ (by (first | exact fits_i64 (by omega) (by omega) | exact fits_u64 (by omega) (by omega) | exact fits_u32 (by omega) (by omega) | exact fits_u8 (by omega) (by omega)))) ?_
    refine q_assign rfl rfl rfl rfl ?_
    refine r_done ?_
    refine s_keep [1, 2, 8, 9] (e' := [(1, _), (2, _), (8, _), (9, _)]) rfl ?_
    refine k_then_n ?_
    refine c_block ?_
    refine c_loop2 (α := Nat × Nat × List Int) (fun (x_ : Nat × Nat × List Int) => match x_ with | (i, a, tl) => dg q n k = dg q i a ++ tl ∧ tl.length = n - i ∧ dv q n k = dv q i a ∧ i ≤ n ∧ a ≤ k) (fun (x_ : Nat × Nat × List Int) => match x_ with | (i, a, tl) => [(2, .int .i64 ((a : Nat) : Int)), (9, .int .i64 (((i : Nat) : Int) - 1))]) (fun (x_ : Nat × Nat × List Int) => match x_ with | (i, a, tl) => [own 1 encW (some ⟨b26, 0, none⟩) n (List.replicate i (0 : Int) ++ tl)]) (fun (x_ : Nat × Nat × List Int) => match x_ with | (i, a, tl) => i) [1, 8] (er := [(1, _), (8, _)]) rfl (n, k, []) ?_ (by exact ⟨rfl, rfl, trivial⟩) (by dsimp only; rw [List.append_nil]; (repeat ((with_reducible apply Takes.cons); focus (first | (with_reducible (repeat (first | exact Take.here | apply Take.there)); done) | (repeat (first | exact Take.here | apply Take.there))))); exact Takes.nil) ?_
    · exact ⟨by simp, by simp, rfl, Nat.le_refl _, Nat.le_refl _⟩
    rintro ⟨i, a, tl⟩ ⟨hdg, htl, hdvv, hil, hak⟩
    try simp only [List.cons_append, List.nil_append]
    have hll : (List.replicate i (0 : Int) ++ tl).length = n := by rw [List.length_append, List.length_replicate]; omega
    refine c_seq ?_
    refine c_seq ?_
    refine c_plain (.q 0 (.q 1 (.done))) (by kernel_rfl) ?_
    refine q_move rfl rfl rfl rfl ?_
    refine q_int rfl rfl rfl rfl rfl (b_geq _ _ _ _) ?_
    refine r_done ?_
    refine k_then_n ?_
    refine c_cond_p rfl (fun hi0 => ?_) (fun hi0 => ?_)
    · skip
      obtain ⟨i, rfl⟩ : ∃ j, i = j + 1 := ⟨i - 1, by omega⟩
      refine s_eq 9 rfl (v' := .int .i64 ((i : Nat) : Int)) (by congr 1; omega) ?_
      have hq0 : 0 < q := by omega
      have hmod := Nat.mod_lt a hq0
      have hdvl := Nat.div_le_self a q
      have hdv0 : (0 : Int) ≤ (a : Int) / (q : Int) := Int.ediv_nonneg (by omega) (by omega)
      refine c_skip ?_
      refine k_then_n ?_
      refine c_seq ?_
      refine c_block ?_
      refine c_seq ?_
      refine c_plain (.q 0 (.q 1 (.q 2 (.q 3 (.q 4 (.q 5 (.q 6 (.q 7 (.q 8 ((.l 9 [] (.done)))))))))))) (by kernel_rfl) ?_
      refine q_move rfl rfl rfl rfl ?_
      refine q_move rfl rfl rfl rfl ?_
      refine q_move rfl rfl rfl rfl ?_
      refine q_conv' rfl rfl rfl rfl Try.underlying34 Try.underlying3 (by (first | exact fits_i64 (by omega) (by omega) | exact fits_u64 (by omega) (by omega) | exact fits_u32 (by omega) (by omega) | exact fits_u8 (by omega) (by omega))) ?_
      refine q_move rfl rfl rfl rfl ?_
      refine q_conv' rfl rfl rfl rfl Try.underlying34 Try.underlying25 (by (first | exact fits_i64 (by omega) (by omega) | exact fits_u64 (by omega) (by omega) | exact fits_u32 (by omega) (by omega) | exact fits_u8 (by omega) (by omega))) ?_
      refine q_int rfl rfl rfl rfl rfl (b_rem _ (by omega) (by omega)) ?_
      refine s_eq 39 rfl (v' := .int .u64 ((a % q : Nat) : Int)) (by first | rfl | (congr 1; omega)) ?_
      refine q_conv' rfl rfl rfl rfl Try.underlying25 Try.underlying34 (by (first | exact fits_i64 (by omega) (by omega) | exact fits_u64 (by omega) (by omega) | exact fits_u32 (by omega) (by omega) | exact fits_u8 (by omega) (by omega))) ?_
      refine q_idxO (sz := 0) (k := i) (enc := encW) (xs := (List.replicate (i + 1) (0 : Int) ++ tl)) rfl rfl rfl rfl rfl Try.underlying24 Try.sizeOf25 (rep_last _) (by first | rfl | omega) (by omega) (by with_reducible (repeat (first | exact Take.here | apply Take.there))) ?_
      intro ib41 io41 ha41 hl41 hc41
      refine l_store_O (j := 0) (k := i) (q := ((a % q : Nat) : Int)) (enc := encW) (off := io41) rfl rfl rfl rfl Try.sizeOf25 (us := [_]) rfl rfl rfl ha41 encW_len (rep_last _) (by with_reducible (repeat (first | exact Take.here | apply Take.there))) (by first | rfl | exact (Nat.add_zero _).symm | omega) (by first | decide | exact Nat.le_of_ble_eq_true rfl) (by rfl) ?_
      refine ag_nil ?_
      refine r_done ?_
      refine s_keep [1, 2, 8, 9] (e' := [(1, _), (2, _), (8, _), (9, _)]) rfl ?_
      refine k_then_n ?_
      refine c_plain (.q 0 (.q 1 (.q 2 (.q 3 (.q 4 (.q 5 (.q 6 (.done)))))))) (by kernel_rfl) ?_
      refine q_move rfl rfl rfl rfl ?_
      refine q_conv' rfl rfl rfl rfl Try.underlying34 Try.underlying3 (by (first | exact fits_i64 (by omega) (by omega) | exact fits_u64 (by omega) (by omega) | exact fits_u32 (by omega) (by omega) | exact fits_u8 (by omega) (by omega))) ?_
      refine q_move rfl rfl rfl rfl ?_
      refine q_conv' rfl rfl rfl rfl Try.underlying34 Try.underlying25 (by (first | exact fits_i64 (by omega) (by omega) | exact fits_u64 (by omega) (by omega) | exact fits_u32 (by omega) (by omega) | exact fits_u8 (by omega) (by omega))) ?_
      refine q_int rfl rfl rfl rfl rfl (b_quo _ (by omega) (by omega) (by (first | exact fits_i64 (by omega) (by omega) | exact fits_u64 (by omega) (by omega) | exact fits_u32 (by omega) (by omega) | exact fits_u8 (by omega) (by omega)))) ?_
      refine s_eq 46 rfl (v' := .int .u64 ((a / q : Nat) : Int)) (by first | rfl | (congr 1; omega)) ?_
      refine q_conv' rfl rfl rfl rfl Try.underlying3 Try.underlying34 (by (first | exact fits_i64 (by omega) (by omega) | exact fits_u64 (by omega) (by omega) | exact fits_u32 (by omega) (by omega) | exact fits_u8 (by omega) (by omega))) ?_
      refine q_assign rfl rfl rfl rfl ?_
      refine r_done ?_
      refine s_keep [1, 2, 8, 9] (e' := [(1, _), (2, _), (8, _), (9, _)]) rfl ?_
      refine k_blk_n ?_
      refine k_then_n ?_
      refine c_plain (.q 0 (.q 1 (.q 2 (.done)))) (by kernel_rfl) ?_
      refine q_move rfl rfl rfl rfl ?_
      refine q_int rfl rfl rfl rfl rfl (b_sub' _ (by (first | exact fits_i64 (by omega) (by omega) | exact fits_u64 (by omega) (by omega) | exact fits_u32 (by omega) (by omega) | exact fits_u8 (by omega) (by omega)))) ?_
      refine q_assign rfl rfl rfl rfl ?_
      refine r_done ?_
      refine k_then_n ?_
      rw [rep_set]
      refine loop_next (x := (i + 1, a, tl)) ((i, a / q, ((a % q : Nat) : Int) :: tl)) ?_ ?_ ?_ ?_
      · try dsimp only
        exact ⟨by rw [hdg, dg, List.append_assoc]; rfl, by rw [List.length_cons, htl]; omega, by rw [hdvv, dv], by omega, by omega⟩
      · show i < i + 1; omega
      · exact ⟨rfl, rfl, rfl, rfl, trivial⟩
      · (try simp only [List.cons_append, List.nil_append]); (repeat ((with_reducible apply Takes.cons); focus (first | (with_reducible (repeat (first | exact Take.here | apply Take.there)); done) | (repeat (first | exact Take.here | apply Take.there))))); (repeat (first | exact Takes.nil | exact Takes.self | refine takes_drop2 ?_))
    · skip
      obtain rfl : i = 0 := by omega
      refine c_exit ?_
      refine k_then_exit ?_
      refine k_then_exit ?_
      refine k_blk_here ?_
      refine k_then_n ?_
      refine c_seq ?_
      refine c_plain (.q 0 (.q 1 (.q 2 (.q 3 (.q 4 (.done)))))) (by kernel_rfl) ?_
      refine q_move rfl rfl rfl rfl ?_
      refine q_move rfl rfl rfl rfl ?_
      refine q_int rfl rfl rfl rfl rfl (b_eql _ _ _ _) ?_
      refine q_assign rfl rfl rfl rfl ?_
      refine q_assign rfl rfl rfl rfl ?_
      refine r_done ?_
      refine s_keep [6, 7] (e' := [(6, _), (7, _)]) rfl ?_
      refine k_then_n ?_
      refine c_ret ?_
      refine s_eq 7 rfl (v' := .bool (decide (dv q n k = 0))) (by rw [hdvv]; congr 1; exact decide_eq_decide.2 (by simp [dv])) ?_
      rw [show List.replicate 0 (0 : Int) ++ tl = dg q n k from by rw [hdg]; simp [dg]]
      refine ret2 rfl rfl rfl ((some ⟨b26, 0, none⟩, n)) (by first | rfl | (first | rfl | (congr 1; done) | (congr 1 <;> first | rfl | omega | (simp; done) | (simp; omega)))) (by trivial) ?_
      (repeat ((with_reducible apply Takes.cons); focus (first | (with_reducible (repeat (first | exact Take.here | apply Take.there)); done) | (repeat (first | exact Take.here | apply Take.there))))); (repeat (first | exact Takes.nil | exact Takes.self | refine takes_drop2 ?_))

theorem rlist_bad (z : Int) (q : Nat) (hbad : lenE z ≠ 0 ∨ ((q : Nat) : Int) = 0 ∧ 0 < z) : Spec Try.prog 21 [.int .i64 z, .int .u32 ((q : Nat) : Int), .int .i64 0] [] (fun (_ : Unit) => .tuple #[.slice none 0 0, .bool false]) (fun _ => True) (fun _ => []) := by
  refine spec_mk (n := 51) Try.func21 rfl rfl rfl ?_
  intro Γ w0
  simp only [argE, List.cons_append, List.nil_append, Nat.zero_add, Nat.reduceAdd]
  refine c_seq ?_
  refine c_plain (.q 0 (.q 1 (.done))) (by kernel_rfl) ?_
  refine q_assign rfl rfl rfl rfl ?_
  refine q_assign rfl rfl rfl rfl ?_
  refine r_done ?_
  refine k_then_n ?_
  refine c_seq ?_
  refine c_seq ?_
  refine c_plain (.q 0 ((.l 1 [] (.q 2 (.q 3 (.q 4 (.q 5 (.q 6 (.q 7 (.q 8 (.q 9 (.q 10 (.q 11 (.q 12 (.q 13 (.q 14 (.done))))))))))))))))) (by kernel_rfl) ?_
  refine q_move rfl rfl rfl rfl ?_
  have sp_1 := rlength_spec z
  refine l_call rfl rfl rfl rfl rfl rfl Try.call37 (sp_1) (by (repeat ((with_reducible apply Takes.cons); focus (first | (with_reducible (repeat (first | exact Take.here | apply Take.there)); done) | (repeat (first | exact Take.here | apply Take.there))))); exact Takes.nil) ?_
  rintro ⟨⟩ -
  try simp only [List.cons_append, List.nil_append]
  refine ag_nil ?_
  refine q_int rfl rfl rfl rfl rfl (b_neq _ _ _ _) ?_
  refine q_move rfl rfl rfl rfl ?_
  refine s_bool_p 13 rfl (fun g_2 => ?_) (fun g_2 => ?_)
  · skip
    refine q_skip rfl rfl rfl rfl ?_
    refine q_skip rfl rfl rfl rfl ?_
    refine q_pick_t rfl rfl rfl rfl rfl ?_
    refine q_move rfl rfl rfl rfl ?_
    refine q_skip rfl rfl rfl rfl ?_
    refine q_skip rfl rfl rfl rfl ?_
    refine q_skip rfl rfl rfl rfl ?_
    refine q_skip rfl rfl rfl rfl ?_
    refine q_skip rfl rfl rfl rfl ?_
    refine q_skip rfl rfl rfl rfl ?_
    refine q_pick_t rfl rfl rfl rfl rfl ?_
    refine r_done ?_
    refine s_keep [0, 1, 2, 24] (e' := [(0, _), (1, _), (2, _), (24, _)]) rfl ?_
    refine k_then_n ?_
    refine c_cond_t rfl ?_
    refine c_seq ?_
    refine c_plain (.q 0 (.q 1 (.done))) (by kernel_rfl) ?_
    refine q_assign rfl rfl rfl rfl ?_
    refine q_assign rfl rfl rfl rfl ?_
    refine r_done ?_
    refine s_keep [6, 7] (e' := [(6, _), (7, _)]) rfl ?_
    refine k_then_n ?_
    refine c_ret ?_
    refine k_then_ret ?_
    refine ret2 rfl rfl rfl (()) (by first | rfl | (first | rfl | (congr 1; done) | (congr 1 <;> first | rfl | omega | (simp; done) | (simp; omega)))) (by trivial) ?_
    (repeat ((with_reducible apply Takes.cons); focus (first | (with_reducible (repeat (first | exact Take.here | apply Take.there)); done) | (repeat (first | exact Take.here | apply Take.there))))); (repeat (first | exact Takes.nil | exact Takes.self | refine takes_drop2 ?_))
  · skip
    refine q_move rfl rfl rfl rfl ?_
    refine q_int rfl rfl rfl rfl rfl (b_lss _ _ _ _) ?_
    refine q_pick_f rfl rfl rfl rfl rfl ?_
    refine q_move rfl rfl rfl rfl ?_
    refine s_bool_p 17 rfl (fun hg7 => by exfalso; omega) (fun hg7 => ?_)
    refine q_move rfl rfl rfl rfl ?_
    refine q_int rfl rfl rfl rfl rfl (b_eql _ _ _ _) ?_
    refine q_move rfl rfl rfl rfl ?_
    refine s_bool_p 20 rfl (fun hg6 => ?_) (fun hg6 => by exfalso; omega)
    refine q_move rfl rfl rfl rfl ?_
    refine q_int rfl rfl rfl rfl rfl (b_gtr _ _ _ _) ?_
    refine q_pick_t rfl rfl rfl rfl rfl ?_
    refine q_pick_f rfl rfl rfl rfl rfl ?_
    refine r_done ?_
    refine s_keep [0, 1, 2, 24] (e' := [(0, _), (1, _), (2, _), (24, _)]) rfl ?_
    refine k_then_n ?_
    refine c_cond_p rfl (fun hg => ?_) (fun hg => by exfalso; omega)
    refine c_seq ?_
    refine c_plain (.q 0 (.q 1 (.done))) (by kernel_rfl) ?_
    refine q_assign rfl rfl rfl rfl ?_
    refine q_assign rfl rfl rfl rfl ?_
    refine r_done ?_
    refine s_keep [6, 7] (e' := [(6, _), (7, _)]) rfl ?_
    refine k_then_n ?_
    refine c_ret ?_
    refine k_then_ret ?_
    refine ret2 rfl rfl rfl (()) (by first | rfl | (first | rfl | (congr 1; done) | (congr 1 <;> first | rfl | omega | (simp; done) | (simp; omega)))) (by trivial) ?_
    (repeat ((with_reducible apply Takes.cons); focus (first | (with_reducible (repeat (first | exact Take.here | apply Take.there)); done) | (repeat (first | exact Take.here | apply Take.there))))); (repeat (first | exact Takes.nil | exact Takes.self | refine takes_drop2 ?_))
end Go.Ab.Sc
