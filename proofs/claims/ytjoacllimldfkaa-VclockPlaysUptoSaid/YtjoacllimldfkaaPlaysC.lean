/- What the law Plays rests on, part 3 of 5. -/
import Derived.Test.YtjoacllimldfkaaPlaysB
set_option linter.unusedVariables false
set_option linter.unusedSimpArgs false
set_option maxRecDepth 100000
namespace Go.Ab.Vp
open Go Go.Proofs Go.Ab Go.Ab.Vc Go.Ab.Rv
/-- A clock at a thread of any number. -/
def gZ (l : List Int) (t : Int) : Int := if t < 0 then 0 else l.getD t.toNat 0
theorem gZ_nat (l : List Int) (t : Nat) : gZ l (t : Int) = l.getD t 0 := by rw [gZ, if_neg (by omega), Int.toNat_natCast]
theorem gZ_tr (l : List Int) (t : Int) : gZ (tr l) t = gZ l t := by unfold gZ; rw [tr_g]
/-- What may be a thread. -/
abbrev okT (t : Int) : Prop := 0 ≤ t ∧ t < 65535
def wrE (z : Int) : Int := if okT z then 0 else 2
def stE (z v : Int) : Int := if okT z then (if maxC < v then 30 else 0) else 2
def stA (l : List Int) (z v : Int) : List Int := if okT z ∧ v ≤ maxC then stL l z.toNat v else l
theorem stA_cv {l : List Int} (h : CV l) {z v : Int} (hv : 0 ≤ v) : CV (stA l z v) := by
  unfold stA; split
  · rename_i h1; exact stL_cv h (by have := h1.1; omega) hv h1.2
  · exact h
def inA (l : List Int) (z : Int) : List Int := if okT z then icE l z.toNat else l
def inV (l : List Int) (z : Int) : Int := if okT z then icN l z.toNat else 0
def inE (l : List Int) (z : Int) : Int := if okT z then icF l z.toNat else 2
theorem inA_cv {l : List Int} (h : CV l) (z : Int) : CV (inA l z) := by
  unfold inA; split
  · rename_i h1
    unfold icE; split
    · exact h
    · rename_i h2
      have h3 := g_rng h.rng (by decide) z.toNat
      exact icL_cv h (by omega) (by omega)
  · exact h
def epV' (l : List Int) (z : Int) : Int := if okT z then ((eN l z.toNat : Nat) : Int) else 0
/-- The threads whose clocks are not 0. -/
def nz (l : List Int) : Nat → List Int
  | 0 => []
  | i + 1 => if l.getD i 0 = 0 then nz l i else nz l i ++ [(i : Int)]
theorem nz_tr (l : List Int) (i : Nat) : nz (tr l) i = nz l i := by
  induction i with
  | zero => rfl
  | succ i ih => simp only [nz, tr_g, ih]
theorem nz_len (l : List Int) (i : Nat) : (nz l i).length ≤ i := by
  induction i with
  | zero => exact Nat.le_refl _
  | succ i ih => unfold nz; split
                 · omega
                 · rw [List.length_append]; simp only [List.length_singleton]; omega
end Go.Ab.Vp
namespace Go.Ab.Vp
open Go Go.Proofs Go.Ab Go.Ab.Vc Go.Ab.Rv
theorem rat (xs : List Int) (ao : Option Addr) (n c : Nat) (A : HProp) (hr : RdS A ao (xs.flatMap encU)) (hn : xs.length = n) (z : Int) : Spec Try.prog 71 [.slice ao n c, .int .i64 z] [A] (fun (_ : Unit) => .int .u64 (gZ xs z)) (fun _ => True) (fun _ => [A]) := by
 refine spec_mk (n := 17) Try.func71 rfl rfl rfl ?_
 intro Γ w0
 simp only [argE, List.cons_append, List.nil_append, Nat.zero_add, Nat.reduceAdd]
 refine c_seq (c_plain (.q 0 (.done)) (by kernel_rfl) ?_)
 refine q_assign rfl rfl rfl rfl (r_done (k_then_n (c_seq (c_seq (c_plain (.q 0 (.q 1 (.q 2 (.q 3 (.q 4 (.q 5 (.q 6 (.q 7 (.done))))))))) (by kernel_rfl) ?_)))))
 refine q_move rfl rfl rfl rfl (q_int rfl rfl rfl rfl rfl (b_lss _ _ _ _) ?_)
 refine q_move rfl rfl rfl rfl ?_
 refine s_bool_p 7 rfl (fun hn0 => ?_) (fun hn0 => ?_)
 ·
  have hgz : gZ xs z = 0 := if_pos hn0
  refine q_skip rfl rfl rfl rfl (q_skip rfl rfl rfl rfl (q_skip rfl rfl rfl rfl (q_skip rfl rfl rfl rfl (q_pick_t rfl rfl rfl rfl rfl (r_done (s_keep [0, 1, 12] (e' := [(0, _), (1, _), (12, _)]) rfl ?_))))))
  refine k_then_n (c_cond_t rfl ?_)
  refine c_seq (c_plain (.q 0 (.done)) (by kernel_rfl) ?_)
  refine q_assign rfl rfl rfl rfl (r_done (k_then_n (c_ret (k_then_ret (ret1 rfl rfl (()) (by rw [hgz]) (by trivial) ?_)))))
  exact Tf
 obtain ⟨i, rfl⟩ := Int.eq_ofNat_of_zero_le (show 0 ≤ z by omega)
 refine q_move rfl rfl rfl rfl (q_move rfl rfl rfl rfl (q_len rfl rfl rfl rfl Try.underlying23 ?_))
 refine q_int rfl rfl rfl rfl rfl (b_geq _ _ _ _) ?_
 refine q_pick_f rfl rfl rfl rfl rfl (r_done (s_keep [0, 1, 12] (e' := [(0, _), (1, _), (12, _)]) rfl ?_))
 refine k_then_n ?_
 refine c_cond_p rfl (fun hge => ?_) (fun hge => ?_)
 ·
  have hgz : gZ xs (i : Int) = 0 := by rw [gZ_nat, g_out (by omega)]
  refine c_seq (c_plain (.q 0 (.done)) (by kernel_rfl) ?_)
  refine q_assign rfl rfl rfl rfl (r_done (k_then_n (c_ret (k_then_ret (ret1 rfl rfl (()) (by rw [hgz]) (by trivial) ?_)))))
  exact Tf
 obtain ⟨x, hx⟩ := get_lt (l := xs) (i := i) (by omega)
 refine c_skip (k_then_n (c_seq (c_plain (.q 0 (.q 1 (.q 2 (.q 3 (.q 4 (.done)))))) (by kernel_rfl) ?_)))
 refine q_move rfl rfl rfl rfl (q_move rfl rfl rfl rfl (q_idxR (sz := 0) (k := i) rfl rfl rfl rfl rfl Try.underlying23 Try.sizeOf30 (hr) hx encU_len (by first | rfl | omega) (by omega) ?_))
 intro ib15 io15 _ hd15
 refine q_load rfl rfl rfl rfl Try.isAgg30 Tk (hd15 0 (.int .u64 x) rfl) ?_
 refine q_assign rfl rfl rfl rfl (r_done (s_keep [4] (e' := [(4, _)]) rfl ?_))
 refine k_then_n (c_ret (ret1 rfl rfl (()) (by rw [gZ_nat, Vc.getD_mem hx]) (by trivial) ?_))
 exact Tf
theorem rget (b : Nat) (t : List Int) (z : Int) : Spec Try.prog 57 [.pointer (some ⟨b, 0, none⟩), .int .i64 z] [ckB b t] (fun (_ : Unit) => .int .u64 (gZ t z)) (fun _ => True) (fun _ => [ckB b t]) := by
 refine spec_mk (n := 13) Try.func57 rfl rfl rfl ?_
 intro Γ w0
 simp only [argE, List.cons_append, List.nil_append, Nat.zero_add, Nat.reduceAdd]
 refine c_seq (c_plain (.q 0 (.done)) (by kernel_rfl) ?_)
 refine q_assign rfl rfl rfl rfl (r_done (k_then_n (c_seq (c_seq (c_plain (.q 0 (.q 1 (.done))) (by kernel_rfl) ?_)))))
 refine q_move rfl rfl rfl rfl (q_eq_nil rfl rfl rfl rfl Try.underlying58 ?_)
 refine s_eq 6 rfl (v' := .bool false) rfl ?_
 refine r_done (k_then_n (c_cond_f rfl ?_))
 refine c_skip (k_then_n (c_seq (ck_open (b := b) (t := t) Tk fun ao cap l ho ht => ?_)))
 have hll := ho.1
 refine c_plain (.q 0 (.q 1 (.q 2 (.q 3 (.q 4 ((.l 5 [] (.q 6 (.done))))))))) (by kernel_rfl) ?_
 refine q_move rfl rfl rfl rfl (q_nil_p rfl rfl rfl rfl (q_field (k := 0) rfl rfl rfl rfl Try.underlying81 rfl Try.sizeOf23 rfl ?_))
 refine q_load_c (j := 0) rfl rfl rfl rfl Try.isAgg23 Tk Az (by rfl) ?_
 refine q_move rfl rfl rfl rfl (s_take (A := own 1 encU ao cap l) Tk ?_)
 refine own_fc fun f_1a f_1b f_1c => ?_
 have sp_2 := Vp.rat l ao l.length cap (own 1 encU ao cap l) (rds_own encU_len (fun h => (f_1b h).1) f_1c) Ln z
 refine l_call rfl rfl rfl rfl rfl rfl Try.call71 (sp_2) Ts ?_
 rintro ⟨⟩ -
 try simp only [List.cons_append, List.nil_append]
 refine ag_nil (q_assign rfl rfl rfl rfl (r_done (s_keep [4] (e' := [(4, _)]) rfl ?_)))
 refine k_then_n (c_ret (ck_fold (b := b) (ao := ao) (cap := cap) (l := l) t Ts (by first | rfl | simp) ho ht ?_))
 refine ret1 rfl rfl (()) (by rw [← ht, gZ_tr]) (by trivial) ?_
 exact Tf
theorem rmay (z : Int) : Spec Try.prog 68 [.int .i64 z] [] (fun (_ : Unit) => .bool (decide (okT z))) (fun _ => True) (fun _ => []) := by
 refine spec_mk (n := 9) Try.func68 rfl rfl rfl ?_
 intro Γ w0
 simp only [argE, List.cons_append, List.nil_append, Nat.zero_add, Nat.reduceAdd]
 refine c_seq (c_plain (.q 0 (.done)) (by kernel_rfl) ?_)
 refine q_assign rfl rfl rfl rfl (r_done (k_then_n (c_seq (c_plain (.q 0 (.q 1 (.q 2 (.q 3 (.q 4 (.q 5 (.q 6 (.done)))))))) (by kernel_rfl) ?_))))
 refine q_move rfl rfl rfl rfl (q_int rfl rfl rfl rfl rfl (b_geq _ _ _ _) ?_)
 refine q_move rfl rfl rfl rfl ?_
 refine s_bool_p 5 rfl (fun g_1 => ?_) (fun g_1 => ?_)
 ·
  refine q_move rfl rfl rfl rfl (q_int rfl rfl rfl rfl rfl (b_lss _ _ _ _) ?_)
  refine q_pick_t rfl rfl rfl rfl rfl (q_assign rfl rfl rfl rfl (r_done (s_keep [2] (e' := [(2, _)]) rfl ?_)))
  refine k_then_n (c_ret (ret1 rfl rfl (()) (by congr 1; rw [Bool.eq_iff_iff]; simp; try omega) (by trivial) ?_))
  exact Tf
 refine q_skip rfl rfl rfl rfl (q_skip rfl rfl rfl rfl (q_pick_f rfl rfl rfl rfl rfl (q_assign rfl rfl rfl rfl (r_done (s_keep [2] (e' := [(2, _)]) rfl ?_)))))
 refine k_then_n (c_ret (ret1 rfl rfl (()) (by congr 1; rw [Bool.eq_iff_iff]; simp; try omega) (by trivial) ?_))
 exact Tf
theorem rset (b : Nat) (t : List Int) (z v : Int) (hv0 : 0 ≤ v) : Spec Try.prog 51 [.pointer (some ⟨b, 0, none⟩), .int .i64 z, .int .u64 v] [ckB b t] (fun (_ : Unit) => .int .i64 (stE z v)) (fun _ => True) (fun _ => [ckB b (stA t z v)]) := by
 refine spec_mk (n := 18) Try.func51 rfl rfl rfl ?_
 intro Γ w0
 simp only [argE, List.cons_append, List.nil_append, Nat.zero_add, Nat.reduceAdd]
 refine c_seq (c_plain (.q 0 (.done)) (by kernel_rfl) ?_)
 refine q_assign rfl rfl rfl rfl (r_done (k_then_n (c_seq (c_seq (c_plain (.q 0 (.q 1 (.done))) (by kernel_rfl) ?_)))))
 refine q_move rfl rfl rfl rfl (q_eq_nil rfl rfl rfl rfl Try.underlying58 ?_)
 refine s_eq 8 rfl (v' := .bool false) rfl ?_
 refine r_done (k_then_n (c_cond_f rfl ?_))
 refine c_skip (k_then_n (c_seq (c_seq (c_plain (.q 0 ((.l 1 [] (.q 2 (.done))))) (by kernel_rfl) ?_))))
 refine q_move rfl rfl rfl rfl ?_
 have sp_1 := Vp.rmay z
 refine l_call rfl rfl rfl rfl rfl rfl Try.call68 (sp_1) Ts ?_
 rintro ⟨⟩ -
 try simp only [List.cons_append, List.nil_append]
 refine ag_nil (q_not rfl rfl rfl rfl ?_)
 refine r_done (s_keep [0, 1, 2, 11] (e' := [(0, _), (1, _), (2, _), (11, _)]) rfl ?_)
 refine k_then_n ?_
 refine c_cond_np rfl (fun hk => ?_) (fun hk => ?_)
 ·
  rw [show stE z v = 2 from if_neg hk, show stA t z v = t from if_neg (fun h => hk h.1)]
  refine c_seq (c_plain (.q 0 (.done)) (by kernel_rfl) ?_)
  refine q_assign rfl rfl rfl rfl (r_done (s_keep [6] (e' := [(6, _)]) rfl ?_))
  refine k_then_n (c_ret (k_then_ret (ret1 rfl rfl (()) (by first | rfl | (first | rfl | (congr 1; done) | (congr 1 <;> first | rfl | omega | (simp; done) | (simp; omega)))) (by trivial) ?_)))
  exact Tf
 obtain ⟨i, rfl⟩ := Int.eq_ofNat_of_zero_le hk.1
 have hi : i < 65535 := by have := hk.2; omega
 refine c_skip (k_then_n (c_seq (c_seq (c_plain (.q 0 (.q 1 (.done))) (by kernel_rfl) ?_))))
 refine q_move rfl rfl rfl rfl (q_int rfl rfl rfl rfl rfl (b_gtr _ _ _ _) ?_)
 refine r_done (k_then_n ?_)
 refine c_cond_p rfl (fun hv => ?_) (fun hv => ?_)
 ·
  rw [show stE (i : Int) v = 30 from by rw [stE, if_pos hk, if_pos hv], show stA t (i : Int) v = t from if_neg (fun h => by have := h.2; simp only [maxC] at this; omega)]
  refine c_seq (c_plain (.q 0 (.done)) (by kernel_rfl) ?_)
  refine q_assign rfl rfl rfl rfl (r_done (s_keep [6] (e' := [(6, _)]) rfl ?_))
  refine k_then_n (c_ret (k_then_ret (ret1 rfl rfl (()) (by first | rfl | (first | rfl | (congr 1; done) | (congr 1 <;> first | rfl | omega | (simp; done) | (simp; omega)))) (by trivial) ?_)))
  exact Tf
 have hv2 : v ≤ maxC := by simp only [maxC]; omega
 rw [show stE (i : Int) v = 0 from by rw [stE, if_pos hk, if_neg hv], show stA t (i : Int) v = stL t i v from by rw [stA, if_pos ⟨hk, hv2⟩, Int.toNat_natCast]]
 refine c_skip (k_then_n (c_seq (ck_open (b := b) (t := t) Tk fun ao cap l ho ht => ?_)))
 have hll := ho.1
 refine c_plain (.q 0 (.q 1 (.q 2 ((.l 3 [] (.done)))))) (by kernel_rfl) ?_
 refine q_move rfl rfl rfl rfl (q_move rfl rfl rfl rfl (q_move rfl rfl rfl rfl ?_))
 have sp_2 := Rv.put_open b ao cap l ho i v (by omega)
 refine l_call rfl rfl rfl rfl rfl rfl Try.call69 (sp_2) Ts ?_
 rintro ⟨pa, pc⟩ -
 try simp only [List.cons_append, List.nil_append]
 refine ag_nil (r_done (s_keep [] (e' := []) rfl ?_))
 refine k_then_n (c_seq (c_plain (.q 0 (.done)) (by kernel_rfl) ?_))
 refine q_assign rfl rfl rfl rfl (r_done (k_then_n (c_ret (ck_fold (b := b) (ao := pa) (cap := pc) (l := (withL l i v)) (stL t i v) Ts (by first | rfl | simp) (ok_with ho hi hv0 hv2) (by rw [tr_with ho hi hv0 hv2, ht]) ?_))))
 refine ret1 rfl rfl (()) (by first | rfl | (first | rfl | (congr 1; done) | (congr 1 <;> first | rfl | omega | (simp; done) | (simp; omega)))) (by trivial) ?_
 exact Tf
theorem rinc (b : Nat) (t : List Int) (z : Int) : Spec Try.prog 52 [.pointer (some ⟨b, 0, none⟩), .int .i64 z] [ckB b t] (fun (_ : Unit) => .tuple #[.int .u64 (inV t z), .int .i64 (inE t z)]) (fun _ => True) (fun _ => [ckB b (inA t z)]) := by
 refine spec_mk (n := 24) Try.func52 rfl rfl rfl ?_
 intro Γ w0
 simp only [argE, List.cons_append, List.nil_append, Nat.zero_add, Nat.reduceAdd]
 refine c_seq (c_plain (.q 0 (.q 1 (.done))) (by kernel_rfl) ?_)
 refine q_assign rfl rfl rfl rfl (q_assign rfl rfl rfl rfl (r_done (k_then_n (c_seq (c_seq (c_plain (.q 0 (.q 1 (.done))) (by kernel_rfl) ?_))))))
 refine q_move rfl rfl rfl rfl (q_eq_nil rfl rfl rfl rfl Try.underlying58 ?_)
 refine s_eq 8 rfl (v' := .bool false) rfl ?_
 refine r_done (k_then_n (c_cond_f rfl ?_))
 refine c_skip (k_then_n (c_seq (c_seq (c_plain (.q 0 ((.l 1 [] (.q 2 (.done))))) (by kernel_rfl) ?_))))
 refine q_move rfl rfl rfl rfl ?_
 have sp_1 := Vp.rmay z
 refine l_call rfl rfl rfl rfl rfl rfl Try.call68 (sp_1) Ts ?_
 rintro ⟨⟩ -
 try simp only [List.cons_append, List.nil_append]
 refine ag_nil (q_not rfl rfl rfl rfl ?_)
 refine r_done (s_keep [0, 1, 11] (e' := [(0, _), (1, _), (11, _)]) rfl ?_)
 refine k_then_n ?_
 refine c_cond_np rfl (fun hk => ?_) (fun hk => ?_)
 ·
  rw [show inE t z = 2 from if_neg hk, show inV t z = 0 from if_neg hk, show inA t z = t from if_neg hk]
  refine c_seq (c_plain (.q 0 (.q 1 (.done))) (by kernel_rfl) ?_)
  refine q_assign rfl rfl rfl rfl (q_assign rfl rfl rfl rfl (r_done (k_then_n (c_ret (k_then_ret (ret2 rfl rfl rfl (()) (by first | rfl | (first | rfl | (congr 1; done) | (congr 1 <;> first | rfl | omega | (simp; done) | (simp; omega)))) (by trivial) ?_))))))
  exact Tf
 obtain ⟨i, rfl⟩ := Int.eq_ofNat_of_zero_le hk.1
 have hi : i < 65535 := by have := hk.2; omega
 rw [show inE t (i : Int) = icF t i from by rw [inE, if_pos hk, Int.toNat_natCast], show inV t (i : Int) = icN t i from by rw [inV, if_pos hk, Int.toNat_natCast], show inA t (i : Int) = icE t i from by rw [inA, if_pos hk, Int.toNat_natCast]]
 refine c_skip (k_then_n (c_seq (ck_open (b := b) (t := t) Tk fun ao cap l ho ht => ?_)))
 have hll := ho.1
 refine c_plain (.q 0 (.q 1 ((.l 2 [] (.q 3 (.done)))))) (by kernel_rfl) ?_
 refine q_move rfl rfl rfl rfl (q_move rfl rfl rfl rfl ?_)
 have sp_2 := Rv.get_open b ao cap l ho i
 refine l_call rfl rfl rfl rfl rfl rfl Try.call57 (sp_2) Ts ?_
 rintro ⟨⟩ -
 try simp only [List.cons_append, List.nil_append]
 refine ag_nil (q_assign rfl rfl rfl rfl (r_done (s_keep [0, 1, 6] (e' := [(0, _), (1, _), (6, _)]) rfl ?_)))
 refine k_then_n (c_seq (c_seq ?_))
 have hgg := ok_g ho i
 have hlg : l.getD i 0 = t.getD i 0 := by rw [← ht, tr_g]
 simp only [maxC] at hgg
 refine c_plain (.q 0 (.q 1 (.done))) (by kernel_rfl) ?_
 refine q_move rfl rfl rfl rfl (q_int rfl rfl rfl rfl rfl (b_eql _ _ _ _) ?_)
 refine r_done (k_then_n ?_)
 refine c_cond_p rfl (fun hm => ?_) (fun hm => ?_)
 ·
  have hm2 : t.getD i 0 = maxC := hlg ▸ hm
  rw [show icE t i = t from if_pos hm2, show icN t i = 0 from if_pos hm2, show icF t i = 30 from if_pos hm2]
  refine c_seq (c_plain (.q 0 (.q 1 (.done))) (by kernel_rfl) ?_)
  refine q_assign rfl rfl rfl rfl (q_assign rfl rfl rfl rfl (r_done (s_keep [4, 5] (e' := [(4, _), (5, _)]) rfl ?_)))
  refine k_then_n (c_ret (k_then_ret (ck_fold (b := b) (ao := ao) (cap := cap) (l := l) t Ts (by first | rfl | simp) ho ht ?_)))
  refine ret2 rfl rfl rfl (()) (by first | rfl | (first | rfl | (congr 1; done) | (congr 1 <;> first | rfl | omega | (simp; done) | (simp; omega)))) (by trivial) ?_
  exact Tf
 have hm2 : ¬ t.getD i 0 = maxC := hlg ▸ hm
 rw [show icE t i = icL t i from if_neg hm2, show icN t i = t.getD i 0 + 1 from if_neg hm2, show icF t i = 0 from if_neg hm2]
 have hcx : l.getD i 0 + 1 ≤ maxC := by simp only [maxC]; omega
 refine c_skip (k_then_n (c_seq (c_plain (.q 0 (.q 1 (.q 2 (.q 3 ((.l 4 [] (.done))))))) (by kernel_rfl) ?_)))
 refine q_move rfl rfl rfl rfl (q_move rfl rfl rfl rfl (q_move rfl rfl rfl rfl (q_int rfl rfl rfl rfl rfl (b_add' _ (by exact fits_u64 (by omega) (by omega))) ?_)))
 have sp_3 := Rv.put_open b ao cap l ho i ((l.getD i 0) + 1) (by omega)
 refine l_call rfl rfl rfl rfl rfl rfl Try.call69 (sp_3) Ts ?_
 rintro ⟨pa, pc⟩ -
 try simp only [List.cons_append, List.nil_append]
 refine ag_nil (r_done (s_keep [6] (e' := [(6, _)]) rfl ?_))
 refine k_then_n (c_seq (c_plain (.q 0 (.q 1 (.q 2 (.q 3 (.done))))) (by kernel_rfl) ?_))
 refine q_move rfl rfl rfl rfl (q_int rfl rfl rfl rfl rfl (b_add' _ (by exact fits_u64 (by omega) (by omega))) ?_)
 refine q_assign rfl rfl rfl rfl (q_assign rfl rfl rfl rfl (r_done (k_then_n (c_ret (ck_fold (b := b) (ao := pa) (cap := pc) (l := (withL l i (l.getD i 0 + 1))) (icL t i) Ts (by first | rfl | simp) (ok_with ho hi (by omega) hcx) (by rw [tr_with ho hi (by omega) hcx, ht, hlg]; exact ic_st (by rw [← ht]; exact ok_cv ho) hi (by simp only [maxC] at hm2 ⊢; omega)) ?_)))))
 refine ret2 rfl rfl rfl (()) (by rw [hlg]) (by trivial) ?_
 exact Tf
theorem rclear (b : Nat) (t : List Int) : Spec Try.prog 53 [.pointer (some ⟨b, 0, none⟩)] [ckB b t] (fun (_ : Unit) => .tuple #[]) (fun _ => True) (fun _ => [ckB b ([])]) := by
 refine spec_mk (n := 7) Try.func53 rfl rfl rfl ?_
 intro Γ w0
 simp only [argE, List.cons_append, List.nil_append, Nat.zero_add, Nat.reduceAdd]
 refine c_seq (c_plain (.q 0 (.q 1 (.done))) (by kernel_rfl) ?_)
 refine q_move rfl rfl rfl rfl (q_ne_nil rfl rfl rfl rfl Try.underlying58 ?_)
 refine s_eq 3 rfl (v' := .bool true) rfl ?_
 refine r_done (k_then_n (c_cond_t rfl ?_))
 refine ck_open (b := b) (t := t) Tk fun ao cap l ho ht => ?_
 have hll := ho.1
 refine c_plain (.q 0 (.q 1 (.q 2 ((.l 3 [] (.done)))))) (by kernel_rfl) ?_
 refine q_move rfl rfl rfl rfl (q_nil_p rfl rfl rfl rfl (q_field (k := 0) rfl rfl rfl rfl Try.underlying81 rfl Try.sizeOf23 rfl ?_))
 refine l_store (j := 0) rfl rfl rfl rfl Try.sizeOf23 (us := [_]) rfl rfl rfl Tk Az (by first | decide | (simp; done) | omega) ?_
 simp only [setL, List.set]
 refine ag_nil (r_done (s_keep [] (e' := []) rfl ?_))
 refine ret_end ?_
 refine s_heap (fun _ h => own_nil (sz := 1) (enc := encU) h) ?_
 refine ck_fold (b := b) (ao := none) (cap := 0) (l := []) ([] : List Int) Ts (by first | rfl | simp) ok_nil rfl ?_
 refine ret0 rfl (()) (by first | rfl | (first | rfl | (congr 1; done) | (congr 1 <;> first | rfl | omega | (simp; done) | (simp; omega)))) (by trivial) ?_
 exact Tf
theorem rleqs (b : Nat) (t : List Int) : Spec Try.prog 58 [.pointer (some ⟨b, 0, none⟩), .pointer (some ⟨b, 0, none⟩)] [ckB b t] (fun (_ : Unit) => .bool true) (fun _ => True) (fun _ => [ckB b t]) := by
 refine spec_mk (n := 32) Try.func58 rfl rfl rfl ?_
 intro Γ w0
 simp only [argE, List.cons_append, List.nil_append, Nat.zero_add, Nat.reduceAdd]
 refine c_seq (c_plain (.q 0 (.done)) (by kernel_rfl) ?_)
 refine q_assign rfl rfl rfl rfl (r_done (k_then_n (c_seq (c_seq (c_plain (.q 0 (.q 1 (.q 2 (.q 3 (.q 4 (.q 5 (.done))))))) (by kernel_rfl) ?_)))))
 refine q_move rfl rfl rfl rfl (q_eq_nil rfl rfl rfl rfl Try.underlying58 ?_)
 refine s_eq 7 rfl (v' := .bool false) rfl ?_
 refine q_move rfl rfl rfl rfl (q_move rfl rfl rfl rfl (q_eq_nil rfl rfl rfl rfl Try.underlying58 ?_))
 refine s_eq 10 rfl (v' := .bool false) rfl ?_
 refine q_pick_f rfl rfl rfl rfl rfl (r_done (s_keep [0, 1, 11] (e' := [(0, _), (1, _), (11, _)]) rfl ?_))
 refine k_then_n (c_cond_f rfl ?_)
 refine c_skip (k_then_n (c_seq (c_seq (ck_open (b := b) (t := t) Tk fun ao cap l ho ht => ?_))))
 have hll := ho.1
 refine c_plain (.q 0 (.done)) (by kernel_rfl) ?_
 refine q_assign rfl rfl rfl rfl (r_done (k_then_n (c_block ?_)))
 refine c_loop2 (α := Nat) (fun (k : Nat) => k ≤ l.length) (fun (k : Nat) => [(5, .int .i64 ((k : Nat) : Int))]) (fun (k : Nat) => []) (fun (k : Nat) => l.length - k) [0, 1] (er := [(0, _), (1, _)]) rfl (0) ?_ (by exact ⟨rfl, trivial⟩) (by (try dsimp only); (try simp only [Nat.add_zero, Nat.zero_add]); (repeat ((with_reducible apply Z2); focus (first | (with_reducible (repeat (first | exact Z0 | apply Z1)); done) | (repeat (first | exact Z0 | apply Z1))))); exact Z3) ?_
 · exact Nat.zero_le _
 rintro k hle_k
 try simp only [List.cons_append, List.nil_append]
 refine c_seq (c_seq (c_plain (.q 0 (.q 1 (.q 2 (.q 3 (.q 4 (.q 5 (.q 6 (.done)))))))) (by kernel_rfl) ?_))
 refine q_move rfl rfl rfl rfl (q_move rfl rfl rfl rfl (q_nil_p rfl rfl rfl rfl (q_field (k := 0) rfl rfl rfl rfl Try.underlying81 rfl Try.sizeOf23 rfl ?_)))
 refine q_load_c (j := 0) rfl rfl rfl rfl Try.isAgg23 Tk Az (by rfl) ?_
 refine q_len rfl rfl rfl rfl Try.underlying23 ?_
 refine q_int rfl rfl rfl rfl rfl (b_lss _ _ _ _) ?_
 refine r_done (s_keep [0, 1, 5, 18] (e' := [(0, _), (1, _), (5, _), (18, _)]) rfl ?_)
 refine k_then_n ?_
 refine c_cond_p rfl (fun hlt => ?_) (fun hlt => ?_)
 ·
  refine c_skip (k_then_n (c_seq (c_block (c_seq (c_draw rfl (.q 0 (.q 1 (.q 2 (.q 3 (.q 4 (.q 5 (.q 6 (.q 7 (.q 8 ((.l 9 [3, 6] (.q 10 (.done))))))))))))) (by kernel_rfl) ?_)))))
  refine q_move rfl rfl rfl rfl (q_nil_p rfl rfl rfl rfl (q_field (k := 0) rfl rfl rfl rfl Try.underlying81 rfl Try.sizeOf23 rfl ?_))
  refine q_load_c (j := 0) rfl rfl rfl rfl Try.isAgg23 Tk Az (by rfl) ?_
  refine q_move rfl rfl rfl rfl ?_
  obtain ⟨x, hx⟩ := get_lt (l := l) (i := k) (by first | omega | (simp; done) | (simp; omega))
  refine q_idxO (sz := 0) (k := k) (enc := encU) (xs := l) rfl rfl rfl rfl rfl Try.underlying23 Try.sizeOf30 hx (by first | rfl | omega) (by omega) Tk ?_
  intro ib26 io26 ha26 hl26 hc26
  refine q_load_O (v := (.int .u64 x)) (j := 0) (k' := k) (enc := encU) (off := io26) rfl rfl rfl rfl Try.isAgg30 ha26 encU_len hx Tk (by first | rfl | exact (Nat.add_zero _).symm | omega) (by rfl) ?_
  refine q_move rfl rfl rfl rfl (q_move rfl rfl rfl rfl ?_)
  have sp_1 := Rv.get_open b ao cap l ho k
  refine l_call rfl rfl rfl rfl rfl rfl Try.call57 (sp_1) Ts ?_
  rintro ⟨⟩ -
  try simp only [List.cons_append, List.nil_append]
  refine ag_load_c (q := 0) rfl rfl rfl Try.isAgg23 Tk Az (by rfl) ?_
  refine ag_load_O (v := (.int .u64 x)) (j := 0) (k' := k) (enc := encU) (off := io26) rfl rfl rfl Try.isAgg30 ha26 encU_len hx Tk (by first | rfl | exact (Nat.add_zero _).symm | omega) (by rfl) ?_
  refine ag_nil (q_int rfl rfl rfl rfl rfl (b_gtr _ _ _ _) ?_)
  refine r_done (s_keep [0, 1, 5, 31] (e' := [(0, _), (1, _), (5, _), (31, _)]) rfl ?_)
  refine k_then_n ?_
  refine c_cond_p rfl (fun hg => by exfalso; rw [Rv.getD_of hx] at hg; omega) (fun hg => ?_)
  refine c_skip (k_blk_n (k_then_n (c_plain (.q 0 (.q 1 (.q 2 (.done)))) (by kernel_rfl) ?_)))
  refine q_move rfl rfl rfl rfl (q_int rfl rfl rfl rfl rfl (b_add' _ (by exact fits_i64 (by omega) (by omega))) ?_)
  refine q_assign rfl rfl rfl rfl (r_done (k_then_n ?_))
  refine loop_next (x := k) (k + 1) ?_ ?_ ?_ ?_
  · exact by show k + 1 ≤ l.length; omega
  · show l.length - (k + 1) < l.length - k; omega
  · exact ⟨rfl, rfl, rfl, trivial⟩
  · (try simp only [List.cons_append, List.nil_append]); exact Tf
 refine c_exit (k_then_exit (k_then_exit (k_blk_here (k_then_n (c_seq (c_plain (.q 0 (.done)) (by kernel_rfl) ?_))))))
 refine q_assign rfl rfl rfl rfl (r_done (s_keep [4] (e' := [(4, _)]) rfl ?_))
 refine k_then_n (c_ret (ck_fold (b := b) (ao := ao) (cap := cap) (l := l) t Ts (by first | rfl | simp) ho ht ?_))
 refine ret1 rfl rfl (()) (by first | rfl | (first | rfl | (congr 1; done) | (congr 1 <;> first | rfl | omega | (simp; done) | (simp; omega)))) (by trivial) ?_
 exact Tf
theorem rleqn (a : Option Addr) : Spec Try.prog 58 [.pointer none, .pointer a] [] (fun (_ : Unit) => .bool false) (fun _ => True) (fun _ => []) := by
 refine spec_mk (n := 32) Try.func58 rfl rfl rfl ?_
 intro Γ w0
 simp only [argE, List.cons_append, List.nil_append, Nat.zero_add, Nat.reduceAdd]
 refine c_seq (c_plain (.q 0 (.done)) (by kernel_rfl) ?_)
 refine q_assign rfl rfl rfl rfl (r_done (k_then_n (c_seq (c_seq (c_plain (.q 0 (.q 1 (.q 2 (.q 3 (.q 4 (.q 5 (.done))))))) (by kernel_rfl) ?_)))))
 refine q_move rfl rfl rfl rfl (q_eq_nil rfl rfl rfl rfl Try.underlying58 ?_)
 refine s_eq 7 rfl (v' := .bool true) rfl ?_
 refine q_move rfl rfl rfl rfl (q_skip rfl rfl rfl rfl (q_skip rfl rfl rfl rfl (q_pick_t rfl rfl rfl rfl rfl (r_done (s_keep [0, 1, 11] (e' := [(0, _), (1, _), (11, _)]) rfl ?_)))))
 refine k_then_n (c_cond_t rfl ?_)
 refine c_seq (c_plain (.q 0 (.done)) (by kernel_rfl) ?_)
 refine q_assign rfl rfl rfl rfl (r_done (k_then_n (c_ret (k_then_ret (ret1 rfl rfl (()) (by first | rfl | (first | rfl | (congr 1; done) | (congr 1 <;> first | rfl | omega | (simp; done) | (simp; omega)))) (by trivial) ?_)))))
 exact Tf
theorem rleqm (b : Nat) : Spec Try.prog 58 [.pointer (some ⟨b, 0, none⟩), .pointer none] [] (fun (_ : Unit) => .bool false) (fun _ => True) (fun _ => []) := by
 refine spec_mk (n := 32) Try.func58 rfl rfl rfl ?_
 intro Γ w0
 simp only [argE, List.cons_append, List.nil_append, Nat.zero_add, Nat.reduceAdd]
 refine c_seq (c_plain (.q 0 (.done)) (by kernel_rfl) ?_)
 refine q_assign rfl rfl rfl rfl (r_done (k_then_n (c_seq (c_seq (c_plain (.q 0 (.q 1 (.q 2 (.q 3 (.q 4 (.q 5 (.done))))))) (by kernel_rfl) ?_)))))
 refine q_move rfl rfl rfl rfl (q_eq_nil rfl rfl rfl rfl Try.underlying58 ?_)
 refine s_eq 7 rfl (v' := .bool false) rfl ?_
 refine q_move rfl rfl rfl rfl (q_move rfl rfl rfl rfl (q_eq_nil rfl rfl rfl rfl Try.underlying58 ?_))
 refine s_eq 10 rfl (v' := .bool true) rfl ?_
 refine q_pick_f rfl rfl rfl rfl rfl (r_done (s_keep [0, 1, 11] (e' := [(0, _), (1, _), (11, _)]) rfl ?_))
 refine k_then_n (c_cond_t rfl ?_)
 refine c_seq (c_plain (.q 0 (.done)) (by kernel_rfl) ?_)
 refine q_assign rfl rfl rfl rfl (r_done (k_then_n (c_ret (k_then_ret (ret1 rfl rfl (()) (by first | rfl | (first | rfl | (congr 1; done) | (congr 1 <;> first | rfl | omega | (simp; done) | (simp; omega)))) (by trivial) ?_)))))
 exact Tf
theorem requal (b c : Nat) (t u : List Int) (hb : CV t) (hc : CV u) : Spec Try.prog 59 [.pointer (some ⟨b, 0, none⟩), .pointer (some ⟨c, 0, none⟩)] [ckB b t, ckB c u] (fun (_ : Unit) => .bool (decide (t = u))) (fun _ => True) (fun _ => [ckB b t, ckB c u]) := by
 refine spec_mk (n := 13) Try.func59 rfl rfl rfl ?_
 intro Γ w0
 simp only [argE, List.cons_append, List.nil_append, Nat.zero_add, Nat.reduceAdd]
 refine c_seq (c_plain (.q 0 (.done)) (by kernel_rfl) ?_)
 refine q_assign rfl rfl rfl rfl (r_done (k_then_n (c_seq (c_plain (.q 0 (.q 1 ((.l 2 [] (.q 3 (.q 4 (.q 5 ((.l 6 [] (.q 7 (.q 8 (.done)))))))))))) (by kernel_rfl) ?_))))
 refine q_move rfl rfl rfl rfl (q_move rfl rfl rfl rfl ?_)
 have sp_1 := Rv.leq_spec b c t u
 refine l_call rfl rfl rfl rfl rfl rfl Try.call58 (sp_1) Ts ?_
 rintro ⟨⟩ -
 try simp only [List.cons_append, List.nil_append]
 refine ag_nil (q_move rfl rfl rfl rfl ?_)
 refine s_bool_p 8 rfl (fun h1 => ?_) (fun h1 => ?_)
 ·
  refine q_move rfl rfl rfl rfl (q_move rfl rfl rfl rfl ?_)
  have sp_2 := Rv.leq_spec c b u t
  refine l_call rfl rfl rfl rfl rfl rfl Try.call58 (sp_2) Ts ?_
  rintro ⟨⟩ -
  try simp only [List.cons_append, List.nil_append]
  refine ag_nil (q_pick_t rfl rfl rfl rfl rfl (q_assign rfl rfl rfl rfl (r_done (s_keep [4] (e' := [(4, _)]) rfl ?_))))
  refine k_then_n (c_ret (ret1 rfl rfl (()) (by congr 1; rw [Bool.eq_iff_iff]; simp only [decide_eq_true_eq, Bool.false_eq_true]; first | exact ⟨fun h => leq_anti hb hc h1 h, fun h => by rw [h]; exact leq_refl _⟩ | exact ⟨fun h => h.elim, fun h => h1 (by rw [h]; exact leq_refl _)⟩) (by trivial) ?_))
  exact Tf
 refine q_skip rfl rfl rfl rfl (q_skip rfl rfl rfl rfl (l_skip rfl rfl rfl rfl ?_))
 refine q_pick_f rfl rfl rfl rfl rfl (q_assign rfl rfl rfl rfl (r_done (s_keep [4] (e' := [(4, _)]) rfl ?_)))
 refine k_then_n (c_ret (ret1 rfl rfl (()) (by congr 1; rw [Bool.eq_iff_iff]; simp only [decide_eq_true_eq, Bool.false_eq_true]; first | exact ⟨fun h => leq_anti hb hc h1 h, fun h => by rw [h]; exact leq_refl _⟩ | exact ⟨fun h => h.elim, fun h => h1 (by rw [h]; exact leq_refl _)⟩) (by trivial) ?_))
 exact Tf
theorem requals (b : Nat) (t : List Int) : Spec Try.prog 59 [.pointer (some ⟨b, 0, none⟩), .pointer (some ⟨b, 0, none⟩)] [ckB b t] (fun (_ : Unit) => .bool true) (fun _ => True) (fun _ => [ckB b t]) := by
 refine spec_mk (n := 13) Try.func59 rfl rfl rfl ?_
 intro Γ w0
 simp only [argE, List.cons_append, List.nil_append, Nat.zero_add, Nat.reduceAdd]
 refine c_seq (c_plain (.q 0 (.done)) (by kernel_rfl) ?_)
 refine q_assign rfl rfl rfl rfl (r_done (k_then_n (c_seq (c_plain (.q 0 (.q 1 ((.l 2 [] (.q 3 (.q 4 (.q 5 ((.l 6 [] (.q 7 (.q 8 (.done)))))))))))) (by kernel_rfl) ?_))))
 refine q_move rfl rfl rfl rfl (q_move rfl rfl rfl rfl ?_)
 have sp_1 := Vp.rleqs b t
 refine l_call rfl rfl rfl rfl rfl rfl Try.call58 (sp_1) Ts ?_
 rintro ⟨⟩ -
 try simp only [List.cons_append, List.nil_append]
 refine ag_nil (q_move rfl rfl rfl rfl (q_move rfl rfl rfl rfl (q_move rfl rfl rfl rfl ?_)))
 have sp_2 := Vp.rleqs b t
 refine l_call rfl rfl rfl rfl rfl rfl Try.call58 (sp_2) Ts ?_
 rintro ⟨⟩ -
 try simp only [List.cons_append, List.nil_append]
 refine ag_nil (q_pick_t rfl rfl rfl rfl rfl (q_assign rfl rfl rfl rfl (r_done (s_keep [4] (e' := [(4, _)]) rfl ?_))))
 refine k_then_n (c_ret (ret1 rfl rfl (()) (by first | rfl | (first | rfl | (congr 1; done) | (congr 1 <;> first | rfl | omega | (simp; done) | (simp; omega)))) (by trivial) ?_))
 exact Tf
theorem requaln (a : Option Addr) : Spec Try.prog 59 [.pointer none, .pointer a] [] (fun (_ : Unit) => .bool false) (fun _ => True) (fun _ => []) := by
 refine spec_mk (n := 13) Try.func59 rfl rfl rfl ?_
 intro Γ w0
 simp only [argE, List.cons_append, List.nil_append, Nat.zero_add, Nat.reduceAdd]
 refine c_seq (c_plain (.q 0 (.done)) (by kernel_rfl) ?_)
 refine q_assign rfl rfl rfl rfl (r_done (k_then_n (c_seq (c_plain (.q 0 (.q 1 ((.l 2 [] (.q 3 (.q 4 (.q 5 ((.l 6 [] (.q 7 (.q 8 (.done)))))))))))) (by kernel_rfl) ?_))))
 refine q_move rfl rfl rfl rfl (q_move rfl rfl rfl rfl ?_)
 have sp_1 := Vp.rleqn a
 refine l_call rfl rfl rfl rfl rfl rfl Try.call58 (sp_1) Ts ?_
 rintro ⟨⟩ -
 try simp only [List.cons_append, List.nil_append]
 refine ag_nil (q_move rfl rfl rfl rfl (q_skip rfl rfl rfl rfl (q_skip rfl rfl rfl rfl (l_skip rfl rfl rfl rfl ?_))))
 refine q_pick_f rfl rfl rfl rfl rfl (q_assign rfl rfl rfl rfl (r_done (s_keep [4] (e' := [(4, _)]) rfl ?_)))
 refine k_then_n (c_ret (ret1 rfl rfl (()) (by first | rfl | (first | rfl | (congr 1; done) | (congr 1 <;> first | rfl | omega | (simp; done) | (simp; omega)))) (by trivial) ?_))
 exact Tf
theorem requalm (b : Nat) : Spec Try.prog 59 [.pointer (some ⟨b, 0, none⟩), .pointer none] [] (fun (_ : Unit) => .bool false) (fun _ => True) (fun _ => []) := by
 refine spec_mk (n := 13) Try.func59 rfl rfl rfl ?_
 intro Γ w0
 simp only [argE, List.cons_append, List.nil_append, Nat.zero_add, Nat.reduceAdd]
 refine c_seq (c_plain (.q 0 (.done)) (by kernel_rfl) ?_)
 refine q_assign rfl rfl rfl rfl (r_done (k_then_n (c_seq (c_plain (.q 0 (.q 1 ((.l 2 [] (.q 3 (.q 4 (.q 5 ((.l 6 [] (.q 7 (.q 8 (.done)))))))))))) (by kernel_rfl) ?_))))
 refine q_move rfl rfl rfl rfl (q_move rfl rfl rfl rfl ?_)
 have sp_1 := Vp.rleqm b
 refine l_call rfl rfl rfl rfl rfl rfl Try.call58 (sp_1) Ts ?_
 rintro ⟨⟩ -
 try simp only [List.cons_append, List.nil_append]
 refine ag_nil (q_move rfl rfl rfl rfl (q_skip rfl rfl rfl rfl (q_skip rfl rfl rfl rfl (l_skip rfl rfl rfl rfl ?_))))
 refine q_pick_f rfl rfl rfl rfl rfl (q_assign rfl rfl rfl rfl (r_done (s_keep [4] (e' := [(4, _)]) rfl ?_)))
 refine k_then_n (c_ret (ret1 rfl rfl (()) (by first | rfl | (first | rfl | (congr 1; done) | (congr 1 <;> first | rfl | omega | (simp; done) | (simp; omega)))) (by trivial) ?_))
 exact Tf
theorem rag (b c : Nat) (t u : List Int) : Spec Try.prog 60 [.pointer (some ⟨b, 0, none⟩), .pointer (some ⟨c, 0, none⟩)] [ckB b t, ckB c u] (fun (_ : Unit) => .int .i64 (agn t u)) (fun _ => True) (fun _ => [ckB b t, ckB c u]) := by
 refine spec_mk (n := 28) Try.func60 rfl rfl rfl ?_
 intro Γ w0
 simp only [argE, List.cons_append, List.nil_append, Nat.zero_add, Nat.reduceAdd]
 refine c_seq (c_plain (.q 0 (.done)) (by kernel_rfl) ?_)
 refine q_assign rfl rfl rfl rfl (r_done (k_then_n (c_seq (c_seq (c_plain (.q 0 (.q 1 (.q 2 (.q 3 (.q 4 (.q 5 (.done))))))) (by kernel_rfl) ?_)))))
 refine q_move rfl rfl rfl rfl (q_eq_nil rfl rfl rfl rfl Try.underlying58 ?_)
 refine s_eq 8 rfl (v' := .bool false) rfl ?_
 refine q_move rfl rfl rfl rfl (q_move rfl rfl rfl rfl (q_eq_nil rfl rfl rfl rfl Try.underlying58 ?_))
 refine s_eq 11 rfl (v' := .bool false) rfl ?_
 refine q_pick_f rfl rfl rfl rfl rfl (r_done (s_keep [0, 1, 12] (e' := [(0, _), (1, _), (12, _)]) rfl ?_))
 refine k_then_n (c_cond_f rfl ?_)
 refine c_skip (k_then_n (c_seq (c_plain (.q 0 (.q 1 ((.l 2 [] (.q 3 (.done)))))) (by kernel_rfl) ?_)))
 refine q_move rfl rfl rfl rfl (q_move rfl rfl rfl rfl ?_)
 have sp_1 := Rv.leq_spec b c t u
 refine l_call rfl rfl rfl rfl rfl rfl Try.call58 (sp_1) Ts ?_
 rintro ⟨⟩ -
 try simp only [List.cons_append, List.nil_append]
 refine ag_nil (q_assign rfl rfl rfl rfl (r_done (s_keep [0, 1, 5] (e' := [(0, _), (1, _), (5, _)]) rfl ?_)))
 refine k_then_n (c_seq (c_plain (.q 0 (.q 1 ((.l 2 [] (.q 3 (.done)))))) (by kernel_rfl) ?_))
 refine q_move rfl rfl rfl rfl (q_move rfl rfl rfl rfl ?_)
 have sp_2 := Rv.leq_spec c b u t
 refine l_call rfl rfl rfl rfl rfl rfl Try.call58 (sp_2) Ts ?_
 rintro ⟨⟩ -
 try simp only [List.cons_append, List.nil_append]
 refine ag_nil (q_assign rfl rfl rfl rfl (r_done (s_keep [5, 6] (e' := [(5, _), (6, _)]) rfl ?_)))
 refine k_then_n (c_seq (c_block (c_seq (c_plain (.q 0 (.q 1 (.q 2 (.q 3 (.q 4 (.done)))))) (by kernel_rfl) ?_))))
 refine q_move rfl rfl rfl rfl (q_move rfl rfl rfl rfl ?_)
 refine s_bool_p 21 rfl (fun h1 => ?_) (fun h1 => ?_)
 ·
  refine q_move rfl rfl rfl rfl (q_pick_t rfl rfl rfl rfl rfl (q_assign rfl rfl rfl rfl (r_done (s_keep [5, 6, 19] (e' := [(5, _), (6, _), (19, _)]) rfl ?_))))
  refine k_then_n ?_
  refine c_cond_p rfl (fun h2 => ?_) (fun h2 => ?_)
  ·
   refine c_seq (c_plain (.q 0 (.done)) (by kernel_rfl) ?_)
   refine q_assign rfl rfl rfl rfl (r_done (k_then_n (c_ret (k_blk_ret (k_then_ret (ret1 rfl rfl (()) (by first | (exfalso; contradiction) | (congr 1; simp only [agn]; split <;> (try split) <;> first | rfl | contradiction)) (by trivial) ?_))))))
   exact Tf
  refine c_seq (c_plain (.q 0 (.q 1 (.done))) (by kernel_rfl) ?_)
  refine q_move rfl rfl rfl rfl (q_assign rfl rfl rfl rfl (r_done (k_then_n ?_)))
  refine c_cond_p rfl (fun h_3 => ?_) (fun h_3 => ?_)
  ·
   refine c_seq (c_plain (.q 0 (.done)) (by kernel_rfl) ?_)
   refine q_assign rfl rfl rfl rfl (r_done (s_keep [4] (e' := [(4, _)]) rfl ?_))
   refine k_then_n (c_ret (k_blk_ret (k_then_ret (ret1 rfl rfl (()) (by first | (exfalso; contradiction) | (congr 1; simp only [agn]; split <;> (try split) <;> first | rfl | contradiction)) (by trivial) ?_))))
   exact Tf
  refine c_seq (c_plain (.q 0 (.q 1 (.done))) (by kernel_rfl) ?_)
  refine q_move rfl rfl rfl rfl (q_assign rfl rfl rfl rfl (r_done (s_keep [26] (e' := [(26, _)]) rfl ?_)))
  refine k_then_n ?_
  refine c_cond_p rfl (fun h2 => ?_) (fun h2 => ?_)
  ·
   refine c_seq (c_plain (.q 0 (.done)) (by kernel_rfl) ?_)
   refine q_assign rfl rfl rfl rfl (r_done (k_then_n (c_ret (k_blk_ret (k_then_ret (ret1 rfl rfl (()) (by first | (exfalso; contradiction) | (congr 1; simp only [agn]; split <;> (try split) <;> first | rfl | contradiction)) (by trivial) ?_))))))
   exact Tf
  refine c_skip (k_blk_n (k_then_n (c_seq (c_plain (.q 0 (.done)) (by kernel_rfl) ?_))))
  refine q_assign rfl rfl rfl rfl (r_done (k_then_n (c_ret (ret1 rfl rfl (()) (by first | (exfalso; contradiction) | (congr 1; simp only [agn]; split <;> (try split) <;> first | rfl | contradiction)) (by trivial) ?_))))
  exact Tf
 refine q_skip rfl rfl rfl rfl (q_pick_f rfl rfl rfl rfl rfl (q_assign rfl rfl rfl rfl (r_done (s_keep [5, 6, 19] (e' := [(5, _), (6, _), (19, _)]) rfl ?_))))
 refine k_then_n (c_cond_f rfl ?_)
 refine c_seq (c_plain (.q 0 (.q 1 (.done))) (by kernel_rfl) ?_)
 refine q_move rfl rfl rfl rfl (q_assign rfl rfl rfl rfl (r_done (k_then_n ?_)))
 refine c_cond_p rfl (fun h_4 => ?_) (fun h_4 => ?_)
 ·
  refine c_seq (c_plain (.q 0 (.done)) (by kernel_rfl) ?_)
  refine q_assign rfl rfl rfl rfl (r_done (s_keep [4] (e' := [(4, _)]) rfl ?_))
  refine k_then_n (c_ret (k_blk_ret (k_then_ret (ret1 rfl rfl (()) (by first | (exfalso; contradiction) | (congr 1; simp only [agn]; split <;> (try split) <;> first | rfl | contradiction)) (by trivial) ?_))))
  exact Tf
 refine c_seq (c_plain (.q 0 (.q 1 (.done))) (by kernel_rfl) ?_)
 refine q_move rfl rfl rfl rfl (q_assign rfl rfl rfl rfl (r_done (s_keep [26] (e' := [(26, _)]) rfl ?_)))
 refine k_then_n ?_
 refine c_cond_p rfl (fun h2 => ?_) (fun h2 => ?_)
 ·
  refine c_seq (c_plain (.q 0 (.done)) (by kernel_rfl) ?_)
  refine q_assign rfl rfl rfl rfl (r_done (k_then_n (c_ret (k_blk_ret (k_then_ret (ret1 rfl rfl (()) (by first | (exfalso; contradiction) | (congr 1; simp only [agn]; split <;> (try split) <;> first | rfl | contradiction)) (by trivial) ?_))))))
  exact Tf
 refine c_skip (k_blk_n (k_then_n (c_seq (c_plain (.q 0 (.done)) (by kernel_rfl) ?_))))
 refine q_assign rfl rfl rfl rfl (r_done (k_then_n (c_ret (ret1 rfl rfl (()) (by first | (exfalso; contradiction) | (congr 1; simp only [agn]; split <;> (try split) <;> first | rfl | contradiction)) (by trivial) ?_))))
 exact Tf
theorem rags (b : Nat) (t : List Int) : Spec Try.prog 60 [.pointer (some ⟨b, 0, none⟩), .pointer (some ⟨b, 0, none⟩)] [ckB b t] (fun (_ : Unit) => .int .i64 1) (fun _ => True) (fun _ => [ckB b t]) := by
 refine spec_mk (n := 28) Try.func60 rfl rfl rfl ?_
 intro Γ w0
 simp only [argE, List.cons_append, List.nil_append, Nat.zero_add, Nat.reduceAdd]
 refine c_seq (c_plain (.q 0 (.done)) (by kernel_rfl) ?_)
 refine q_assign rfl rfl rfl rfl (r_done (k_then_n (c_seq (c_seq (c_plain (.q 0 (.q 1 (.q 2 (.q 3 (.q 4 (.q 5 (.done))))))) (by kernel_rfl) ?_)))))
 refine q_move rfl rfl rfl rfl (q_eq_nil rfl rfl rfl rfl Try.underlying58 ?_)
 refine s_eq 8 rfl (v' := .bool false) rfl ?_
 refine q_move rfl rfl rfl rfl (q_move rfl rfl rfl rfl (q_eq_nil rfl rfl rfl rfl Try.underlying58 ?_))
 refine s_eq 11 rfl (v' := .bool false) rfl ?_
 refine q_pick_f rfl rfl rfl rfl rfl (r_done (s_keep [0, 1, 12] (e' := [(0, _), (1, _), (12, _)]) rfl ?_))
 refine k_then_n (c_cond_f rfl ?_)
 refine c_skip (k_then_n (c_seq (c_plain (.q 0 (.q 1 ((.l 2 [] (.q 3 (.done)))))) (by kernel_rfl) ?_)))
 refine q_move rfl rfl rfl rfl (q_move rfl rfl rfl rfl ?_)
 have sp_1 := Vp.rleqs b t
 refine l_call rfl rfl rfl rfl rfl rfl Try.call58 (sp_1) Ts ?_
 rintro ⟨⟩ -
 try simp only [List.cons_append, List.nil_append]
 refine ag_nil (q_assign rfl rfl rfl rfl (r_done (s_keep [0, 1, 5] (e' := [(0, _), (1, _), (5, _)]) rfl ?_)))
 refine k_then_n (c_seq (c_plain (.q 0 (.q 1 ((.l 2 [] (.q 3 (.done)))))) (by kernel_rfl) ?_))
 refine q_move rfl rfl rfl rfl (q_move rfl rfl rfl rfl ?_)
 have sp_2 := Vp.rleqs b t
 refine l_call rfl rfl rfl rfl rfl rfl Try.call58 (sp_2) Ts ?_
 rintro ⟨⟩ -
 try simp only [List.cons_append, List.nil_append]
 refine ag_nil (q_assign rfl rfl rfl rfl (r_done (s_keep [5, 6] (e' := [(5, _), (6, _)]) rfl ?_)))
 refine k_then_n (c_seq (c_block (c_seq (c_plain (.q 0 (.q 1 (.q 2 (.q 3 (.q 4 (.done)))))) (by kernel_rfl) ?_))))
 refine q_move rfl rfl rfl rfl (q_move rfl rfl rfl rfl (q_move rfl rfl rfl rfl (q_pick_t rfl rfl rfl rfl rfl (q_assign rfl rfl rfl rfl (r_done (s_keep [5, 6, 19] (e' := [(5, _), (6, _), (19, _)]) rfl ?_))))))
 refine k_then_n (c_cond_t rfl ?_)
 refine c_seq (c_plain (.q 0 (.done)) (by kernel_rfl) ?_)
 refine q_assign rfl rfl rfl rfl (r_done (k_then_n (c_ret (k_blk_ret (k_then_ret (ret1 rfl rfl (()) (by first | rfl | (first | rfl | (congr 1; done) | (congr 1 <;> first | rfl | omega | (simp; done) | (simp; omega)))) (by trivial) ?_))))))
 exact Tf
theorem ragn (a : Option Addr) : Spec Try.prog 60 [.pointer none, .pointer a] [] (fun (_ : Unit) => .int .i64 0) (fun _ => True) (fun _ => []) := by
 refine spec_mk (n := 28) Try.func60 rfl rfl rfl ?_
 intro Γ w0
 simp only [argE, List.cons_append, List.nil_append, Nat.zero_add, Nat.reduceAdd]
 refine c_seq (c_plain (.q 0 (.done)) (by kernel_rfl) ?_)
 refine q_assign rfl rfl rfl rfl (r_done (k_then_n (c_seq (c_seq (c_plain (.q 0 (.q 1 (.q 2 (.q 3 (.q 4 (.q 5 (.done))))))) (by kernel_rfl) ?_)))))
 refine q_move rfl rfl rfl rfl (q_eq_nil rfl rfl rfl rfl Try.underlying58 ?_)
 refine s_eq 8 rfl (v' := .bool true) rfl ?_
 refine q_move rfl rfl rfl rfl (q_skip rfl rfl rfl rfl (q_skip rfl rfl rfl rfl (q_pick_t rfl rfl rfl rfl rfl (r_done (s_keep [0, 1, 12] (e' := [(0, _), (1, _), (12, _)]) rfl ?_)))))
 refine k_then_n (c_cond_t rfl ?_)
 refine c_seq (c_plain (.q 0 (.done)) (by kernel_rfl) ?_)
 refine q_assign rfl rfl rfl rfl (r_done (k_then_n (c_ret (k_then_ret (ret1 rfl rfl (()) (by first | rfl | (first | rfl | (congr 1; done) | (congr 1 <;> first | rfl | omega | (simp; done) | (simp; omega)))) (by trivial) ?_)))))
 exact Tf
theorem ragm (b : Nat) : Spec Try.prog 60 [.pointer (some ⟨b, 0, none⟩), .pointer none] [] (fun (_ : Unit) => .int .i64 0) (fun _ => True) (fun _ => []) := by
 refine spec_mk (n := 28) Try.func60 rfl rfl rfl ?_
 intro Γ w0
 simp only [argE, List.cons_append, List.nil_append, Nat.zero_add, Nat.reduceAdd]
 refine c_seq (c_plain (.q 0 (.done)) (by kernel_rfl) ?_)
 refine q_assign rfl rfl rfl rfl (r_done (k_then_n (c_seq (c_seq (c_plain (.q 0 (.q 1 (.q 2 (.q 3 (.q 4 (.q 5 (.done))))))) (by kernel_rfl) ?_)))))
 refine q_move rfl rfl rfl rfl (q_eq_nil rfl rfl rfl rfl Try.underlying58 ?_)
 refine s_eq 8 rfl (v' := .bool false) rfl ?_
 refine q_move rfl rfl rfl rfl (q_move rfl rfl rfl rfl (q_eq_nil rfl rfl rfl rfl Try.underlying58 ?_))
 refine s_eq 11 rfl (v' := .bool true) rfl ?_
 refine q_pick_f rfl rfl rfl rfl rfl (r_done (s_keep [0, 1, 12] (e' := [(0, _), (1, _), (12, _)]) rfl ?_))
 refine k_then_n (c_cond_t rfl ?_)
 refine c_seq (c_plain (.q 0 (.done)) (by kernel_rfl) ?_)
 refine q_assign rfl rfl rfl rfl (r_done (k_then_n (c_ret (k_then_ret (ret1 rfl rfl (()) (by first | rfl | (first | rfl | (congr 1; done) | (congr 1 <;> first | rfl | omega | (simp; done) | (simp; omega)))) (by trivial) ?_)))))
 exact Tf
theorem rgetn (z : Int) : Spec Try.prog 57 [.pointer none, .int .i64 z] [] (fun (_ : Unit) => .int .u64 0) (fun _ => True) (fun _ => []) := by
 refine spec_mk (n := 13) Try.func57 rfl rfl rfl ?_
 intro Γ w0
 simp only [argE, List.cons_append, List.nil_append, Nat.zero_add, Nat.reduceAdd]
 refine c_seq (c_plain (.q 0 (.done)) (by kernel_rfl) ?_)
 refine q_assign rfl rfl rfl rfl (r_done (k_then_n (c_seq (c_seq (c_plain (.q 0 (.q 1 (.done))) (by kernel_rfl) ?_)))))
 refine q_move rfl rfl rfl rfl (q_eq_nil rfl rfl rfl rfl Try.underlying58 ?_)
 refine s_eq 6 rfl (v' := .bool true) rfl ?_
 refine r_done (k_then_n (c_cond_t rfl ?_))
 refine c_seq (c_plain (.q 0 (.done)) (by kernel_rfl) ?_)
 refine q_assign rfl rfl rfl rfl (r_done (s_keep [4] (e' := [(4, _)]) rfl ?_))
 refine k_then_n (c_ret (k_then_ret (ret1 rfl rfl (()) (by first | rfl | (first | rfl | (congr 1; done) | (congr 1 <;> first | rfl | omega | (simp; done) | (simp; omega)))) (by trivial) ?_)))
 exact Tf
theorem rsetn (z v : Int) : Spec Try.prog 51 [.pointer none, .int .i64 z, .int .u64 v] [] (fun (_ : Unit) => .int .i64 1) (fun _ => True) (fun _ => []) := by
 refine spec_mk (n := 18) Try.func51 rfl rfl rfl ?_
 intro Γ w0
 simp only [argE, List.cons_append, List.nil_append, Nat.zero_add, Nat.reduceAdd]
 refine c_seq (c_plain (.q 0 (.done)) (by kernel_rfl) ?_)
 refine q_assign rfl rfl rfl rfl (r_done (k_then_n (c_seq (c_seq (c_plain (.q 0 (.q 1 (.done))) (by kernel_rfl) ?_)))))
 refine q_move rfl rfl rfl rfl (q_eq_nil rfl rfl rfl rfl Try.underlying58 ?_)
 refine s_eq 8 rfl (v' := .bool true) rfl ?_
 refine r_done (k_then_n (c_cond_t rfl ?_))
 refine c_seq (c_plain (.q 0 (.done)) (by kernel_rfl) ?_)
 refine q_assign rfl rfl rfl rfl (r_done (s_keep [6] (e' := [(6, _)]) rfl ?_))
 refine k_then_n (c_ret (k_then_ret (ret1 rfl rfl (()) (by first | rfl | (first | rfl | (congr 1; done) | (congr 1 <;> first | rfl | omega | (simp; done) | (simp; omega)))) (by trivial) ?_)))
 exact Tf
theorem rincn (z : Int) : Spec Try.prog 52 [.pointer none, .int .i64 z] [] (fun (_ : Unit) => .tuple #[.int .u64 0, .int .i64 1]) (fun _ => True) (fun _ => []) := by
 refine spec_mk (n := 24) Try.func52 rfl rfl rfl ?_
 intro Γ w0
 simp only [argE, List.cons_append, List.nil_append, Nat.zero_add, Nat.reduceAdd]
 refine c_seq (c_plain (.q 0 (.q 1 (.done))) (by kernel_rfl) ?_)
 refine q_assign rfl rfl rfl rfl (q_assign rfl rfl rfl rfl (r_done (k_then_n (c_seq (c_seq (c_plain (.q 0 (.q 1 (.done))) (by kernel_rfl) ?_))))))
 refine q_move rfl rfl rfl rfl (q_eq_nil rfl rfl rfl rfl Try.underlying58 ?_)
 refine s_eq 8 rfl (v' := .bool true) rfl ?_
 refine r_done (k_then_n (c_cond_t rfl ?_))
 refine c_seq (c_plain (.q 0 (.q 1 (.done))) (by kernel_rfl) ?_)
 refine q_assign rfl rfl rfl rfl (q_assign rfl rfl rfl rfl (r_done (s_keep [4, 5] (e' := [(4, _), (5, _)]) rfl ?_)))
 refine k_then_n (c_ret (k_then_ret (ret2 rfl rfl rfl (()) (by first | rfl | (first | rfl | (congr 1; done) | (congr 1 <;> first | rfl | omega | (simp; done) | (simp; omega)))) (by trivial) ?_)))
 exact Tf
theorem rclearn : Spec Try.prog 53 [.pointer none] [] (fun (_ : Unit) => .tuple #[]) (fun _ => True) (fun _ => []) := by
 refine spec_mk (n := 7) Try.func53 rfl rfl rfl ?_
 intro Γ w0
 simp only [argE, List.cons_append, List.nil_append, Nat.zero_add, Nat.reduceAdd]
 refine c_seq (c_plain (.q 0 (.q 1 (.done))) (by kernel_rfl) ?_)
 refine q_move rfl rfl rfl rfl (q_ne_nil rfl rfl rfl rfl Try.underlying58 ?_)
 refine s_eq 3 rfl (v' := .bool false) rfl ?_
 refine r_done (k_then_n (c_cond_f rfl ?_))
 refine c_skip (ret_end ?_)
 refine ret0 rfl (()) (by first | rfl | (first | rfl | (congr 1; done) | (congr 1 <;> first | rfl | omega | (simp; done) | (simp; omega)))) (by trivial) ?_
 exact Tf
theorem rcopyn : Spec Try.prog 50 [.pointer none] [] (fun (_ : Unit) => .pointer none) (fun _ => True) (fun _ => []) := by
 refine spec_mk (n := 13) Try.func50 rfl rfl rfl ?_
 intro Γ w0
 simp only [argE, List.cons_append, List.nil_append, Nat.zero_add, Nat.reduceAdd]
 refine c_seq (c_plain (.q 0 (.done)) (by kernel_rfl) ?_)
 refine q_assign rfl rfl rfl rfl (r_done (k_then_n (c_seq (c_seq (c_plain (.q 0 (.q 1 (.done))) (by kernel_rfl) ?_)))))
 refine q_move rfl rfl rfl rfl (q_eq_nil rfl rfl rfl rfl Try.underlying58 ?_)
 refine s_eq 4 rfl (v' := .bool true) rfl ?_
 refine r_done (k_then_n (c_cond_t rfl ?_))
 refine c_seq (c_plain (.q 0 (.done)) (by kernel_rfl) ?_)
 refine q_assign rfl rfl rfl rfl (r_done (k_then_n (c_ret (k_then_ret (ret1 rfl rfl (()) (by first | rfl | (first | rfl | (congr 1; done) | (congr 1 <;> first | rfl | omega | (simp; done) | (simp; omega)))) (by trivial) ?_)))))
 exact Tf
theorem rlenn : Spec Try.prog 64 [.pointer none] [] (fun (_ : Unit) => .int .i64 0) (fun _ => True) (fun _ => []) := by
 refine spec_mk (n := 28) Try.func64 rfl rfl rfl ?_
 intro Γ w0
 simp only [argE, List.cons_append, List.nil_append, Nat.zero_add, Nat.reduceAdd]
 refine c_seq (c_plain (.q 0 (.done)) (by kernel_rfl) ?_)
 refine q_assign rfl rfl rfl rfl (r_done (k_then_n (c_seq (c_plain (.q 0 (.done)) (by kernel_rfl) ?_))))
 refine q_assign rfl rfl rfl rfl (r_done (k_then_n (c_seq (c_seq (c_plain (.q 0 (.q 1 (.done))) (by kernel_rfl) ?_)))))
 refine q_move rfl rfl rfl rfl (q_eq_nil rfl rfl rfl rfl Try.underlying58 ?_)
 refine s_eq 6 rfl (v' := .bool true) rfl ?_
 refine r_done (k_then_n (c_cond_t rfl ?_))
 refine c_seq (c_plain (.q 0 (.q 1 (.done))) (by kernel_rfl) ?_)
 refine q_move rfl rfl rfl rfl (q_assign rfl rfl rfl rfl (r_done (s_keep [2] (e' := [(2, _)]) rfl ?_)))
 refine k_then_n (c_ret (k_then_ret (ret1 rfl rfl (()) (by first | rfl | (first | rfl | (congr 1; done) | (congr 1 <;> first | rfl | omega | (simp; done) | (simp; omega)))) (by trivial) ?_)))
 exact Tf
theorem rlistn : Spec Try.prog 36 [.pointer none] [] (fun (_ : Unit) => .slice none 0 0) (fun _ => True) (fun _ => []) := by
 refine spec_mk (n := 14) Try.func36 rfl rfl rfl ?_
 intro Γ w0
 simp only [argE, List.cons_append, List.nil_append, Nat.zero_add, Nat.reduceAdd]
 refine c_seq (c_plain (.q 0 (.done)) (by kernel_rfl) ?_)
 refine q_assign rfl rfl rfl rfl (r_done (k_then_n (c_seq (c_seq (c_plain (.q 0 (.q 1 (.done))) (by kernel_rfl) ?_)))))
 refine q_move rfl rfl rfl rfl (q_eq_nil rfl rfl rfl rfl Try.underlying58 ?_)
 refine s_eq 4 rfl (v' := .bool true) rfl ?_
 refine r_done (k_then_n (c_cond_t rfl ?_))
 refine c_seq (c_plain (.q 0 (.done)) (by kernel_rfl) ?_)
 refine q_assign rfl rfl rfl rfl (r_done (k_then_n (c_ret (k_then_ret (ret1 rfl rfl (()) (by first | rfl | (first | rfl | (congr 1; done) | (congr 1 <;> first | rfl | omega | (simp; done) | (simp; omega)))) (by trivial) ?_)))))
 exact Tf
theorem rhasn (e : Int) : Spec Try.prog 62 [.pointer none, .int .u64 e] [] (fun (_ : Unit) => .bool false) (fun _ => True) (fun _ => []) := by
 refine spec_mk (n := 15) Try.func62 rfl rfl rfl ?_
 intro Γ w0
 simp only [argE, List.cons_append, List.nil_append, Nat.zero_add, Nat.reduceAdd]
 refine c_seq (c_plain (.q 0 (.done)) (by kernel_rfl) ?_)
 refine q_assign rfl rfl rfl rfl (r_done (k_then_n (c_seq (c_plain (.q 0 (.q 1 (.q 2 (.q 3 (.q 4 (.q 5 (.q 6 (.q 7 ((.l 8 [] (.q 9 (.q 10 (.done))))))))))))) (by kernel_rfl) ?_))))
 refine q_move rfl rfl rfl rfl (q_ne_nil rfl rfl rfl rfl Try.underlying58 ?_)
 refine s_eq 6 rfl (v' := .bool false) rfl ?_
 refine q_move rfl rfl rfl rfl (q_skip rfl rfl rfl rfl (q_skip rfl rfl rfl rfl (q_skip rfl rfl rfl rfl (q_skip rfl rfl rfl rfl (q_skip rfl rfl rfl rfl (l_skip rfl rfl rfl rfl ?_))))))
 refine q_pick_f rfl rfl rfl rfl rfl (q_assign rfl rfl rfl rfl (r_done (s_keep [4] (e' := [(4, _)]) rfl ?_)))
 refine k_then_n (c_ret (ret1 rfl rfl (()) (by first | rfl | (first | rfl | (congr 1; done) | (congr 1 <;> first | rfl | omega | (simp; done) | (simp; omega)))) (by trivial) ?_))
 exact Tf
theorem repn (z : Int) : Spec Try.prog 63 [.pointer none, .int .i64 z] [] (fun (_ : Unit) => .tuple #[.int .u64 0, .int .i64 1]) (fun _ => True) (fun _ => []) := by
 refine spec_mk (n := 22) Try.func63 rfl rfl rfl ?_
 intro Γ w0
 simp only [argE, List.cons_append, List.nil_append, Nat.zero_add, Nat.reduceAdd]
 refine c_seq (c_plain (.q 0 (.q 1 (.done))) (by kernel_rfl) ?_)
 refine q_assign rfl rfl rfl rfl (q_assign rfl rfl rfl rfl (r_done (k_then_n (c_seq (c_seq (c_plain (.q 0 (.q 1 (.done))) (by kernel_rfl) ?_))))))
 refine q_move rfl rfl rfl rfl (q_eq_nil rfl rfl rfl rfl Try.underlying58 ?_)
 refine s_eq 7 rfl (v' := .bool true) rfl ?_
 refine r_done (k_then_n (c_cond_t rfl ?_))
 refine c_seq (c_plain (.q 0 (.q 1 (.done))) (by kernel_rfl) ?_)
 refine q_assign rfl rfl rfl rfl (q_assign rfl rfl rfl rfl (r_done (s_keep [4, 5] (e' := [(4, _), (5, _)]) rfl ?_)))
 refine k_then_n (c_ret (k_then_ret (ret2 rfl rfl rfl (()) (by first | rfl | (first | rfl | (congr 1; done) | (congr 1 <;> first | rfl | omega | (simp; done) | (simp; omega)))) (by trivial) ?_)))
 exact Tf
end Go.Ab.Vp
set_option linter.unusedVariables false
set_option linter.unusedSimpArgs false
set_option maxRecDepth 100000
namespace Go.Ab.Vp
open Go Go.Proofs Go.Ab Go.Ab.Vc Go.Ab.Rv
def encZ (z : Int) : List Value := [.int .i64 z]
theorem encZ_len : ∀ x, (encZ x).length = 1 := fun _ => rfl
theorem encZ_one : ∀ x, (encZ x).all Value.oneCell' = true := fun _ => rfl
def encA (a : Option Addr) : List Value := [.pointer a]
theorem encA_len : ∀ x, (encA x).length = 1 := fun _ => rfl
theorem encA_one : ∀ x, (encA x).all Value.oneCell' = true := fun _ => rfl
theorem sat_free {A : HProp} {Γ : List HProp} {h : Hp} (a : A (fun _ => none)) (s : Sat Γ h) : Sat (A :: Γ) h := ⟨fun _ => none, fun _ _ x => by simp at x, a, s.mono fun _ _ x => Hmin_some.2 ⟨rfl, x⟩⟩
/-- A vector in a place, or none. -/
def plc (R : Nat → List Int → HProp) (a : Option Addr) : Option (List Int) → HProp
  | none => fun _ => a = none
  | some t => fun h => ∃ b, a = some ⟨b, 0, none⟩ ∧ R b t h
abbrev Pl := Option Addr × Option (List Int)
abbrev plF (R : Nat → List Int → HProp) (x : Pl) : HProp := plc R x.1 x.2
section
variable {w0 : World} {ds : List Deferred} {n : Nat} {e : Env} {Γ Γ' : List HProp} {X : Act → World → Prop} {R : Nat → List Int → HProp}
theorem plc_nil (k : Le (St w0 ds n e (plc R none none :: Γ)) X) : Le (St w0 ds n e Γ) X := s_heap (fun h s => sat_free (A := plc R none none) rfl s) k
theorem plc_put {b : Nat} {t : List Int} (tk : Take Γ (R b t) Γ') (k : Le (St w0 ds n e (plc R (some ⟨b, 0, none⟩) (some t) :: Γ')) X) : Le (St w0 ds n e Γ) X := s_heap (fun h s => by
  obtain ⟨h1, l1, a1, s1⟩ := tk h s
  exact ⟨h1, l1, ⟨b, rfl, a1⟩, s1⟩) k
theorem plc_get {a : Option Addr} {t : List Int} (tk : Take Γ (plc R a (some t)) Γ') (k : ∀ b, a = some ⟨b, 0, none⟩ → Le (St w0 ds n e (R b t :: Γ')) X) : Le (St w0 ds n e Γ) X := fun x w s => by
  obtain ⟨h1, l1, ⟨b, ha, a1⟩, s1⟩ := tk _ s.heap
  exact k b ha x w ⟨s.defers, s.size, s.env, ⟨h1, l1, a1, s1⟩, s.amb⟩
theorem plc_getb {b : Nat} {t : List Int} (tk : Take Γ (plc R (some ⟨b, 0, none⟩) (some t)) Γ') (k : Le (St w0 ds n e (R b t :: Γ')) X) : Le (St w0 ds n e Γ) X := s_heap (fun h s => by
  obtain ⟨h1, l1, ⟨b', hb, a1⟩, s1⟩ := tk h s
  cases hb
  exact ⟨h1, l1, a1, s1⟩) k
theorem big_iff {L : List Pl} {i : Nat} {a : Option Addr} {m : Option (List Int)} (tk : Take Γ (bigS (plF R) L) Γ') (hx : L[i]? = some (a, m)) (k : (a = none ↔ m = none) → Le (St w0 ds n e Γ) X) : Le (St w0 ds n e Γ) X := s_know (fun h s => by
  obtain ⟨h1, l1, a1, s1⟩ := big_take (f := plF R) hx (tk h s)
  cases m with
  | none => exact ⟨fun _ => rfl, fun _ => a1⟩
  | some t =>
    obtain ⟨b, hb, -⟩ := a1
    simp only at hb
    subst hb
    exact ⟨fun h => (by cases h), fun h => (by cases h)⟩) k
end
theorem epV_ok (e : Nat) : decide (e = 0 ∨ epV e) = true ↔ e = 0 ∨ (e / 281474976710656 < 65535 ∧ 0 < e % 281474976710656) := by
  rw [decide_eq_true_eq]
  constructor
  · rintro (h | h)
    · exact .inl h
    · exact .inr ⟨h.2.1, by have := h.2.2; omega⟩
  · rintro (h | h)
    · exact .inl h
    · exact .inr ⟨by intro e0; subst e0; exact absurd h.2 (by decide), h.1, by omega⟩
theorem hasE_tr (e : Nat) (l : List Int) : hasE e (tr l) ↔ hasE e l := by unfold hasE; rw [tr_g]
/-- What Of makes. -/
def ofM (xs : List Int) : Option (List Int) := if 65535 < xs.length then none else if ∃ x ∈ xs, maxC < x then none else some (tr xs)
def ofE (xs : List Int) : Int := if 65535 < xs.length then 3 else if ∃ x ∈ xs, maxC < x then 30 else 0
theorem rall (b : Nat) (t : List Int) : Spec Try.prog 72 [.pointer (some ⟨b, 0, none⟩)] [ckB b t] (fun (r : Option Addr × Nat) => .slice r.1 (nz t t.length).length r.2) (fun r => True) (fun r => [ckB b t, own 1 encZ r.1 r.2 (nz t t.length)]) := by
 refine spec_mk (n := 26) Try.func72 rfl rfl rfl ?_
 intro Γ w0
 simp only [argE, List.cons_append, List.nil_append, Nat.zero_add, Nat.reduceAdd]
 refine c_seq (c_plain (.q 0 (.done)) (by kernel_rfl) ?_)
 refine q_assign rfl rfl rfl rfl (r_done (k_then_n (c_seq (c_plain (.q 0 (.done)) (by kernel_rfl) ?_))))
 refine q_assign rfl rfl rfl rfl (r_done (k_then_n (c_seq (ck_open (b := b) (t := t) Tk fun ao cap l ho ht => ?_))))
 have hll := ho.1
 refine c_plain (.q 0 ((.l 1 [] (.q 2 (.done))))) (by kernel_rfl) ?_
 refine q_move rfl rfl rfl rfl ?_
 have sp_1 := Rv.len_open b ao cap l ho
 refine l_call rfl rfl rfl rfl rfl rfl Try.call64 (sp_1) Ts ?_
 rintro ⟨⟩ -
 try simp only [List.cons_append, List.nil_append]
 refine ag_nil (q_assign rfl rfl rfl rfl (r_done ?_))
 have htl := trN_le l l.length
 refine k_then_n (c_seq (c_seq (c_plain (.q 0 (.done)) (by kernel_rfl) ?_)))
 refine q_assign rfl rfl rfl rfl (r_done (k_then_n (c_block (s_heap (fun _ h => own_nil (sz := 1) (enc := encZ) h) ?_))))
 refine c_loop2 (α := Nat × Option Addr × Nat) (fun (x_ : Nat × Option Addr × Nat) => match x_ with | (i, oa, oc) => i ≤ trN l l.length ∧ True) (fun (x_ : Nat × Option Addr × Nat) => match x_ with | (i, oa, oc) => [(3, .slice oa ((nz l i).length) oc), (5, .int .i64 ((i : Nat) : Int))]) (fun (x_ : Nat × Option Addr × Nat) => match x_ with | (i, oa, oc) => [own 1 encZ oa oc (nz l i)]) (fun (x_ : Nat × Option Addr × Nat) => match x_ with | (i, oa, oc) => trN l l.length - i) [0, 4] (er := [(0, _), (4, _)]) rfl (0, none, 0) ?_ (by exact ⟨rfl, rfl, trivial⟩) (by (try dsimp only); (try simp only [Nat.add_zero, Nat.zero_add]); (repeat ((with_reducible apply Z2); focus (first | (with_reducible (repeat (first | exact Z0 | apply Z1)); done) | (repeat (first | exact Z0 | apply Z1))))); exact Z3) ?_
 · exact ⟨Nat.zero_le _, trivial⟩
 rintro ⟨i, oa, oc⟩ ⟨hle_i, hT_⟩
 try simp only [List.cons_append, List.nil_append]
 have hnl := nz_len l i
 refine c_seq (c_seq (c_plain (.q 0 (.q 1 (.q 2 (.done)))) (by kernel_rfl) ?_))
 refine q_move rfl rfl rfl rfl (q_move rfl rfl rfl rfl (q_int rfl rfl rfl rfl rfl (b_lss _ _ _ _) ?_))
 refine r_done (k_then_n ?_)
 refine c_cond_p rfl (fun hlt => ?_) (fun hlt => ?_)
 ·
  refine c_skip (k_then_n (c_seq (c_block (c_seq (c_plain (.q 0 (.q 1 (.q 2 (.q 3 (.q 4 (.q 5 (.q 6 (.q 7 (.done))))))))) (by kernel_rfl) ?_)))))
  refine q_move rfl rfl rfl rfl (q_nil_p rfl rfl rfl rfl (q_field (k := 0) rfl rfl rfl rfl Try.underlying81 rfl Try.sizeOf23 rfl ?_))
  refine q_load_c (j := 0) rfl rfl rfl rfl Try.isAgg23 Tk Az (by rfl) ?_
  refine q_move rfl rfl rfl rfl ?_
  obtain ⟨x, hx⟩ := get_lt (l := l) (i := i) (by first | omega | (simp; done) | (simp; omega))
  refine q_idxO (sz := 0) (k := i) (enc := encU) (xs := l) rfl rfl rfl rfl rfl Try.underlying23 Try.sizeOf30 hx (by first | rfl | omega) (by omega) Tk ?_
  intro ib18 io18 ha18 hl18 hc18
  refine q_load_O (v := (.int .u64 x)) (j := 0) (k' := i) (enc := encU) (off := io18) rfl rfl rfl rfl Try.isAgg30 ha18 encU_len hx Tk (by first | rfl | exact (Nat.add_zero _).symm | omega) (by rfl) ?_
  refine q_int rfl rfl rfl rfl rfl (b_gtr _ _ _ _) ?_
  refine r_done (s_keep [0, 3, 4, 5, 20] (e' := [(0, _), (3, _), (4, _), (5, _), (20, _)]) rfl ?_)
  refine k_then_n ?_
  refine c_cond_p rfl (fun hz => ?_) (fun hz => ?_)
  ·
   have hnx : nz l (i + 1) = nz l i ++ [(i : Int)] := by rw [nz, if_neg (by rw [Rv.getD_of hx]; omega)]
   refine c_plain (.q 0 (.q 1 ((.l 2 [] ((.l 3 [] (.q 4 (.done)))))))) (by kernel_rfl) ?_
   refine q_move rfl rfl rfl rfl (q_move rfl rfl rfl rfl (l_buildSlice rfl rfl rfl rfl (run_build1 (us := [_]) Try.underlying66 Try.sizeOf3 rfl Try.zeroValue3 rfl rfl rfl) ?_))
   intro b23
   refine ag_nil (l_append (sz := 1) (enc := encZ) (xs := (nz l i)) rfl rfl rfl rfl rfl Try.underlying66 Try.typeInfo3 rfl rfl rfl (by decide) Tk Tk (by first | rfl | omega | (simp; done) | (simp; omega)) (ys := [((i : Nat) : Int)]) (rds_some rdn_cells) (by rfl) (by first | rfl | omega) (encZ_len) (encZ_one) (by omega) (by show _ * 8 ≤ _; omega) ?_)
   intro ao24 cp24
   refine ag_nil (q_assign rfl rfl rfl rfl (r_done (s_keep [0, 3, 4, 5] (e' := [(0, _), (3, _), (4, _), (5, _)]) rfl ?_)))
   refine k_blk_n (k_then_n (c_plain (.q 0 (.q 1 (.q 2 (.done)))) (by kernel_rfl) ?_))
   refine q_move rfl rfl rfl rfl (q_int rfl rfl rfl rfl rfl (b_add' _ (by exact fits_i64 (by omega) (by omega))) ?_)
   refine q_assign rfl rfl rfl rfl (r_done (k_then_n (s_eq 3 rfl (v' := .slice ao24 (nz l (i + 1)).length cp24) (by rw [hnx, List.length_append]; rfl) ?_)))
   rw [← hnx]
   refine s_eq 3 rfl (v' := .slice ao24 ((nz l (i + 1)).length) cp24) (by first | rfl | (congr 1; done) | (congr 1 <;> first | rfl | omega | (simp; done) | (simp; omega))) ?_
   refine loop_next (x := (i, oa, oc)) ((i + 1, ao24, cp24)) ?_ ?_ ?_ ?_
   · try dsimp only
     exact ⟨by omega, trivial⟩
   · show trN l l.length - (i + 1) < trN l l.length - i; omega
   · exact ⟨rfl, rfl, rfl, rfl, trivial⟩
   · (try simp only [List.cons_append, List.nil_append]); exact Tf
  have hxr := ho.2 x (List.mem_of_getElem? hx)
  have hnx : nz l (i + 1) = nz l i := if_pos (by rw [Rv.getD_of hx]; omega)
  refine c_skip (k_blk_n (k_then_n (c_plain (.q 0 (.q 1 (.q 2 (.done)))) (by kernel_rfl) ?_)))
  refine q_move rfl rfl rfl rfl (q_int rfl rfl rfl rfl rfl (b_add' _ (by exact fits_i64 (by omega) (by omega))) ?_)
  refine q_assign rfl rfl rfl rfl (r_done (k_then_n (s_eq 3 rfl (v' := .slice oa (nz l (i + 1)).length oc) (by rw [hnx]) ?_)))
  rw [← hnx]
  refine s_eq 3 rfl (v' := .slice oa ((nz l (i + 1)).length) oc) (by first | rfl | (congr 1; done) | (congr 1 <;> first | rfl | omega | (simp; done) | (simp; omega))) ?_
  refine loop_next (x := (i, oa, oc)) ((i + 1, oa, oc)) ?_ ?_ ?_ ?_
  · try dsimp only
    exact ⟨by omega, trivial⟩
  · show trN l l.length - (i + 1) < trN l l.length - i; omega
  · exact ⟨rfl, rfl, rfl, rfl, trivial⟩
  · (try simp only [List.cons_append, List.nil_append]); exact Tf
 refine c_exit (k_then_exit (k_then_exit (k_blk_here (k_then_n (c_seq ?_)))))
 obtain rfl : i = trN l l.length := by omega
 have hnt : nz t t.length = nz l (trN l l.length) := by rw [← ht, nz_tr, tr_len]
 rw [hnt]
 refine c_plain (.q 0 (.q 1 (.done))) (by kernel_rfl) ?_
 refine q_move rfl rfl rfl rfl (q_assign rfl rfl rfl rfl (r_done (s_keep [2] (e' := [(2, _)]) rfl ?_)))
 refine k_then_n (c_ret (ck_fold (b := b) (ao := ao) (cap := cap) (l := l) t Ts (by first | rfl | simp) ho ht ?_))
 refine ret1 rfl rfl ((oa, oc)) (by first | rfl | (first | rfl | (congr 1; done) | (congr 1 <;> first | rfl | omega | (simp; done) | (simp; omega)))) (by trivial) ?_
 exact Tf
theorem ralln : Spec Try.prog 72 [.pointer none] [] (fun (_ : Unit) => .slice none 0 0) (fun _ => True) (fun _ => []) := by
 refine spec_mk (n := 26) Try.func72 rfl rfl rfl ?_
 intro Γ w0
 simp only [argE, List.cons_append, List.nil_append, Nat.zero_add, Nat.reduceAdd]
 refine c_seq (c_plain (.q 0 (.done)) (by kernel_rfl) ?_)
 refine q_assign rfl rfl rfl rfl (r_done (k_then_n (c_seq (c_plain (.q 0 (.done)) (by kernel_rfl) ?_))))
 refine q_assign rfl rfl rfl rfl (r_done (k_then_n (c_seq (c_plain (.q 0 ((.l 1 [] (.q 2 (.done))))) (by kernel_rfl) ?_))))
 refine q_move rfl rfl rfl rfl (l_call rfl rfl rfl rfl rfl rfl Try.call64 (Vp.rlenn) Ts ?_)
 rintro ⟨⟩ -
 try simp only [List.cons_append, List.nil_append]
 refine ag_nil (q_assign rfl rfl rfl rfl (r_done (k_then_n (c_seq (c_seq (c_plain (.q 0 (.done)) (by kernel_rfl) ?_))))))
 refine q_assign rfl rfl rfl rfl (r_done (k_then_n (c_block (c_unroll 0 ?_))))
 refine c_seq (c_seq (c_plain (.q 0 (.q 1 (.q 2 (.done)))) (by kernel_rfl) ?_))
 refine q_move rfl rfl rfl rfl (q_move rfl rfl rfl rfl (q_int rfl rfl rfl rfl rfl (b_lss _ _ _ _) ?_))
 refine s_eq 10 rfl (v' := .bool false) (by first | rfl | simp) ?_
 refine r_done (s_keep [0, 3, 4, 5, 10] (e' := [(0, _), (3, _), (4, _), (5, _), (10, _)]) rfl ?_)
 refine k_then_n (c_cond_f rfl ?_)
 refine c_exit (k_then_exit (k_then_exit (k_blk_here (k_then_n (c_seq (c_plain (.q 0 (.q 1 (.done))) (by kernel_rfl) ?_))))))
 refine q_move rfl rfl rfl rfl (q_assign rfl rfl rfl rfl (r_done (s_keep [2] (e' := [(2, _)]) rfl ?_)))
 refine k_then_n (c_ret (ret1 rfl rfl (()) (by first | rfl | (first | rfl | (congr 1; done) | (congr 1 <;> first | rfl | omega | (simp; done) | (simp; omega)))) (by trivial) ?_))
 exact Tf
theorem rvalid (e : Nat) (he : e < 18446744073709551616) : Spec Try.prog 77 [.int .u64 ((e : Nat) : Int)] [] (fun (_ : Unit) => .bool (decide (e = 0 ∨ epV e))) (fun _ => True) (fun _ => []) := by
 refine spec_mk (n := 15) Try.func77 rfl rfl rfl ?_
 intro Γ w0
 simp only [argE, List.cons_append, List.nil_append, Nat.zero_add, Nat.reduceAdd]
 refine c_seq (c_plain (.q 0 (.done)) (by kernel_rfl) ?_)
 refine q_assign rfl rfl rfl rfl (r_done (k_then_n (c_seq (c_plain (.q 0 (.q 1 (.q 2 (.q 3 (.q 4 (.q 5 (.q 6 (.q 7 (.q 8 (.q 9 (.q 10 (.q 11 (.q 12 (.done)))))))))))))) (by kernel_rfl) ?_))))
 refine q_move rfl rfl rfl rfl (q_int rfl rfl rfl rfl rfl (b_eql _ _ _ _) ?_)
 refine q_move rfl rfl rfl rfl ?_
 refine s_bool_p 5 rfl (fun h0 => ?_) (fun h0 => ?_)
 ·
  refine q_skip rfl rfl rfl rfl (q_skip rfl rfl rfl rfl (q_skip rfl rfl rfl rfl (q_skip rfl rfl rfl rfl (q_skip rfl rfl rfl rfl (q_skip rfl rfl rfl rfl (q_skip rfl rfl rfl rfl (q_skip rfl rfl rfl rfl (q_pick_t rfl rfl rfl rfl rfl ?_))))))))
  refine q_assign rfl rfl rfl rfl (r_done (s_keep [2] (e' := [(2, _)]) rfl ?_))
  refine k_then_n (c_ret (ret1 rfl rfl (()) (by congr 1; symm; exact (epV_ok e).2 (.inl (by omega))) (by trivial) ?_))
  exact Tf
 refine q_move rfl rfl rfl rfl (q_int rfl rfl rfl rfl rfl (b_quo _ (by omega) (by omega) (by exact fits_u64 (by omega) (by omega))) ?_)
 refine q_int rfl rfl rfl rfl rfl (b_lss _ _ _ _) ?_
 refine q_move rfl rfl rfl rfl ?_
 refine s_bool_p 9 rfl (fun h1 => ?_) (fun h1 => ?_)
 ·
  refine q_move rfl rfl rfl rfl (q_int rfl rfl rfl rfl rfl (b_rem _ (by omega) (by omega)) ?_)
  refine q_int rfl rfl rfl rfl rfl (b_gtr _ _ _ _) ?_
  refine q_pick_t rfl rfl rfl rfl rfl (q_pick_f rfl rfl rfl rfl rfl (q_assign rfl rfl rfl rfl (r_done (s_keep [2] (e' := [(2, _)]) rfl ?_))))
  refine k_then_n (c_ret (ret1 rfl rfl (()) (by congr 1; rw [Bool.eq_iff_iff, epV_ok, decide_eq_true_eq]; exact ⟨fun h => .inr ⟨by omega, by omega⟩, fun h => by rcases h with h | h <;> omega⟩) (by trivial) ?_))
  exact Tf
 refine q_skip rfl rfl rfl rfl (q_skip rfl rfl rfl rfl (q_skip rfl rfl rfl rfl (q_pick_f rfl rfl rfl rfl rfl (q_pick_f rfl rfl rfl rfl rfl (q_assign rfl rfl rfl rfl (r_done (s_keep [2] (e' := [(2, _)]) rfl ?_)))))))
 refine k_then_n (c_ret (ret1 rfl rfl (()) (by congr 1; symm; rw [Bool.eq_false_iff, ne_eq, epV_ok]; rintro (h | h) <;> omega) (by trivial) ?_))
 exact Tf
theorem rclock (e : Nat) (he : e < 18446744073709551616) : Spec Try.prog 75 [.int .u64 ((e : Nat) : Int)] [] (fun (_ : Unit) => .int .u64 ((epC e : Nat) : Int)) (fun _ => True) (fun _ => []) := by
 refine spec_mk (n := 8) Try.func75 rfl rfl rfl ?_
 intro Γ w0
 simp only [argE, List.cons_append, List.nil_append, Nat.zero_add, Nat.reduceAdd]
 refine c_seq (c_plain (.q 0 (.done)) (by kernel_rfl) ?_)
 refine q_assign rfl rfl rfl rfl (r_done (k_then_n (c_seq (c_seq (c_plain (.q 0 ((.l 1 [] (.q 2 (.done))))) (by kernel_rfl) ?_)))))
 refine q_move rfl rfl rfl rfl ?_
 have sp_1 := Vp.rvalid e he
 refine l_call rfl rfl rfl rfl rfl rfl Try.call77 (sp_1) Ts ?_
 rintro ⟨⟩ -
 try simp only [List.cons_append, List.nil_append]
 refine ag_nil (q_not rfl rfl rfl rfl ?_)
 refine r_done (k_then_n ?_)
 refine c_cond_np rfl (fun hv => ?_) (fun hv => ?_)
 ·
  have hc : epC e = 0 := if_neg (fun h => hv (.inr h))
  refine c_seq (c_plain (.q 0 (.done)) (by kernel_rfl) ?_)
  refine q_assign rfl rfl rfl rfl (r_done (s_keep [2] (e' := [(2, _)]) rfl ?_))
  refine k_then_n (c_ret (k_then_ret (ret1 rfl rfl (()) (by rw [hc]; rfl) (by trivial) ?_)))
  exact Tf
 have hc : epC e = e % 281474976710656 := by
   rcases hv with h | h
   · subst h; rfl
   · exact if_pos h
 refine c_skip (k_then_n (c_seq (c_plain (.q 0 (.q 1 (.q 2 (.done)))) (by kernel_rfl) ?_)))
 refine q_move rfl rfl rfl rfl (q_int rfl rfl rfl rfl rfl (b_rem _ (by omega) (by omega)) ?_)
 refine q_assign rfl rfl rfl rfl (r_done (s_keep [2] (e' := [(2, _)]) rfl ?_))
 refine k_then_n (c_ret (ret1 rfl rfl (()) (by rw [hc]; rfl) (by trivial) ?_))
 exact Tf
theorem rthread (e : Nat) (he : e < 18446744073709551616) : Spec Try.prog 76 [.int .u64 ((e : Nat) : Int)] [] (fun (_ : Unit) => .int .i64 ((epT e : Nat) : Int)) (fun _ => True) (fun _ => []) := by
 refine spec_mk (n := 9) Try.func76 rfl rfl rfl ?_
 intro Γ w0
 simp only [argE, List.cons_append, List.nil_append, Nat.zero_add, Nat.reduceAdd]
 refine c_seq (c_plain (.q 0 (.done)) (by kernel_rfl) ?_)
 refine q_assign rfl rfl rfl rfl (r_done (k_then_n (c_seq (c_seq (c_plain (.q 0 ((.l 1 [] (.q 2 (.done))))) (by kernel_rfl) ?_)))))
 refine q_move rfl rfl rfl rfl ?_
 have sp_1 := Vp.rvalid e he
 refine l_call rfl rfl rfl rfl rfl rfl Try.call77 (sp_1) Ts ?_
 rintro ⟨⟩ -
 try simp only [List.cons_append, List.nil_append]
 refine ag_nil (q_not rfl rfl rfl rfl ?_)
 refine r_done (k_then_n ?_)
 refine c_cond_np rfl (fun hv => ?_) (fun hv => ?_)
 ·
  have hc : epT e = 0 := if_neg (fun h => hv (.inr h))
  refine c_seq (c_plain (.q 0 (.done)) (by kernel_rfl) ?_)
  refine q_assign rfl rfl rfl rfl (r_done (s_keep [2] (e' := [(2, _)]) rfl ?_))
  refine k_then_n (c_ret (k_then_ret (ret1 rfl rfl (()) (by rw [hc]; rfl) (by trivial) ?_)))
  exact Tf
 have hc : epT e = e / 281474976710656 := by
   rcases hv with h | h
   · subst h; rfl
   · exact if_pos h
 refine c_skip (k_then_n (c_seq (c_plain (.q 0 (.q 1 (.q 2 (.q 3 (.done))))) (by kernel_rfl) ?_)))
 refine q_move rfl rfl rfl rfl (q_int rfl rfl rfl rfl rfl (b_quo _ (by omega) (by omega) (by exact fits_u64 (by omega) (by omega))) ?_)
 refine q_conv' rfl rfl rfl rfl Try.underlying3 Try.underlying30 (by exact fits_i64 (by omega) (by omega)) ?_
 refine q_assign rfl rfl rfl rfl (r_done (s_keep [2] (e' := [(2, _)]) rfl ?_))
 refine k_then_n (c_ret (ret1 rfl rfl (()) (by rw [hc]; rfl) (by trivial) ?_))
 exact Tf
theorem rle2 (e : Nat) (he : e < 18446744073709551616) (xs : List Int) (ao : Option Addr) (n c : Nat) (A : HProp) (hr : RdS A ao (xs.flatMap encU)) (hn : xs.length = n) (hb : n ≤ 4000000000) : Spec Try.prog 73 [.int .u64 ((e : Nat) : Int), .slice ao n c] [A] (fun (_ : Unit) => .bool (decide (hasE e xs))) (fun _ => True) (fun _ => [A]) := by
 refine spec_mk (n := 12) Try.func73 rfl rfl rfl ?_
 intro Γ w0
 simp only [argE, List.cons_append, List.nil_append, Nat.zero_add, Nat.reduceAdd]
 refine c_seq (c_plain (.q 0 (.done)) (by kernel_rfl) ?_)
 refine q_assign rfl rfl rfl rfl (r_done (k_then_n (c_seq (c_plain (.q 0 ((.l 1 [] (.q 2 (.q 3 ((.l 4 [] ((.l 5 [] (.q 6 (.q 7 (.done)))))))))))) (by kernel_rfl) ?_))))
 refine q_move rfl rfl rfl rfl ?_
 have sp_1 := Vp.rclock e he
 refine l_call rfl rfl rfl rfl rfl rfl Try.call75 (sp_1) Ts ?_
 rintro ⟨⟩ -
 try simp only [List.cons_append, List.nil_append]
 refine ag_nil (q_move rfl rfl rfl rfl (q_move rfl rfl rfl rfl ?_))
 have sp_2 := Vp.rthread e he
 refine l_call rfl rfl rfl rfl rfl rfl Try.call76 (sp_2) Ts ?_
 rintro ⟨⟩ -
 try simp only [List.cons_append, List.nil_append]
 refine ag_nil ?_
 have sp_3 := Rv.at_spec xs ao n c A (hr) Ln (by omega) (epT e)
 refine l_call rfl rfl rfl rfl rfl rfl Try.call71 (sp_3) Ts ?_
 rintro ⟨⟩ -
 try simp only [List.cons_append, List.nil_append]
 refine ag_nil (q_int rfl rfl rfl rfl rfl (b_leq _ _ _ _) ?_)
 refine q_assign rfl rfl rfl rfl (r_done (s_keep [4] (e' := [(4, _)]) rfl ?_))
 refine k_then_n (c_ret (ret1 rfl rfl (()) (by first | rfl | (first | rfl | (congr 1; done) | (congr 1 <;> first | rfl | omega | (simp; done) | (simp; omega)))) (by trivial) ?_))
 exact Tf
theorem rhas (b : Nat) (t : List Int) (e : Nat) (he : e < 18446744073709551616) : Spec Try.prog 62 [.pointer (some ⟨b, 0, none⟩), .int .u64 ((e : Nat) : Int)] [ckB b t] (fun (_ : Unit) => .bool (decide (hasE e t))) (fun _ => True) (fun _ => [ckB b t]) := by
 refine spec_mk (n := 15) Try.func62 rfl rfl rfl ?_
 intro Γ w0
 simp only [argE, List.cons_append, List.nil_append, Nat.zero_add, Nat.reduceAdd]
 refine c_seq (c_plain (.q 0 (.done)) (by kernel_rfl) ?_)
 refine q_assign rfl rfl rfl rfl (r_done (k_then_n (c_seq (ck_open (b := b) (t := t) Tk fun ao cap l ho ht => ?_))))
 have hll := ho.1
 refine c_plain (.q 0 (.q 1 (.q 2 (.q 3 (.q 4 (.q 5 (.q 6 (.q 7 ((.l 8 [] (.q 9 (.q 10 (.done))))))))))))) (by kernel_rfl) ?_
 refine q_move rfl rfl rfl rfl (q_ne_nil rfl rfl rfl rfl Try.underlying58 ?_)
 refine s_eq 6 rfl (v' := .bool true) rfl ?_
 refine q_move rfl rfl rfl rfl (q_move rfl rfl rfl rfl (q_move rfl rfl rfl rfl (q_nil_p rfl rfl rfl rfl (q_field (k := 0) rfl rfl rfl rfl Try.underlying81 rfl Try.sizeOf23 rfl ?_))))
 refine q_load_c (j := 0) rfl rfl rfl rfl Try.isAgg23 Tk Az (by rfl) ?_
 refine s_take (A := own 1 encU ao cap l) Tk ?_
 refine own_fc fun f_1a f_1b f_1c => ?_
 have sp_2 := Vp.rle2 e he l ao l.length cap (own 1 encU ao cap l) (rds_own encU_len (fun h => (f_1b h).1) f_1c) Ln (by omega)
 refine l_call rfl rfl rfl rfl rfl rfl Try.call73 (sp_2) Ts ?_
 rintro ⟨⟩ -
 try simp only [List.cons_append, List.nil_append]
 refine ag_nil (q_pick_t rfl rfl rfl rfl rfl (q_assign rfl rfl rfl rfl (r_done (s_keep [4] (e' := [(4, _)]) rfl ?_))))
 refine k_then_n (c_ret (ck_fold (b := b) (ao := ao) (cap := cap) (l := l) t Ts (by first | rfl | simp) ho ht ?_))
 refine ret1 rfl rfl (()) (by congr 1; exact decide_eq_decide.2 (by rw [← ht, hasE_tr])) (by trivial) ?_
 exact Tf
theorem rpack (t c : Nat) (ht : t < 65535) (hc : 0 < c ∧ c < 281474976710656) : Spec Try.prog 74 [.int .i64 ((t : Nat) : Int), .int .u64 ((c : Nat) : Int)] [] (fun (_ : Unit) => .tuple #[.int .u64 ((t * 281474976710656 + c : Nat) : Int), .int .i64 0]) (fun _ => True) (fun _ => []) := by
 refine spec_mk (n := 25) Try.func74 rfl rfl rfl ?_
 intro Γ w0
 simp only [argE, List.cons_append, List.nil_append, Nat.zero_add, Nat.reduceAdd]
 refine c_seq (c_plain (.q 0 (.q 1 (.done))) (by kernel_rfl) ?_)
 refine q_assign rfl rfl rfl rfl (q_assign rfl rfl rfl rfl (r_done (k_then_n (c_seq (c_seq (c_plain (.q 0 (.q 1 (.q 2 (.q 3 (.q 4 (.q 5 (.q 6 (.q 7 (.q 8 (.q 9 (.q 10 (.q 11 (.q 12 (.q 13 (.done))))))))))))))) (by kernel_rfl) ?_))))))
 refine q_move rfl rfl rfl rfl (q_int rfl rfl rfl rfl rfl (b_lss _ _ _ _) ?_)
 refine q_move rfl rfl rfl rfl ?_
 refine s_bool_p 8 rfl (fun hg => by exfalso; omega) (fun hg => ?_)
 refine q_move rfl rfl rfl rfl (q_int rfl rfl rfl rfl rfl (b_geq _ _ _ _) ?_)
 refine q_pick_f rfl rfl rfl rfl rfl (q_move rfl rfl rfl rfl ?_)
 refine s_bool_p 12 rfl (fun hg => by exfalso; omega) (fun hg => ?_)
 refine q_move rfl rfl rfl rfl (q_int rfl rfl rfl rfl rfl (b_lss _ _ _ _) ?_)
 refine q_pick_f rfl rfl rfl rfl rfl (q_move rfl rfl rfl rfl ?_)
 refine s_bool_p 16 rfl (fun hg => by exfalso; omega) (fun hg => ?_)
 refine q_move rfl rfl rfl rfl (q_int rfl rfl rfl rfl rfl (b_gtr _ _ _ _) ?_)
 refine q_pick_f rfl rfl rfl rfl rfl (r_done (s_keep [0, 1, 19] (e' := [(0, _), (1, _), (19, _)]) rfl ?_))
 refine k_then_n ?_
 refine c_cond_p rfl (fun hg => by exfalso; omega) (fun hg => ?_)
 refine c_skip (k_then_n (c_seq (c_plain (.q 0 (.q 1 (.q 2 (.q 3 (.q 4 (.q 5 (.q 6 (.done)))))))) (by kernel_rfl) ?_)))
 refine q_move rfl rfl rfl rfl (q_conv' rfl rfl rfl rfl Try.underlying30 Try.underlying3 (by exact fits_u64 (by omega) (by omega)) ?_)
 refine q_int rfl rfl rfl rfl rfl (b_mul' _ (by exact fits_u64 (by omega) (by omega))) ?_
 refine q_move rfl rfl rfl rfl (q_int rfl rfl rfl rfl rfl (b_add' _ (by exact fits_u64 (by omega) (by omega))) ?_)
 refine q_assign rfl rfl rfl rfl (q_assign rfl rfl rfl rfl (r_done (s_keep [4, 5] (e' := [(4, _), (5, _)]) rfl ?_)))
 refine k_then_n (c_ret (ret2 rfl rfl rfl (()) (by first | rfl | (first | rfl | (congr 1; done) | (congr 1 <;> first | rfl | omega | (simp; done) | (simp; omega)))) (by trivial) ?_))
 exact Tf
theorem rep (b : Nat) (t : List Int) (hl : CV t) (z : Int) : Spec Try.prog 63 [.pointer (some ⟨b, 0, none⟩), .int .i64 z] [ckB b t] (fun (_ : Unit) => .tuple #[.int .u64 (epV' t z), .int .i64 (wrE z)]) (fun _ => True) (fun _ => [ckB b t]) := by
 refine spec_mk (n := 22) Try.func63 rfl rfl rfl ?_
 intro Γ w0
 simp only [argE, List.cons_append, List.nil_append, Nat.zero_add, Nat.reduceAdd]
 refine c_seq (c_plain (.q 0 (.q 1 (.done))) (by kernel_rfl) ?_)
 refine q_assign rfl rfl rfl rfl (q_assign rfl rfl rfl rfl (r_done (k_then_n (c_seq (c_seq (c_plain (.q 0 (.q 1 (.done))) (by kernel_rfl) ?_))))))
 refine q_move rfl rfl rfl rfl (q_eq_nil rfl rfl rfl rfl Try.underlying58 ?_)
 refine s_eq 7 rfl (v' := .bool false) rfl ?_
 refine r_done (k_then_n (c_cond_f rfl ?_))
 refine c_skip (k_then_n (c_seq (c_seq (c_plain (.q 0 ((.l 1 [] (.q 2 (.done))))) (by kernel_rfl) ?_))))
 refine q_move rfl rfl rfl rfl ?_
 have sp_1 := Vp.rmay z
 refine l_call rfl rfl rfl rfl rfl rfl Try.call68 (sp_1) Ts ?_
 rintro ⟨⟩ -
 try simp only [List.cons_append, List.nil_append]
 refine ag_nil (q_not rfl rfl rfl rfl ?_)
 refine r_done (s_keep [0, 1, 10] (e' := [(0, _), (1, _), (10, _)]) rfl ?_)
 refine k_then_n ?_
 refine c_cond_np rfl (fun hk => ?_) (fun hk => ?_)
 ·
  rw [show wrE z = 2 from if_neg hk, show epV' t z = 0 from if_neg hk]
  refine c_seq (c_plain (.q 0 (.q 1 (.done))) (by kernel_rfl) ?_)
  refine q_assign rfl rfl rfl rfl (q_assign rfl rfl rfl rfl (r_done (k_then_n (c_ret (k_then_ret (ret2 rfl rfl rfl (()) (by first | rfl | (first | rfl | (congr 1; done) | (congr 1 <;> first | rfl | omega | (simp; done) | (simp; omega)))) (by trivial) ?_))))))
  exact Tf
 obtain ⟨i, rfl⟩ := Int.eq_ofNat_of_zero_le hk.1
 have hi : i < 65535 := by have := hk.2; omega
 rw [show wrE (i : Int) = 0 from if_pos hk, show epV' t (i : Int) = ((eN t i : Nat) : Int) from by rw [epV', if_pos hk, Int.toNat_natCast]]
 refine c_skip (k_then_n (c_seq (c_seq (c_plain (.q 0 (.q 1 ((.l 2 [] (.q 3 (.done)))))) (by kernel_rfl) ?_))))
 refine q_move rfl rfl rfl rfl (q_move rfl rfl rfl rfl ?_)
 have sp_2 := Rv.get_spec b t i
 refine l_call rfl rfl rfl rfl rfl rfl Try.call57 (sp_2) Ts ?_
 rintro ⟨⟩ -
 try simp only [List.cons_append, List.nil_append]
 refine ag_nil (q_int rfl rfl rfl rfl rfl (b_eql _ _ _ _) ?_)
 refine r_done (s_keep [0, 1, 14] (e' := [(0, _), (1, _), (14, _)]) rfl ?_)
 refine k_then_n ?_
 refine c_cond_p rfl (fun hz => ?_) (fun hz => ?_)
 ·
  refine c_seq (c_plain (.q 0 (.q 1 (.done))) (by kernel_rfl) ?_)
  refine q_assign rfl rfl rfl rfl (q_assign rfl rfl rfl rfl (r_done (k_then_n (c_ret (k_then_ret (ret2 rfl rfl rfl (()) (by rw [show eN t i = 0 from if_pos hz]; rfl) (by trivial) ?_))))))
  exact Tf
 have hgr := g_rng hl.rng (by decide) i
 obtain ⟨c, hc⟩ := Int.eq_ofNat_of_zero_le hgr.1
 simp only [maxC] at hgr
 have hen : eN t i = i * 281474976710656 + c := by rw [eN_pos hz, hc]; rfl
 refine c_skip (k_then_n (c_seq (c_plain (.q 0 (.q 1 (.q 2 ((.l 3 [] ((.l 4 [] (.q 5 (.q 6 (.q 7 (.q 8 (.done)))))))))))) (by kernel_rfl) ?_)))
 refine q_move rfl rfl rfl rfl (q_move rfl rfl rfl rfl (q_move rfl rfl rfl rfl ?_))
 have sp_3 := Rv.get_spec b t i
 refine l_call rfl rfl rfl rfl rfl rfl Try.call57 (sp_3) Ts ?_
 rintro ⟨⟩ -
 try simp only [List.cons_append, List.nil_append]
 refine ag_nil (s_eq 18 rfl (v' := .int .u64 ((c : Nat) : Int)) (by rw [hc]) ?_)
 have sp_4 := Vp.rpack i c hi (by omega)
 refine l_call rfl rfl rfl rfl rfl rfl Try.call74 (sp_4) Ts ?_
 rintro ⟨⟩ -
 try simp only [List.cons_append, List.nil_append]
 refine ag_nil (q_extract rfl rfl rfl rfl rfl (q_extract rfl rfl rfl rfl rfl (q_assign rfl rfl rfl rfl (q_assign rfl rfl rfl rfl (r_done (s_keep [4, 5] (e' := [(4, _), (5, _)]) rfl ?_))))))
 refine k_then_n (c_ret (ret2 rfl rfl rfl (()) (by rw [hen]) (by trivial) ?_))
 exact Tf
theorem rnewo : Spec Try.prog 31 [] [] (fun (r : Nat) => .pointer (some ⟨r, 0, none⟩)) (fun r => True) (fun r => [cells r 0 [.slice none 0 0], own 1 encU none 0 []]) := by
 refine spec_mk (n := 3) Try.func31 rfl rfl rfl ?_
 intro Γ w0
 simp only [argE, List.cons_append, List.nil_append, Nat.zero_add, Nat.reduceAdd]
 refine c_seq (c_plain (.q 0 (.done)) (by kernel_rfl) ?_)
 refine q_assign rfl rfl rfl rfl (r_done (k_then_n (c_seq (c_plain (.q 0 ((.l 1 [] (.q 2 (.done))))) (by kernel_rfl) ?_))))
 refine q_build rfl rfl rfl rfl (vs := [_]) (run_buildS Try.underlying81 Try.zeroValue81 (ps := [(0, 1)]) ⟨rfl, Try.sizeOf23, trivial⟩ rfl) ?_
 refine l_box rfl rfl rfl rfl (us := [_]) rfl ?_
 intro b2
 refine ag_nil (q_assign rfl rfl rfl rfl (r_done (k_then_n (c_ret (s_heap (fun _ h => own_nil (sz := 1) (enc := encU) h) ?_)))))
 refine ret1 rfl rfl (b2) (by first | rfl | (first | rfl | (congr 1; done) | (congr 1 <;> first | rfl | omega | (simp; done) | (simp; omega)))) (by trivial) ?_
 exact Tf
theorem rof (xs : List Int) (ao : Option Addr) (n c : Nat) (A : HProp) (hr : RdS A ao (xs.flatMap encU)) (hn : xs.length = n) (hx0 : ∀ x ∈ xs, 0 ≤ x) (hb : n ≤ 4000000000) : Spec Try.prog 49 [.slice ao n c] [A] (fun (r : Option Addr) => .tuple #[.pointer r, .int .i64 (ofE xs)]) (fun r => r = none ↔ ofM xs = none) (fun r => [A, plc ckB r (ofM xs)]) := by
 refine spec_mk (n := 35) Try.func49 rfl rfl rfl ?_
 intro Γ w0
 simp only [argE, List.cons_append, List.nil_append, Nat.zero_add, Nat.reduceAdd]
 refine c_seq (c_plain (.q 0 (.q 1 (.done))) (by kernel_rfl) ?_)
 refine q_assign rfl rfl rfl rfl (q_assign rfl rfl rfl rfl (r_done (k_then_n (c_seq (c_seq (c_plain (.q 0 (.q 1 (.q 2 (.done)))) (by kernel_rfl) ?_))))))
 refine q_move rfl rfl rfl rfl (q_len rfl rfl rfl rfl Try.underlying23 ?_)
 refine q_int rfl rfl rfl rfl rfl (b_gtr _ _ _ _) ?_
 refine r_done (s_keep [0, 8] (e' := [(0, _), (8, _)]) rfl ?_)
 refine k_then_n ?_
 refine c_cond_p rfl (fun hlong => ?_) (fun hlong => ?_)
 ·
  have hM : ofM xs = none := if_pos (by omega)
  have hE : ofE xs = 3 := if_pos (by omega)
  rw [hM, hE]
  refine c_seq (c_plain (.q 0 (.q 1 (.done))) (by kernel_rfl) ?_)
  refine q_assign rfl rfl rfl rfl (q_assign rfl rfl rfl rfl (r_done (k_then_n (c_ret (k_then_ret (plc_nil (R := ckB) ?_))))))
  refine ret2 rfl rfl rfl (none) (by first | rfl | (first | rfl | (congr 1; done) | (congr 1 <;> first | rfl | omega | (simp; done) | (simp; omega)))) (by simp) ?_
  exact Tf
 have hlo : ¬ 65535 < xs.length := by omega
 refine c_skip (k_then_n (c_seq (c_plain ((.l 0 [] (.q 1 (.done)))) (by kernel_rfl) ?_)))
 have sp_1 := Vp.rnewo
 refine l_call rfl rfl rfl rfl rfl rfl Try.call31 (sp_1) Ts ?_
 rintro q -
 try simp only [List.cons_append, List.nil_append]
 refine ag_nil (q_assign rfl rfl rfl rfl (r_done (k_then_n (c_seq (c_seq (c_plain (.q 0 (.done)) (by kernel_rfl) ?_))))))
 refine q_assign rfl rfl rfl rfl (r_done (k_then_n (c_block ?_)))
 refine c_loop2 (α := Nat × Option Addr × Nat) (fun (x_ : Nat × Option Addr × Nat) => match x_ with | (i, oa, oc) => i ≤ n ∧ (∀ x ∈ xs.take i, x ≤ maxC)) (fun (x_ : Nat × Option Addr × Nat) => match x_ with | (i, oa, oc) => [(5, .int .i64 ((i : Nat) : Int))]) (fun (x_ : Nat × Option Addr × Nat) => match x_ with | (i, oa, oc) => [cells q 0 [.slice oa ((xs.take i).length) oc], own 1 encU oa oc (xs.take i)]) (fun (x_ : Nat × Option Addr × Nat) => match x_ with | (i, oa, oc) => n - i) [0, 4] (er := [(0, _), (4, _)]) rfl (0, none, 0) ?_ (by exact ⟨rfl, trivial⟩) (by (try dsimp only); (try simp only [Nat.add_zero, Nat.zero_add]); (repeat ((with_reducible apply Z2); focus (first | (with_reducible (repeat (first | exact Z0 | apply Z1)); done) | (repeat (first | exact Z0 | apply Z1))))); exact Z3) ?_
 · exact ⟨Nat.zero_le _, fun x hx => by simp at hx⟩
 rintro ⟨i, oa, oc⟩ ⟨hle_i, hT_⟩
 try simp only [List.cons_append, List.nil_append]
 have htl : (xs.take i).length = i := by rw [List.length_take]; omega
 refine c_seq (c_seq (c_plain (.q 0 (.q 1 (.q 2 (.q 3 (.done))))) (by kernel_rfl) ?_))
 refine q_move rfl rfl rfl rfl (q_move rfl rfl rfl rfl (q_len rfl rfl rfl rfl Try.underlying23 ?_))
 refine q_int rfl rfl rfl rfl rfl (b_lss _ _ _ _) ?_
 refine r_done (k_then_n ?_)
 refine c_cond_p rfl (fun hlt => ?_) (fun hlt => ?_)
 ·
  refine c_skip (k_then_n (c_seq (c_block (c_seq (c_seq (c_plain (.q 0 (.q 1 (.q 2 (.q 3 (.q 4 (.done)))))) (by kernel_rfl) ?_))))))
  refine q_move rfl rfl rfl rfl (q_move rfl rfl rfl rfl ?_)
  obtain ⟨x, hx⟩ := get_lt (l := xs) (i := i) (by first | omega | (simp; done) | (simp; omega))
  refine q_idxR (sz := 0) (k := i) rfl rfl rfl rfl rfl Try.underlying23 Try.sizeOf30 (hr) hx encU_len (by first | rfl | omega) (by omega) ?_
  intro ib18 io18 _ hd18
  refine q_load rfl rfl rfl rfl Try.isAgg30 Tk (hd18 0 (.int .u64 x) rfl) ?_
  refine q_int rfl rfl rfl rfl rfl (b_gtr _ _ _ _) ?_
  refine r_done (s_keep [0, 4, 5, 20] (e' := [(0, _), (4, _), (5, _), (20, _)]) rfl ?_)
  refine k_then_n ?_
  refine c_cond_p rfl (fun hv => ?_) (fun hv => ?_)
  ·
   have hM : ofM xs = none := by rw [ofM, if_neg hlo, if_pos ⟨x, List.mem_of_getElem? hx, by simp only [maxC]; omega⟩]
   have hE : ofE xs = 30 := by rw [ofE, if_neg hlo, if_pos ⟨x, List.mem_of_getElem? hx, by simp only [maxC]; omega⟩]
   rw [hM, hE]
   refine c_seq (c_plain (.q 0 (.q 1 (.done))) (by kernel_rfl) ?_)
   refine q_assign rfl rfl rfl rfl (q_assign rfl rfl rfl rfl (r_done (s_keep [2, 3] (e' := [(2, _), (3, _)]) rfl ?_)))
   refine k_then_n (c_ret (k_then_ret (k_blk_ret (k_then_ret (k_then_ret (k_blk_ret (k_then_ret (plc_nil (R := ckB) ?_))))))))
   refine ret2 rfl rfl rfl (none) (by first | rfl | (first | rfl | (congr 1; done) | (congr 1 <;> first | rfl | omega | (simp; done) | (simp; omega)))) (by simp) ?_
   exact Tf
  have hv : x ≤ maxC := by simp only [maxC]; omega
  refine c_skip (k_then_n (c_draw rfl (.q 0 (.q 1 (.q 2 (.q 3 (.q 4 (.q 5 (.q 6 (.q 7 (.q 8 ((.l 9 [4] ((.l 10 [] (.q 11 (.q 12 ((.l 13 [] (.done)))))))))))))))))) (by kernel_rfl) ?_))
  refine q_move rfl rfl rfl rfl (q_move rfl rfl rfl rfl (q_nil_p rfl rfl rfl rfl (q_field (k := 0) rfl rfl rfl rfl Try.underlying81 rfl Try.sizeOf23 rfl ?_)))
  refine q_load_c (j := 0) rfl rfl rfl rfl Try.isAgg23 Tk Az (by rfl) ?_
  refine q_move rfl rfl rfl rfl (q_move rfl rfl rfl rfl (q_idxR (sz := 0) (k := i) rfl rfl rfl rfl rfl Try.underlying23 Try.sizeOf30 (hr) hx encU_len (by first | rfl | omega) (by omega) ?_))
  intro ib28 io28 _ hd28
  refine q_load rfl rfl rfl rfl Try.isAgg30 Tk (hd28 0 (.int .u64 x) rfl) ?_
  refine l_buildSlice rfl rfl rfl rfl (run_build1 (us := [_]) Try.underlying23 Try.sizeOf30 rfl Try.zeroValue30 rfl rfl rfl) ?_
  intro b30
  refine ag_load_c (q := 0) rfl rfl rfl Try.isAgg23 Tk Az (by rfl) ?_
  refine ag_nil (l_append (sz := 1) (enc := encU) (xs := (xs.take i)) rfl rfl rfl rfl rfl Try.underlying23 Try.typeInfo30 rfl rfl rfl (by decide) Tk Tk (by first | rfl | omega | (simp; done) | (simp; omega)) (ys := [x]) (rds_some rdn_cells) (by rfl) (by first | rfl | omega) (encU_len) (encU_one) (by omega) (by show _ * 8 ≤ _; omega) ?_)
  intro ao31 cp31
  refine ag_nil (q_nil_p rfl rfl rfl rfl (q_field (k := 0) rfl rfl rfl rfl Try.underlying81 rfl Try.sizeOf23 rfl ?_))
  refine l_store (j := 0) rfl rfl rfl rfl Try.sizeOf23 (us := [_]) rfl rfl rfl Tk Az (by first | decide | (simp; done) | omega) ?_
  simp only [setL, List.set]
  refine ag_nil (r_done (s_keep [0, 4, 5] (e' := [(0, _), (4, _), (5, _)]) rfl ?_))
  refine k_blk_n (k_then_n (c_plain (.q 0 (.q 1 (.q 2 (.done)))) (by kernel_rfl) ?_))
  refine q_move rfl rfl rfl rfl (q_int rfl rfl rfl rfl rfl (b_add' _ (by exact fits_i64 (by omega) (by omega))) ?_)
  refine q_assign rfl rfl rfl rfl (r_done (k_then_n ?_))
  rw [show xs.take i ++ [x] = xs.take (i + 1) from by rw [List.take_add_one, hx]; rfl]
  have htl2 : (xs.take i).length + 1 = (xs.take (i + 1)).length := by rw [htl, List.length_take]; omega
  rw [htl2]
  refine loop_next (x := (i, oa, oc)) ((i + 1, ao31, cp31)) ?_ ?_ ?_ ?_
  · try dsimp only
    exact ⟨by omega, fun y hy => (by rw [List.take_add_one, hx] at hy; rcases List.mem_append.1 hy with h | h; exact hT_ y h; simp at h; subst h; exact hv)⟩
  · show n - (i + 1) < n - i; omega
  · exact ⟨rfl, rfl, rfl, trivial⟩
  · (try simp only [List.cons_append, List.nil_append]); exact Tf
 refine c_exit (k_then_exit (k_then_exit (k_blk_here (k_then_n (c_seq ?_)))))
 obtain rfl : i = n := by omega
 rw [show xs.take i = xs from List.take_of_length_le (by omega)] at hT_ ⊢
 have hno : ¬ ∃ x ∈ xs, maxC < x := fun ⟨x, h1, h2⟩ => absurd (hT_ x h1) (by omega)
 rw [show ofM xs = some (tr xs) from by rw [ofM, if_neg hlo, if_neg hno], show ofE xs = 0 from by rw [ofE, if_neg hlo, if_neg hno]]
 have hov : OkV xs := ⟨by omega, fun x hx => ⟨hx0 x hx, hT_ x hx⟩⟩
 refine c_plain (.q 0 (.q 1 (.q 2 (.done)))) (by kernel_rfl) ?_
 refine q_move rfl rfl rfl rfl (q_assign rfl rfl rfl rfl (q_assign rfl rfl rfl rfl (r_done (s_keep [2, 3] (e' := [(2, _), (3, _)]) rfl ?_))))
 refine k_then_n (c_ret (ck_fold (b := q) (ao := oa) (cap := oc) (l := xs) (tr xs) Ts (by rfl) hov rfl ?_))
 refine plc_put (R := ckB) (b := q) (t := tr xs) Tk ?_
 refine ret2 rfl rfl rfl ((some ⟨q, 0, none⟩)) (by first | rfl | (first | rfl | (congr 1; done) | (congr 1 <;> first | rfl | omega | (simp; done) | (simp; omega)))) (by simp) ?_
 exact Tf
end Go.Ab.Vp
set_option linter.unusedVariables false
set_option linter.unusedSimpArgs false
set_option maxRecDepth 100000
namespace Go.Ab.Vp
open Go Go.Proofs Go.Ab Go.Ab.Vc Go.Ab.Rv
def ptr (L : List Pl) (p : Nat) : Option Addr := (L.getD p (none, none)).1
def mem (L : List Pl) (p : Nat) : Option (List Int) := (L.getD p (none, none)).2
theorem ptr_of {L : List Pl} {p : Nat} {a : Option Addr} {m : Option (List Int)} (h : L[p]? = some (a, m)) : ptr L p = a := by simp [ptr, List.getD_eq_getElem?_getD, h]
theorem mem_of {L : List Pl} {p : Nat} {a : Option Addr} {m : Option (List Int)} (h : L[p]? = some (a, m)) : mem L p = m := by simp [mem, List.getD_eq_getElem?_getD, h]
/-- Is one of these places empty? -/
def badP (L : List Pl) (ps : List Nat) : Prop := ∃ p ∈ ps, mem L p = none
instance (L : List Pl) (ps : List Nat) : Decidable (badP L ps) := inferInstanceAs (Decidable (∃ p ∈ ps, mem L p = none))
def jnP (L : List Pl) (t : List Int) (ps : List Nat) : List Int := ps.foldl (fun c p => jn c ((mem L p).getD [])) t
def mtP (L : List Pl) (t : List Int) (ps : List Nat) : List Int := ps.foldl (fun c p => mt c ((mem L p).getD [])) t
theorem jnP_next {L : List Pl} {t : List Int} {ps : List Nat} {k p : Nat} {u : List Int} (hp : ps[k]? = some p) (hu : mem L p = some u) : jnP L t (ps.take (k + 1)) = jn (jnP L t (ps.take k)) u := by
  rw [List.take_add_one, hp, jnP, jnP, List.foldl_append]; simp [hu]
theorem mtP_next {L : List Pl} {t : List Int} {ps : List Nat} {k p : Nat} {u : List Int} (hp : ps[k]? = some p) (hu : mem L p = some u) : mtP L t (ps.take (k + 1)) = mt (mtP L t (ps.take k)) u := by
  rw [List.take_add_one, hp, mtP, mtP, List.foldl_append]; simp [hu]
def oE (L : List Pl) (ps : List Nat) : Int := if badP L ps then 1 else 0
/-- The lists that were copied. -/
def DOk (L : List Pl) (ps : List Nat) (D : List (LstA Int)) (i : Nat) : Prop := D.length = i ∧ ∀ (k p : Nat) (d : LstA Int), ps[k]? = some p → D[k]? = some d → OkV d.2.2 ∧ mem L p = some (tr d.2.2)
theorem dok_nil (L : List Pl) (ps : List Nat) : DOk L ps [] 0 := ⟨rfl, fun k p d _ h => by simp at h⟩
theorem dok_next {L : List Pl} {ps : List Nat} {D : List (LstA Int)} {i p : Nat} {a : Option Addr} {c : Nat} {l t : List Int} (h : DOk L ps D i) (hp : ps[i]? = some p) (ho : OkV l) (ht : tr l = t) (hm : mem L p = some t) : DOk L ps (D ++ [(a, c, l)]) (i + 1) :=
  ⟨by rw [List.length_append, h.1]; rfl, fun k q d hq hd => by
    rcases Nat.lt_or_ge k D.length with h1 | h1
    · rw [List.getElem?_append_left h1] at hd; exact h.2 k q d hq hd
    · rw [List.getElem?_append_right h1] at hd
      obtain ⟨h2, rfl⟩ : k - D.length = 0 ∧ d = (a, c, l) := by
        cases hk : k - D.length with
        | zero => rw [hk] at hd; simp at hd; exact ⟨rfl, hd.symm⟩
        | succ j => rw [hk] at hd; simp at hd
      have h3 : k = i := by have := h.1; omega
      subst h3
      rw [hp] at hq; cases hq
      exact ⟨ho, by rw [hm, ht]⟩⟩
theorem dok_good {L : List Pl} {ps : List Nat} {D : List (LstA Int)} {n : Nat} (h : DOk L ps D n) (hn : ps.length = n) : ¬ badP L ps := fun ⟨p, hp, hm⟩ => by
  obtain ⟨k, hk⟩ := List.getElem?_of_mem hp
  obtain ⟨d, hd⟩ := get_lt (l := D) (i := k) (by have := (List.getElem?_eq_some_iff.1 hk).1; have := h.1; omega)
  rw [(h.2 k p d hk hd).2] at hm; cases hm
theorem mtI_ok {v m : List Int} (hv : OkV v) (hm : OkV m) (i : Nat) : OkV (mtI v m i) := ⟨by rw [mtI_len]; exact hv.1, fun x hx => by
  obtain ⟨j, -, rfl⟩ := List.mem_map.1 hx
  have a := ok_g hv j
  have b := ok_g hm j
  split <;> omega⟩
theorem mtI_tr {v m : List Int} (hv : OkV v) (hm : OkV m) {i : Nat} (hi : v.length ≤ i) : tr (mtI v m i) = mt (tr v) (tr m) :=
  Tr_ext (tr_Tr _) (mt_cv (ok_cv hv) (ok_cv hm)).tr fun k => by
    rw [tr_g, mt_g (ok_cv hv) (ok_cv hm), tr_g, tr_g]
    rcases Nat.lt_or_ge k v.length with h | h
    · rw [Vc.getD_mem (mtI_get h), if_pos (by omega)]
    · rw [g_out (by rw [mtI_len]; omega), g_out (l := v) h]
      have := ok_g hm k
      omega
theorem mtI_put {v m : List Int} {i : Nat} (hi : i < v.length) (h : m.getD i 0 < v.getD i 0) : (mtI v m i).set i (m.getD i 0) = mtI v m (i + 1) := by
  rw [← mtI_next hi, Int.min_eq_right (by omega)]
theorem mtI_skip {v m : List Int} {i : Nat} (hi : i < v.length) (h : ¬ m.getD i 0 < v.getD i 0) : mtI v m (i + 1) = mtI v m i := by
  rw [← mtI_next hi, Int.min_eq_left (by omega)]
  exact set_same (by rw [mtI_get hi, if_neg (by omega)])
theorem rlists (L : List Pl) (ps : List Nat) (hps : ∀ p ∈ ps, p < L.length) (oo : Option Addr) (n c : Nat) (A : HProp) (hr : RdS A oo ((ps.map (ptr L)).flatMap encA)) (hn : ps.length = n) (hb : n ≤ 4000000000) : Spec Try.prog 70 [.slice oo n c] [A, bigS (plF ckB) L] (fun (r : Option Addr × Nat × List (LstA Int) × Bool) => .tuple #[.slice r.1 r.2.2.1.length r.2.1, .bool r.2.2.2]) (fun r => r.2.2.2 = !decide (badP L ps) ∧ (¬ badP L ps → DOk L ps r.2.2.1 ps.length)) (fun r => [A, bigS (plF ckB) L, own 1 encH r.1 r.2.1 r.2.2.1, bigS (owA 1 encU) r.2.2.1]) := by
 refine spec_mk (n := 30) Try.func70 rfl rfl rfl ?_
 intro Γ w0
 simp only [argE, List.cons_append, List.nil_append, Nat.zero_add, Nat.reduceAdd]
 refine c_seq (c_plain (.q 0 (.q 1 (.done))) (by kernel_rfl) ?_)
 refine q_assign rfl rfl rfl rfl (q_assign rfl rfl rfl rfl (r_done (k_then_n (c_seq (c_plain (.q 0 (.done)) (by kernel_rfl) ?_)))))
 refine q_assign rfl rfl rfl rfl (r_done (k_then_n (c_seq (c_seq (c_plain (.q 0 (.done)) (by kernel_rfl) ?_)))))
 refine q_assign rfl rfl rfl rfl (r_done (k_then_n (c_block (s_heap (fun _ h => own_nil (sz := 1) (enc := (encH : LstA Int → List Value)) h) ?_))))
 refine s_big_nil (f := owA 1 encU) ?_
 refine c_loop2 (α := Nat × List (LstA Int) × Option Addr × Nat) (fun (x_ : Nat × List (LstA Int) × Option Addr × Nat) => match x_ with | (i, D, la, lc) => i ≤ n ∧ (DOk L ps D i)) (fun (x_ : Nat × List (LstA Int) × Option Addr × Nat) => match x_ with | (i, D, la, lc) => [(4, .slice la D.length lc), (5, .int .i64 ((i : Nat) : Int))]) (fun (x_ : Nat × List (LstA Int) × Option Addr × Nat) => match x_ with | (i, D, la, lc) => [bigS (owA 1 encU) D, bigS (plF ckB) L, own 1 encH la lc D]) (fun (x_ : Nat × List (LstA Int) × Option Addr × Nat) => match x_ with | (i, D, la, lc) => n - i) [0] (er := [(0, _)]) rfl (0, [], none, 0) ?_ (by exact ⟨rfl, rfl, trivial⟩) (by (try dsimp only); (try simp only [Nat.add_zero, Nat.zero_add]); (repeat ((with_reducible apply Z2); focus (first | (with_reducible (repeat (first | exact Z0 | apply Z1)); done) | (repeat (first | exact Z0 | apply Z1))))); exact Z3) ?_
 · exact ⟨Nat.zero_le _, dok_nil _ _⟩
 rintro ⟨i, D, la, lc⟩ ⟨hle_i, hD⟩
 try simp only [List.cons_append, List.nil_append]
 have hDl := hD.1
 refine c_seq (c_seq (c_plain (.q 0 (.q 1 (.q 2 (.q 3 (.done))))) (by kernel_rfl) ?_))
 refine q_move rfl rfl rfl rfl (q_move rfl rfl rfl rfl (q_len rfl rfl rfl rfl Try.underlying88 ?_))
 refine q_int rfl rfl rfl rfl rfl (b_lss _ _ _ _) ?_
 refine r_done (k_then_n ?_)
 refine c_cond_p rfl (fun hlt => ?_) (fun hlt => ?_)
 ·
  obtain ⟨p, hp⟩ := get_lt (l := ps) (i := i) (by omega)
  obtain ⟨⟨a, m⟩, hx⟩ := get_lt (l := L) (i := p) (hps p (List.mem_of_getElem? hp))
  have ha : (ps.map (ptr L))[i]? = some a := by rw [List.getElem?_map, hp, Option.map_some, ptr_of hx]
  refine c_skip (k_then_n (c_seq (c_block (c_seq (c_seq (c_plain (.q 0 (.q 1 (.q 2 (.q 3 (.q 4 (.done)))))) (by kernel_rfl) ?_))))))
  refine q_move rfl rfl rfl rfl (q_move rfl rfl rfl rfl (q_idxR (sz := 0) (k := i) rfl rfl rfl rfl rfl Try.underlying88 Try.sizeOf58 (hr) ha encA_len (by first | rfl | omega) (by omega) ?_))
  intro ib14 io14 _ hd14
  refine q_load rfl rfl rfl rfl Try.isAgg58 Tk (hd14 0 (.pointer a) rfl) ?_
  refine q_eq_nil rfl rfl rfl rfl Try.underlying58 ?_
  refine r_done (s_keep [0, 4, 5, 16] (e' := [(0, _), (4, _), (5, _), (16, _)]) rfl ?_)
  refine k_then_n (big_iff (R := ckB) (L := L) (i := p) Tk hx fun hiff => ?_)
  refine c_cond rfl (fun hnil => ?_) (fun hnil => ?_)
  ·
   try simp only [Bool.and_eq_true, Bool.or_eq_true, Bool.not_eq_true', Bool.not_eq_false', Bool.and_eq_false_iff, Bool.or_eq_false_iff, decide_eq_true_eq, decide_eq_false_iff_not] at hnil
   obtain rfl : m = none := hiff.1 (by simpa using hnil)
   have hbad : badP L ps := ⟨p, List.mem_of_getElem? hp, mem_of hx⟩
   refine c_seq (c_plain (.q 0 (.q 1 (.done))) (by kernel_rfl) ?_)
   refine q_assign rfl rfl rfl rfl (q_assign rfl rfl rfl rfl (r_done (s_keep [2, 3] (e' := [(2, _), (3, _)]) rfl ?_)))
   refine k_then_n (c_ret (k_then_ret (k_blk_ret (k_then_ret (k_then_ret (k_blk_ret (k_then_ret (s_heap (fun _ h => own_nil (sz := 1) (enc := (encH : LstA Int → List Value)) h) ?_))))))))
   refine s_big_nil (f := owA 1 encU) ?_
   refine ret2 rfl rfl rfl ((none, 0, [], false)) (by first | rfl | (first | rfl | (congr 1; done) | (congr 1 <;> first | rfl | omega | (simp; done) | (simp; omega)))) (by exact ⟨by simp [hbad], fun h => absurd hbad h⟩) ?_
   exact Tf
  try simp only [Bool.and_eq_true, Bool.or_eq_true, Bool.not_eq_true', Bool.not_eq_false', Bool.and_eq_false_iff, Bool.or_eq_false_iff, decide_eq_true_eq, decide_eq_false_iff_not] at hnil
  obtain ⟨t, rfl⟩ : ∃ t, m = some t := by
    cases m with
    | none => exact absurd (hiff.2 rfl) (by intro e; subst e; simp at hnil)
    | some t => exact ⟨t, rfl⟩
  refine s_big_take (f := plF ckB) (L := L) (i := p) Tk hx ?_
  refine plc_get (R := ckB) (a := a) (t := t) Tk fun b hab => ?_
  subst hab
  refine ck_open (b := b) (t := t) Tk fun ao cap l ho ht => ?_
  have hll := ho.1
  refine c_skip (k_then_n (c_plain (.q 0 ((.l 1 [] (.q 2 (.q 3 (.q 4 (.q 5 (.q 6 (.q 7 (.q 8 ((.l 9 [] ((.l 10 [] ((.l 11 [] (.q 12 (.done)))))))))))))))))) (by kernel_rfl) ?_))
  refine q_move rfl rfl rfl rfl (l_buildSlice0 rfl rfl rfl rfl Try.underlying23 Try.sizeOf30 ?_)
  intro b18
  refine ag_nil (q_move rfl rfl rfl rfl (q_move rfl rfl rfl rfl (q_idxR (sz := 0) (k := i) rfl rfl rfl rfl rfl Try.underlying88 Try.sizeOf58 (hr) ha encA_len (by first | rfl | omega) (by omega) ?_)))
  intro ib21 io21 _ hd21
  refine q_load rfl rfl rfl rfl Try.isAgg58 Tk (hd21 0 (.pointer (some ⟨b, 0, none⟩)) rfl) ?_
  refine s_eq 22 rfl (v' := .pointer (some ⟨b, 0, none⟩)) (by rfl) ?_
  refine q_nil_p rfl rfl rfl rfl (q_field (k := 0) rfl rfl rfl rfl Try.underlying81 rfl Try.sizeOf23 rfl ?_)
  refine q_load_c (j := 0) rfl rfl rfl rfl Try.isAgg23 Tk Az (by rfl) ?_
  refine s_take (A := own 1 encU ao cap l) Tk ?_
  refine own_fc fun f_1a f_1b f_1c => ?_
  refine s_take (A := cells b18 0 []) Tk ?_
  refine s_heap (fun _ h => own_mk (sz := 1) (enc := encU) (xs := []) (sp := []) (cap := 0) (Nat.le_refl _) rfl h) ?_
  refine l_append (sz := 1) (enc := encU) (xs := []) rfl rfl rfl rfl rfl Try.underlying23 Try.typeInfo30 rfl rfl rfl (by decide) Tk Tk (by first | rfl | omega | (simp; done) | (simp; omega)) (ys := l) (rds_own encU_len (fun h => (f_1b h).1) f_1c) (by rfl) (by first | rfl | omega) (encU_len) (encU_one) (by omega) (by show _ * 8 ≤ _; omega) ?_
  intro ao26 cp26
  try simp only [List.nil_append]
  refine s_eq 26 rfl (v' := .slice ao26 l.length cp26) (by first | rfl | (congr 1; done) | (congr 1 <;> first | rfl | omega | (simp; done) | (simp; omega))) ?_
  refine ag_nil (l_buildSlice rfl rfl rfl rfl (run_build1 (us := [_]) Try.underlying60 Try.sizeOf23 rfl Try.zeroValue23 rfl rfl rfl) ?_)
  intro b27
  refine ag_nil (l_append (sz := 1) (enc := encH) (xs := D) rfl rfl rfl rfl rfl Try.underlying60 Try.typeInfo23 rfl rfl rfl (by decide) Tk Tk (by first | rfl | omega | (simp; done) | (simp; omega)) (ys := [((ao26, cp26, l) : LstA Int)]) (rds_some rdn_cells) (by rfl) (by first | rfl | omega) (encH_len) (encH_one) (by omega) (by show _ * 24 ≤ _; omega) ?_)
  intro ao28 cp28
  refine ag_nil (q_assign rfl rfl rfl rfl (r_done (s_keep [0, 4, 5] (e' := [(0, _), (4, _), (5, _)]) rfl ?_)))
  refine k_blk_n (k_then_n (c_plain (.q 0 (.q 1 (.q 2 (.done)))) (by kernel_rfl) ?_))
  refine q_move rfl rfl rfl rfl (q_int rfl rfl rfl rfl rfl (b_add' _ (by exact fits_i64 (by omega) (by omega))) ?_)
  refine q_assign rfl rfl rfl rfl (r_done (k_then_n (ck_fold (b := b) (ao := ao) (cap := cap) (l := l) t Ts (by first | rfl | simp) ho ht ?_)))
  refine plc_put (R := ckB) (b := b) (t := t) Tk ?_
  refine s_big_put (f := plF ckB) (L := L) (i := p) (y := (some ⟨b, 0, none⟩, some t)) Ts (List.getElem?_eq_some_iff.1 hx).1 ?_
  rw [set_same hx]
  refine s_big_push (f := owA 1 encU) (L := D) (x := (ao26, cp26, l)) Ts ?_
  refine s_eq 4 rfl (v' := .slice ao28 (D ++ [(ao26, cp26, l)]).length cp28) (by simp) ?_
  refine loop_next (x := (i, D, la, lc)) ((i + 1, D ++ [(ao26, cp26, l)], ao28, cp28)) ?_ ?_ ?_ ?_
  · try dsimp only
    exact ⟨by omega, dok_next hD hp ho ht (mem_of hx)⟩
  · show n - (i + 1) < n - i; omega
  · exact ⟨rfl, rfl, rfl, trivial⟩
  · (try simp only [List.cons_append, List.nil_append]); exact Tf
 refine c_exit (k_then_exit (k_then_exit (k_blk_here (k_then_n (c_seq (c_plain (.q 0 (.q 1 (.q 2 (.done)))) (by kernel_rfl) ?_))))))
 refine q_move rfl rfl rfl rfl (q_assign rfl rfl rfl rfl (q_assign rfl rfl rfl rfl (r_done (s_keep [2, 3] (e' := [(2, _), (3, _)]) rfl ?_))))
 refine k_then_n (c_ret ?_)
 obtain rfl : i = n := by omega
 have hng := dok_good hD hn
 refine ret2 rfl rfl rfl ((la, lc, D, true)) (by first | rfl | (first | rfl | (congr 1; done) | (congr 1 <;> first | rfl | omega | (simp; done) | (simp; omega)))) (by exact ⟨by simp [hng], fun _ => by rw [hn]; exact hD⟩) ?_
 exact Tf
theorem rjoin (L : List Pl) (ps : List Nat) (hps : ∀ p ∈ ps, p < L.length) (oo : Option Addr) (n c : Nat) (A : HProp) (hr : RdS A oo ((ps.map (ptr L)).flatMap encA)) (hn : ps.length = n) (hb : n ≤ 4000000000) (q b : Nat) (t : List Int) (hx : L[q]? = some (some ⟨b, 0, none⟩, some t)) : Spec Try.prog 55 [.pointer (some ⟨b, 0, none⟩), .slice oo n c] [A, bigS (plF ckB) L] (fun (_ : Unit) => .int .i64 (oE L ps)) (fun _ => True) (fun _ => [A, bigS (plF ckB) (L.set q (some ⟨b, 0, none⟩, some (if badP L ps then t else jnP L t ps)))]) := by
 refine spec_mk (n := 56) Try.func55 rfl rfl rfl ?_
 intro Γ w0
 simp only [argE, List.cons_append, List.nil_append, Nat.zero_add, Nat.reduceAdd]
 refine c_seq (c_plain (.q 0 (.done)) (by kernel_rfl) ?_)
 refine q_assign rfl rfl rfl rfl (r_done (k_then_n (c_seq (c_plain (.q 0 ((.l 1 [] (.q 2 (.q 3 (.q 4 (.q 5 (.q 6 (.done))))))))) (by kernel_rfl) ?_))))
 refine q_move rfl rfl rfl rfl ?_
 have sp_1 := Vp.rlists L ps hps oo n c A hr hn hb
 refine l_call rfl rfl rfl rfl rfl rfl Try.call70 (sp_1) Ts ?_
 rintro ⟨la, lc, D, ok⟩ ⟨hok, hD⟩
 simp only at hok hD
 try simp only [List.cons_append, List.nil_append]
 refine ag_nil (q_move rfl rfl rfl rfl (q_extract rfl rfl rfl rfl rfl (q_extract rfl rfl rfl rfl rfl (q_assign rfl rfl rfl rfl (q_assign rfl rfl rfl rfl (r_done (s_keep [0, 5, 6] (e' := [(0, _), (5, _), (6, _)]) rfl ?_)))))))
 refine k_then_n (c_seq (c_seq (c_plain (.q 0 (.q 1 (.q 2 (.q 3 (.q 4 (.q 5 (.done))))))) (by kernel_rfl) ?_)))
 refine q_move rfl rfl rfl rfl (q_eq_nil rfl rfl rfl rfl Try.underlying58 ?_)
 refine s_eq 15 rfl (v' := .bool false) rfl ?_
 refine q_move rfl rfl rfl rfl (q_move rfl rfl rfl rfl (q_not rfl rfl rfl rfl ?_))
 refine q_pick_f rfl rfl rfl rfl rfl (r_done (s_keep [0, 5, 19] (e' := [(0, _), (5, _), (19, _)]) rfl ?_))
 refine k_then_n ?_
 refine c_cond rfl (fun hno => ?_) (fun hno => ?_)
 ·
  try simp only [Bool.and_eq_true, Bool.or_eq_true, Bool.not_eq_true', Bool.not_eq_false', Bool.and_eq_false_iff, Bool.or_eq_false_iff, decide_eq_true_eq, decide_eq_false_iff_not] at hno
  have hbad : badP L ps := by simpa [hok] using hno
  rw [show oE L ps = 1 from if_pos hbad, if_pos hbad, set_same hx]
  refine c_seq (c_plain (.q 0 (.done)) (by kernel_rfl) ?_)
  refine q_assign rfl rfl rfl rfl (r_done (k_then_n (c_ret (k_then_ret (ret1 rfl rfl (()) (by first | rfl | (first | rfl | (congr 1; done) | (congr 1 <;> first | rfl | omega | (simp; done) | (simp; omega)))) (by trivial) ?_)))))
  exact Tf
 try simp only [Bool.and_eq_true, Bool.or_eq_true, Bool.not_eq_true', Bool.not_eq_false', Bool.and_eq_false_iff, Bool.or_eq_false_iff, decide_eq_true_eq, decide_eq_false_iff_not] at hno
 have hng : ¬ badP L ps := by simpa [hok] using hno
 have hD := hD hng
 have hDl := hD.1
 rw [show oE L ps = 0 from if_neg hng, if_neg hng]
 refine s_big_take (f := plF ckB) (L := L) (i := q) Tk hx ?_
 refine plc_getb (R := ckB) (b := b) (t := t) Tk ?_
 refine ck_open (b := b) (t := t) Tk fun ao cap l ho ht => ?_
 have hll := ho.1
 refine c_skip (k_then_n (c_seq (c_seq (c_plain (.q 0 (.done)) (by kernel_rfl) ?_))))
 refine q_assign rfl rfl rfl rfl (r_done (k_then_n (c_block ?_)))
 refine c_loop2 (α := Nat × List Int × Option Addr × Nat) (fun (x_ : Nat × List Int × Option Addr × Nat) => match x_ with | (k, v, va, vc) => k ≤ D.length ∧ (OkV v) ∧ (tr v = jnP L t (ps.take k))) (fun (x_ : Nat × List Int × Option Addr × Nat) => match x_ with | (k, v, va, vc) => [(7, .int .i64 ((k : Nat) : Int))]) (fun (x_ : Nat × List Int × Option Addr × Nat) => match x_ with | (k, v, va, vc) => [cells b 0 [.slice va v.length vc], own 1 encU va vc v]) (fun (x_ : Nat × List Int × Option Addr × Nat) => match x_ with | (k, v, va, vc) => D.length - k) [0, 5] (er := [(0, _), (5, _)]) rfl (0, l, ao, cap) ?_ (by exact ⟨rfl, trivial⟩) (by (try dsimp only); (try simp only [Nat.add_zero, Nat.zero_add]); (repeat ((with_reducible apply Z2); focus (first | (with_reducible (repeat (first | exact Z0 | apply Z1)); done) | (repeat (first | exact Z0 | apply Z1))))); exact Z3) ?_
 · exact ⟨Nat.zero_le _, ho, ht⟩
 rintro ⟨k, v, va, vc⟩ ⟨hle_k, hov, hv⟩
 try simp only [List.cons_append, List.nil_append]
 have hvl := hov.1
 refine c_seq (c_seq (c_plain (.q 0 (.q 1 (.q 2 (.q 3 (.done))))) (by kernel_rfl) ?_))
 refine q_move rfl rfl rfl rfl (q_move rfl rfl rfl rfl (q_len rfl rfl rfl rfl Try.underlying60 ?_))
 refine q_int rfl rfl rfl rfl rfl (b_lss _ _ _ _) ?_
 refine r_done (k_then_n ?_)
 refine c_cond_p rfl (fun hlt => ?_) (fun hlt => ?_)
 ·
  obtain ⟨p, hp⟩ := get_lt (l := ps) (i := k) (by omega)
  obtain ⟨⟨ma, mc, m⟩, hd⟩ := get_lt (l := D) (i := k) (by omega)
  obtain ⟨hom, hmp⟩ := hD.2 k p _ hp hd
  simp only at hom hmp
  have hml := hom.1
  refine s_owA (T := D) Tk hd fun hd1 hd2 => ?_
  refine c_skip (k_then_n (c_seq (c_block (c_seq (c_plain (.q 0 (.done)) (by kernel_rfl) ?_)))))
  refine q_assign rfl rfl rfl rfl (r_done (s_keep [0, 5, 7, 8] (e' := [(0, _), (5, _), (7, _), (8, _)]) rfl ?_))
  refine k_then_n (c_block ?_)
  refine c_loop2 (α := Nat × List Int × Option Addr × Nat) (fun (x_ : Nat × List Int × Option Addr × Nat) => match x_ with | (i, w_, wa, wc) => i ≤ m.length ∧ (OkV w_) ∧ (JnI v m w_ i)) (fun (x_ : Nat × List Int × Option Addr × Nat) => match x_ with | (i, w_, wa, wc) => [(8, .int .i64 ((i : Nat) : Int))]) (fun (x_ : Nat × List Int × Option Addr × Nat) => match x_ with | (i, w_, wa, wc) => [cells b 0 [.slice wa w_.length wc], own 1 encU wa wc w_]) (fun (x_ : Nat × List Int × Option Addr × Nat) => match x_ with | (i, w_, wa, wc) => m.length - i) [0, 5, 7] (er := [(0, _), (5, _), (7, _)]) rfl (0, v, va, vc) ?_ (by exact ⟨rfl, trivial⟩) (by (try dsimp only); (try simp only [Nat.add_zero, Nat.zero_add]); (repeat ((with_reducible apply Z2); focus (first | (with_reducible (repeat (first | exact Z0 | apply Z1)); done) | (repeat (first | exact Z0 | apply Z1))))); exact Z3) ?_
  · exact ⟨Nat.zero_le _, hov, JnI_zero _ _⟩
  rintro ⟨i, w_, wa, wc⟩ ⟨hle_i, how, hJ⟩
  try simp only [List.cons_append, List.nil_append]
  have hwl := how.1
  refine c_seq (c_seq (c_plain (.q 0 (.q 1 (.q 2 (.q 3 (.q 4 (.q 5 (.q 6 (.done)))))))) (by kernel_rfl) ?_))
  refine q_move rfl rfl rfl rfl (q_move rfl rfl rfl rfl (q_move rfl rfl rfl rfl (q_idxO (sz := 0) (k := k) (enc := encH) (xs := D) rfl rfl rfl rfl rfl Try.underlying60 Try.sizeOf23 hd (by first | rfl | omega) (by omega) Tk ?_)))
  intro ib29 io29 ha29 hl29 hc29
  refine q_load_O (v := (.slice ma m.length mc)) (j := 0) (k' := k) (enc := encH) (off := io29) rfl rfl rfl rfl Try.isAgg23 ha29 encH_len hd Tk (by first | rfl | exact (Nat.add_zero _).symm | omega) (by rfl) ?_
  refine q_len rfl rfl rfl rfl Try.underlying23 ?_
  refine q_int rfl rfl rfl rfl rfl (b_lss _ _ _ _) ?_
  refine r_done (s_keep [0, 5, 7, 8, 32] (e' := [(0, _), (5, _), (7, _), (8, _), (32, _)]) rfl ?_)
  refine k_then_n ?_
  refine c_cond_p rfl (fun hli => ?_) (fun hli => ?_)
  ·
   refine c_skip (k_then_n (c_seq (c_block (c_seq ?_))))
   obtain ⟨y, hy⟩ := get_lt (l := m) (i := i) (by omega)
   have hyg : m.getD i 0 = y := Rv.getD_of hy
   have hyr := hom.2 y (List.mem_of_getElem? hy)
   refine c_draw rfl (.q 0 (.q 1 (.q 2 (.q 3 (.q 4 (.q 5 (.q 6 (.q 7 (.q 8 ((.l 9 [3, 6] (.q 10 (.done))))))))))))) (by kernel_rfl) ?_
   refine q_move rfl rfl rfl rfl (q_move rfl rfl rfl rfl (q_idxO (sz := 0) (k := k) (enc := encH) (xs := D) rfl rfl rfl rfl rfl Try.underlying60 Try.sizeOf23 hd (by first | rfl | omega) (by omega) Tk ?_))
   intro ib37 io37 ha37 hl37 hc37
   refine q_load_O (v := (.slice ma m.length mc)) (j := 0) (k' := k) (enc := encH) (off := io37) rfl rfl rfl rfl Try.isAgg23 ha37 encH_len hd Tk (by first | rfl | exact (Nat.add_zero _).symm | omega) (by rfl) ?_
   refine q_move rfl rfl rfl rfl (q_idxR (sz := 0) (k := i) rfl rfl rfl rfl rfl Try.underlying23 Try.sizeOf30 (rds_big (f := owA 1 encU) (List.mem_of_getElem? hd) (rds_own encU_len hd1 hd2)) hy encU_len (by first | rfl | omega) (by omega) ?_)
   intro ib40 io40 _ hd40
   refine q_load rfl rfl rfl rfl Try.isAgg30 Tk (hd40 0 (.int .u64 y) rfl) ?_
   refine q_move rfl rfl rfl rfl (q_move rfl rfl rfl rfl ?_)
   have sp_2 := Rv.get_open b wa wc w_ how i
   refine l_call rfl rfl rfl rfl rfl rfl Try.call57 (sp_2) Ts ?_
   rintro ⟨⟩ -
   try simp only [List.cons_append, List.nil_append]
   refine ag_load_O (v := (.slice ma m.length mc)) (j := 0) (k' := k) (enc := encH) (off := io37) rfl rfl rfl Try.isAgg23 ha37 encH_len hd Tk (by first | rfl | exact (Nat.add_zero _).symm | omega) (by rfl) ?_
   refine ag_load rfl rfl rfl Try.isAgg30 Tk (hd40 0 (.int .u64 y) rfl) ?_
   refine ag_nil (q_int rfl rfl rfl rfl rfl (b_gtr _ _ _ _) ?_)
   refine r_done (s_keep [0, 5, 7, 8, 45] (e' := [(0, _), (5, _), (7, _), (8, _), (45, _)]) rfl ?_)
   refine k_then_n ?_
   refine c_cond_p rfl (fun hgt => ?_) (fun hgt => ?_)
   ·
    refine c_plain (.q 0 (.q 1 (.q 2 (.q 3 (.q 4 (.q 5 (.q 6 (.q 7 (.q 8 ((.l 9 [] (.done)))))))))))) (by kernel_rfl) ?_
    refine q_move rfl rfl rfl rfl (q_move rfl rfl rfl rfl (q_move rfl rfl rfl rfl (q_move rfl rfl rfl rfl (q_idxO (sz := 0) (k := k) (enc := encH) (xs := D) rfl rfl rfl rfl rfl Try.underlying60 Try.sizeOf23 hd (by first | rfl | omega) (by omega) Tk ?_))))
    intro ib50 io50 ha50 hl50 hc50
    refine q_load_O (v := (.slice ma m.length mc)) (j := 0) (k' := k) (enc := encH) (off := io50) rfl rfl rfl rfl Try.isAgg23 ha50 encH_len hd Tk (by first | rfl | exact (Nat.add_zero _).symm | omega) (by rfl) ?_
    refine q_move rfl rfl rfl rfl (q_idxR (sz := 0) (k := i) rfl rfl rfl rfl rfl Try.underlying23 Try.sizeOf30 (rds_big (f := owA 1 encU) (List.mem_of_getElem? hd) (rds_own encU_len hd1 hd2)) hy encU_len (by first | rfl | omega) (by omega) ?_)
    intro ib53 io53 _ hd53
    refine q_load rfl rfl rfl rfl Try.isAgg30 Tk (hd53 0 (.int .u64 y) rfl) ?_
    have sp_3 := Rv.put_open b wa wc w_ how i y (by omega)
    refine l_call rfl rfl rfl rfl rfl rfl Try.call69 (sp_3) Ts ?_
    rintro ⟨pa, pc⟩ -
    try simp only [List.cons_append, List.nil_append]
    refine ag_nil (r_done (s_keep [0, 5, 7, 8] (e' := [(0, _), (5, _), (7, _), (8, _)]) rfl ?_))
    refine k_blk_n (k_then_n (c_plain (.q 0 (.q 1 (.q 2 (.done)))) (by kernel_rfl) ?_))
    refine q_move rfl rfl rfl rfl (q_int rfl rfl rfl rfl rfl (b_add' _ (by exact fits_i64 (by omega) (by omega))) ?_)
    refine q_assign rfl rfl rfl rfl (r_done (k_then_n ?_))
    rw [← hyg]
    refine loop_next (x := (i, w_, wa, wc)) ((i + 1, withL w_ i (m.getD i 0), pa, pc)) ?_ ?_ ?_ ?_
    · try dsimp only
      exact ⟨by omega, ok_with how (by omega) (by omega) (by omega), JnI_put hJ (by omega)⟩
    · show m.length - (i + 1) < m.length - i; omega
    · exact ⟨rfl, rfl, rfl, rfl, trivial⟩
    · (try simp only [List.cons_append, List.nil_append]); exact Tf
   refine c_skip (k_blk_n (k_then_n (c_plain (.q 0 (.q 1 (.q 2 (.done)))) (by kernel_rfl) ?_)))
   refine q_move rfl rfl rfl rfl (q_int rfl rfl rfl rfl rfl (b_add' _ (by exact fits_i64 (by omega) (by omega))) ?_)
   refine q_assign rfl rfl rfl rfl (r_done (k_then_n ?_))
   refine loop_next (x := (i, w_, wa, wc)) ((i + 1, w_, wa, wc)) ?_ ?_ ?_ ?_
   · try dsimp only
     exact ⟨by omega, how, JnI_skip hJ (by omega)⟩
   · show m.length - (i + 1) < m.length - i; omega
   · exact ⟨rfl, rfl, rfl, rfl, trivial⟩
   · (try simp only [List.cons_append, List.nil_append]); exact Tf
  refine c_exit (k_then_exit (k_then_exit (k_blk_here (k_blk_n (k_then_n (c_plain (.q 0 (.q 1 (.q 2 (.done)))) (by kernel_rfl) ?_))))))
  refine q_move rfl rfl rfl rfl (q_int rfl rfl rfl rfl rfl (b_add' _ (by exact fits_i64 (by omega) (by omega))) ?_)
  refine q_assign rfl rfl rfl rfl (r_done (s_keep [0, 5, 7] (e' := [(0, _), (5, _), (7, _)]) rfl ?_))
  refine k_then_n ?_
  obtain rfl : i = m.length := by omega
  refine loop_next (x := (k, v, va, vc)) ((k + 1, w_, wa, wc)) ?_ ?_ ?_ ?_
  · try dsimp only
    exact ⟨by omega, how, by rw [jnP_next hp hmp, ← hv]; exact JnI_end hov hom how hJ (Nat.le_refl _)⟩
  · show D.length - (k + 1) < D.length - k; omega
  · exact ⟨rfl, rfl, rfl, trivial⟩
  · (try simp only [List.cons_append, List.nil_append]); exact Tf
 refine c_exit (k_then_exit (k_then_exit (k_blk_here (k_then_n (c_seq (c_plain (.q 0 (.done)) (by kernel_rfl) ?_))))))
 refine q_assign rfl rfl rfl rfl (r_done (s_keep [4] (e' := [(4, _)]) rfl ?_))
 refine k_then_n (c_ret ?_)
 obtain rfl : k = D.length := by omega
 refine ck_fold (b := b) (ao := va) (cap := vc) (l := v) (jnP L t ps) Ts (by first | rfl | simp) hov (by rw [hv, List.take_of_length_le (by omega)]) ?_
 refine plc_put (R := ckB) (b := b) (t := (jnP L t ps)) Tk ?_
 refine s_big_put (f := plF ckB) (L := L) (i := q) (y := (some ⟨b, 0, none⟩, some (jnP L t ps))) Ts (List.getElem?_eq_some_iff.1 hx).1 ?_
 refine ret1 rfl rfl (()) (by first | rfl | (first | rfl | (congr 1; done) | (congr 1 <;> first | rfl | omega | (simp; done) | (simp; omega)))) (by trivial) ?_
 exact Tf
theorem rjoinn (L : List Pl) (ps : List Nat) (hps : ∀ p ∈ ps, p < L.length) (oo : Option Addr) (n c : Nat) (A : HProp) (hr : RdS A oo ((ps.map (ptr L)).flatMap encA)) (hn : ps.length = n) (hb : n ≤ 4000000000) : Spec Try.prog 55 [.pointer none, .slice oo n c] [A, bigS (plF ckB) L] (fun (_ : Unit) => .int .i64 1) (fun _ => True) (fun _ => [A, bigS (plF ckB) L]) := by
 refine spec_mk (n := 56) Try.func55 rfl rfl rfl ?_
 intro Γ w0
 simp only [argE, List.cons_append, List.nil_append, Nat.zero_add, Nat.reduceAdd]
 refine c_seq (c_plain (.q 0 (.done)) (by kernel_rfl) ?_)
 refine q_assign rfl rfl rfl rfl (r_done (k_then_n (c_seq (c_plain (.q 0 ((.l 1 [] (.q 2 (.q 3 (.q 4 (.q 5 (.q 6 (.done))))))))) (by kernel_rfl) ?_))))
 refine q_move rfl rfl rfl rfl ?_
 have sp_1 := Vp.rlists L ps hps oo n c A hr hn hb
 refine l_call rfl rfl rfl rfl rfl rfl Try.call70 (sp_1) Ts ?_
 rintro ⟨la, lc, D, ok⟩ ⟨hok, hD⟩
 simp only at hok hD
 try simp only [List.cons_append, List.nil_append]
 refine ag_nil (q_move rfl rfl rfl rfl (q_extract rfl rfl rfl rfl rfl (q_extract rfl rfl rfl rfl rfl (q_assign rfl rfl rfl rfl (q_assign rfl rfl rfl rfl (r_done (s_keep [0, 5, 6] (e' := [(0, _), (5, _), (6, _)]) rfl ?_)))))))
 refine k_then_n (c_seq (c_seq (c_plain (.q 0 (.q 1 (.q 2 (.q 3 (.q 4 (.q 5 (.done))))))) (by kernel_rfl) ?_)))
 refine q_move rfl rfl rfl rfl (q_eq_nil rfl rfl rfl rfl Try.underlying58 ?_)
 refine s_eq 15 rfl (v' := .bool true) rfl ?_
 refine q_move rfl rfl rfl rfl (q_skip rfl rfl rfl rfl (q_skip rfl rfl rfl rfl (q_pick_t rfl rfl rfl rfl rfl (r_done (s_keep [0, 5, 19] (e' := [(0, _), (5, _), (19, _)]) rfl ?_)))))
 refine k_then_n (c_cond_t rfl ?_)
 refine c_seq (c_plain (.q 0 (.done)) (by kernel_rfl) ?_)
 refine q_assign rfl rfl rfl rfl (r_done (k_then_n (c_ret (k_then_ret (ret1 rfl rfl (()) (by first | rfl | (first | rfl | (congr 1; done) | (congr 1 <;> first | rfl | omega | (simp; done) | (simp; omega)))) (by trivial) ?_)))))
 exact Tf
theorem rmeet (L : List Pl) (ps : List Nat) (hps : ∀ p ∈ ps, p < L.length) (oo : Option Addr) (n c : Nat) (A : HProp) (hr : RdS A oo ((ps.map (ptr L)).flatMap encA)) (hn : ps.length = n) (hb : n ≤ 4000000000) (q b : Nat) (t : List Int) (hx : L[q]? = some (some ⟨b, 0, none⟩, some t)) : Spec Try.prog 56 [.pointer (some ⟨b, 0, none⟩), .slice oo n c] [A, bigS (plF ckB) L] (fun (_ : Unit) => .int .i64 (oE L ps)) (fun _ => True) (fun _ => [A, bigS (plF ckB) (L.set q (some ⟨b, 0, none⟩, some (if badP L ps then t else mtP L t ps)))]) := by
 refine spec_mk (n := 61) Try.func56 rfl rfl rfl ?_
 intro Γ w0
 simp only [argE, List.cons_append, List.nil_append, Nat.zero_add, Nat.reduceAdd]
 refine c_seq (c_plain (.q 0 (.done)) (by kernel_rfl) ?_)
 refine q_assign rfl rfl rfl rfl (r_done (k_then_n (c_seq (c_plain (.q 0 ((.l 1 [] (.q 2 (.q 3 (.q 4 (.q 5 (.q 6 (.done))))))))) (by kernel_rfl) ?_))))
 refine q_move rfl rfl rfl rfl ?_
 have sp_1 := Vp.rlists L ps hps oo n c A hr hn hb
 refine l_call rfl rfl rfl rfl rfl rfl Try.call70 (sp_1) Ts ?_
 rintro ⟨la, lc, D, ok⟩ ⟨hok, hD⟩
 simp only at hok hD
 try simp only [List.cons_append, List.nil_append]
 refine ag_nil (q_move rfl rfl rfl rfl (q_extract rfl rfl rfl rfl rfl (q_extract rfl rfl rfl rfl rfl (q_assign rfl rfl rfl rfl (q_assign rfl rfl rfl rfl (r_done (s_keep [0, 5, 6] (e' := [(0, _), (5, _), (6, _)]) rfl ?_)))))))
 refine k_then_n (c_seq (c_seq (c_plain (.q 0 (.q 1 (.q 2 (.q 3 (.q 4 (.q 5 (.done))))))) (by kernel_rfl) ?_)))
 refine q_move rfl rfl rfl rfl (q_eq_nil rfl rfl rfl rfl Try.underlying58 ?_)
 refine s_eq 15 rfl (v' := .bool false) rfl ?_
 refine q_move rfl rfl rfl rfl (q_move rfl rfl rfl rfl (q_not rfl rfl rfl rfl ?_))
 refine q_pick_f rfl rfl rfl rfl rfl (r_done (s_keep [0, 5, 19] (e' := [(0, _), (5, _), (19, _)]) rfl ?_))
 refine k_then_n ?_
 refine c_cond rfl (fun hno => ?_) (fun hno => ?_)
 ·
  try simp only [Bool.and_eq_true, Bool.or_eq_true, Bool.not_eq_true', Bool.not_eq_false', Bool.and_eq_false_iff, Bool.or_eq_false_iff, decide_eq_true_eq, decide_eq_false_iff_not] at hno
  have hbad : badP L ps := by simpa [hok] using hno
  rw [show oE L ps = 1 from if_pos hbad, if_pos hbad, set_same hx]
  refine c_seq (c_plain (.q 0 (.done)) (by kernel_rfl) ?_)
  refine q_assign rfl rfl rfl rfl (r_done (k_then_n (c_ret (k_then_ret (ret1 rfl rfl (()) (by first | rfl | (first | rfl | (congr 1; done) | (congr 1 <;> first | rfl | omega | (simp; done) | (simp; omega)))) (by trivial) ?_)))))
  exact Tf
 try simp only [Bool.and_eq_true, Bool.or_eq_true, Bool.not_eq_true', Bool.not_eq_false', Bool.and_eq_false_iff, Bool.or_eq_false_iff, decide_eq_true_eq, decide_eq_false_iff_not] at hno
 have hng : ¬ badP L ps := by simpa [hok] using hno
 have hD := hD hng
 have hDl := hD.1
 rw [show oE L ps = 0 from if_neg hng, if_neg hng]
 refine s_big_take (f := plF ckB) (L := L) (i := q) Tk hx ?_
 refine plc_getb (R := ckB) (b := b) (t := t) Tk ?_
 refine ck_open (b := b) (t := t) Tk fun ao cap l ho ht => ?_
 have hll := ho.1
 refine c_skip (k_then_n (c_seq (c_seq (c_plain (.q 0 (.done)) (by kernel_rfl) ?_))))
 refine q_assign rfl rfl rfl rfl (r_done (k_then_n (c_block ?_)))
 refine c_loop2 (α := Nat × List Int) (fun (x_ : Nat × List Int) => match x_ with | (k, v) => k ≤ D.length ∧ (OkV v) ∧ (tr v = mtP L t (ps.take k))) (fun (x_ : Nat × List Int) => match x_ with | (k, v) => [(7, .int .i64 ((k : Nat) : Int))]) (fun (x_ : Nat × List Int) => match x_ with | (k, v) => [cells b 0 [.slice ao v.length cap], own 1 encU ao cap v]) (fun (x_ : Nat × List Int) => match x_ with | (k, v) => D.length - k) [0, 5] (er := [(0, _), (5, _)]) rfl (0, l) ?_ (by exact ⟨rfl, trivial⟩) (by (try dsimp only); (try simp only [Nat.add_zero, Nat.zero_add]); (repeat ((with_reducible apply Z2); focus (first | (with_reducible (repeat (first | exact Z0 | apply Z1)); done) | (repeat (first | exact Z0 | apply Z1))))); exact Z3) ?_
 · exact ⟨Nat.zero_le _, ho, ht⟩
 rintro ⟨k, v⟩ ⟨hle_k, hov, hv⟩
 try simp only [List.cons_append, List.nil_append]
 have hvl := hov.1
 refine c_seq (c_seq (c_plain (.q 0 (.q 1 (.q 2 (.q 3 (.done))))) (by kernel_rfl) ?_))
 refine q_move rfl rfl rfl rfl (q_move rfl rfl rfl rfl (q_len rfl rfl rfl rfl Try.underlying60 ?_))
 refine q_int rfl rfl rfl rfl rfl (b_lss _ _ _ _) ?_
 refine r_done (k_then_n ?_)
 refine c_cond_p rfl (fun hlt => ?_) (fun hlt => ?_)
 ·
  obtain ⟨p, hp⟩ := get_lt (l := ps) (i := k) (by omega)
  obtain ⟨⟨ma, mc, m⟩, hd⟩ := get_lt (l := D) (i := k) (by omega)
  obtain ⟨hom, hmp⟩ := hD.2 k p _ hp hd
  simp only at hom hmp
  have hml := hom.1
  refine s_owA (T := D) Tk hd fun hd1 hd2 => ?_
  refine c_skip (k_then_n (c_seq (c_block (c_seq (c_plain (.q 0 (.done)) (by kernel_rfl) ?_)))))
  refine q_assign rfl rfl rfl rfl (r_done (s_keep [0, 5, 7, 8] (e' := [(0, _), (5, _), (7, _), (8, _)]) rfl ?_))
  refine k_then_n (c_block ?_)
  refine c_loop2 (α := Nat) (fun (i : Nat) => i ≤ v.length) (fun (i : Nat) => [(8, .int .i64 ((i : Nat) : Int))]) (fun (i : Nat) => [cells b 0 [.slice ao v.length cap], own 1 encU ao cap (mtI v m i)]) (fun (i : Nat) => v.length - i) [0, 5, 7] (er := [(0, _), (5, _), (7, _)]) rfl (0) ?_ (by exact ⟨rfl, trivial⟩) (by (try dsimp only); rw [mtI_zero]; (repeat ((with_reducible apply Z2); focus (first | (with_reducible (repeat (first | exact Z0 | apply Z1)); done) | (repeat (first | exact Z0 | apply Z1))))); exact Z3) ?_
  · exact Nat.zero_le _
  rintro i hle_i
  try simp only [List.cons_append, List.nil_append]
  have hjl := mtI_len v m i
  refine c_seq (c_seq (c_plain (.q 0 (.q 1 (.q 2 (.q 3 (.q 4 (.q 5 (.q 6 (.done)))))))) (by kernel_rfl) ?_))
  refine q_move rfl rfl rfl rfl (q_move rfl rfl rfl rfl (q_nil_p rfl rfl rfl rfl (q_field (k := 0) rfl rfl rfl rfl Try.underlying81 rfl Try.sizeOf23 rfl ?_)))
  refine q_load_c (j := 0) rfl rfl rfl rfl Try.isAgg23 Tk Az (by rfl) ?_
  refine q_len rfl rfl rfl rfl Try.underlying23 ?_
  refine q_int rfl rfl rfl rfl rfl (b_lss _ _ _ _) ?_
  refine r_done (s_keep [0, 5, 7, 8, 32] (e' := [(0, _), (5, _), (7, _), (8, _), (32, _)]) rfl ?_)
  refine k_then_n ?_
  refine c_cond_p rfl (fun hli => ?_) (fun hli => ?_)
  ·
   have hji : (mtI v m i)[i]? = some (v.getD i 0) := by rw [mtI_get (by omega), if_neg (by omega)]
   refine c_skip (k_then_n (c_seq (c_block (c_seq (c_draw rfl (.q 0 (.q 1 (.q 2 (.q 3 (.q 4 (.q 6 (.q 7 (.q 8 (.q 9 (.q 10 (.q 11 (.q 12 ((.l 5 [9, 12] (.q 13 (.done)))))))))))))))) (by kernel_rfl) ?_)))))
   refine q_move rfl rfl rfl rfl (q_move rfl rfl rfl rfl (q_idxO (sz := 0) (k := k) (enc := encH) (xs := D) rfl rfl rfl rfl rfl Try.underlying60 Try.sizeOf23 hd (by first | rfl | omega) (by omega) Tk ?_))
   intro ib37 io37 ha37 hl37 hc37
   refine q_load_O (v := (.slice ma m.length mc)) (j := 0) (k' := k) (enc := encH) (off := io37) rfl rfl rfl rfl Try.isAgg23 ha37 encH_len hd Tk (by first | rfl | exact (Nat.add_zero _).symm | omega) (by rfl) ?_
   refine q_move rfl rfl rfl rfl (q_move rfl rfl rfl rfl (q_nil_p rfl rfl rfl rfl (q_field (k := 0) rfl rfl rfl rfl Try.underlying81 rfl Try.sizeOf23 rfl ?_)))
   refine q_load_c (j := 0) rfl rfl rfl rfl Try.isAgg23 Tk Az (by rfl) ?_
   refine q_move rfl rfl rfl rfl (q_idxO (sz := 0) (k := i) (enc := encU) (xs := (mtI v m i)) rfl rfl rfl rfl rfl Try.underlying23 Try.sizeOf30 hji (by first | rfl | omega) (by omega) Tk ?_)
   intro ib46 io46 ha46 hl46 hc46
   refine q_load_O (v := (.int .u64 (v.getD i 0))) (j := 0) (k' := i) (enc := encU) (off := io46) rfl rfl rfl rfl Try.isAgg30 ha46 encU_len hji Tk (by first | rfl | exact (Nat.add_zero _).symm | omega) (by rfl) ?_
   have sp_2 := Rv.at_spec m ma m.length mc (bigS (owA 1 encU) D) (rds_big (f := owA 1 encU) (List.mem_of_getElem? hd) (rds_own encU_len hd1 hd2)) Ln (by omega) i
   refine l_call rfl rfl rfl rfl rfl rfl Try.call71 (sp_2) Ts ?_
   rintro ⟨⟩ -
   try simp only [List.cons_append, List.nil_append]
   refine ag_load_c (q := 0) rfl rfl rfl Try.isAgg23 Tk Az (by rfl) ?_
   refine ag_load_O (v := (.int .u64 (v.getD i 0))) (j := 0) (k' := i) (enc := encU) (off := io46) rfl rfl rfl Try.isAgg30 ha46 encU_len hji Tk (by first | rfl | exact (Nat.add_zero _).symm | omega) (by rfl) ?_
   refine ag_nil (q_int rfl rfl rfl rfl rfl (b_lss _ _ _ _) ?_)
   refine r_done (s_keep [0, 5, 7, 8, 48] (e' := [(0, _), (5, _), (7, _), (8, _), (48, _)]) rfl ?_)
   refine k_then_n ?_
   refine c_cond_p rfl (fun hgt => ?_) (fun hgt => ?_)
   ·
    refine c_draw rfl (.q 0 (.q 1 (.q 2 (.q 3 (.q 4 (.q 5 (.q 6 (.q 7 (.q 8 (.q 9 ((.l 10 [3] (.q 11 ((.l 12 [] (.done)))))))))))))))) (by kernel_rfl) ?_
    refine q_move rfl rfl rfl rfl (q_nil_p rfl rfl rfl rfl (q_field (k := 0) rfl rfl rfl rfl Try.underlying81 rfl Try.sizeOf23 rfl ?_))
    refine q_load_c (j := 0) rfl rfl rfl rfl Try.isAgg23 Tk Az (by rfl) ?_
    refine q_move rfl rfl rfl rfl (q_move rfl rfl rfl rfl (q_move rfl rfl rfl rfl (q_idxO (sz := 0) (k := k) (enc := encH) (xs := D) rfl rfl rfl rfl rfl Try.underlying60 Try.sizeOf23 hd (by first | rfl | omega) (by omega) Tk ?_)))
    intro ib56 io56 ha56 hl56 hc56
    refine q_load_O (v := (.slice ma m.length mc)) (j := 0) (k' := k) (enc := encH) (off := io56) rfl rfl rfl rfl Try.isAgg23 ha56 encH_len hd Tk (by first | rfl | exact (Nat.add_zero _).symm | omega) (by rfl) ?_
    refine q_move rfl rfl rfl rfl ?_
    have sp_3 := Rv.at_spec m ma m.length mc (bigS (owA 1 encU) D) (rds_big (f := owA 1 encU) (List.mem_of_getElem? hd) (rds_own encU_len hd1 hd2)) Ln (by omega) i
    refine l_call rfl rfl rfl rfl rfl rfl Try.call71 (sp_3) Ts ?_
    rintro ⟨⟩ -
    try simp only [List.cons_append, List.nil_append]
    refine ag_load_c (q := 0) rfl rfl rfl Try.isAgg23 Tk Az (by rfl) ?_
    refine ag_nil (q_idxO (sz := 0) (k := i) (enc := encU) (xs := (mtI v m i)) rfl rfl rfl rfl rfl Try.underlying23 Try.sizeOf30 hji (by first | rfl | omega) (by omega) Tk ?_)
    intro ib60 io60 ha60 hl60 hc60
    refine l_store_O (j := 0) (k := i) (q := (m.getD i 0)) (enc := encU) (off := io60) rfl rfl rfl rfl Try.sizeOf30 (us := [_]) rfl rfl rfl ha60 encU_len hji Tk (by first | rfl | exact (Nat.add_zero _).symm | omega) (by first | decide | exact Nat.le_of_ble_eq_true rfl) (by rfl) ?_
    refine ag_nil (r_done (s_keep [0, 5, 7, 8] (e' := [(0, _), (5, _), (7, _), (8, _)]) rfl ?_))
    refine k_blk_n (k_then_n (c_plain (.q 0 (.q 1 (.q 2 (.done)))) (by kernel_rfl) ?_))
    refine q_move rfl rfl rfl rfl (q_int rfl rfl rfl rfl rfl (b_add' _ (by exact fits_i64 (by omega) (by omega))) ?_)
    refine q_assign rfl rfl rfl rfl (r_done (k_then_n ?_))
    rw [mtI_put (by omega) hgt]
    refine loop_next (x := i) (i + 1) ?_ ?_ ?_ ?_
    · exact by show i + 1 ≤ v.length; omega
    · show v.length - (i + 1) < v.length - i; omega
    · exact ⟨rfl, rfl, rfl, rfl, trivial⟩
    · (try simp only [List.cons_append, List.nil_append]); exact Tf
   refine c_skip (k_blk_n (k_then_n (c_plain (.q 0 (.q 1 (.q 2 (.done)))) (by kernel_rfl) ?_)))
   refine q_move rfl rfl rfl rfl (q_int rfl rfl rfl rfl rfl (b_add' _ (by exact fits_i64 (by omega) (by omega))) ?_)
   refine q_assign rfl rfl rfl rfl (r_done (k_then_n ?_))
   rw [← mtI_skip (by omega) hgt]
   refine loop_next (x := i) (i + 1) ?_ ?_ ?_ ?_
   · exact by show i + 1 ≤ v.length; omega
   · show v.length - (i + 1) < v.length - i; omega
   · exact ⟨rfl, rfl, rfl, rfl, trivial⟩
   · (try simp only [List.cons_append, List.nil_append]); exact Tf
  refine c_exit (k_then_exit (k_then_exit (k_blk_here (k_blk_n (k_then_n (c_plain (.q 0 (.q 1 (.q 2 (.done)))) (by kernel_rfl) ?_))))))
  refine q_move rfl rfl rfl rfl (q_int rfl rfl rfl rfl rfl (b_add' _ (by exact fits_i64 (by omega) (by omega))) ?_)
  refine q_assign rfl rfl rfl rfl (r_done (s_keep [0, 5, 7] (e' := [(0, _), (5, _), (7, _)]) rfl ?_))
  refine k_then_n ?_
  obtain rfl : i = v.length := by omega
  refine s_take (A := cells b 0 [.slice ao v.length cap]) Td ?_
  refine s_heap (Γ' := cells b 0 [.slice ao (mtI v m v.length).length cap] :: _) (fun _ h => (by rw [mtI_len]; exact h)) ?_
  refine loop_next (x := (k, v)) ((k + 1, (mtI v m v.length))) ?_ ?_ ?_ ?_
  · try dsimp only
    exact ⟨by omega, mtI_ok hov hom _, by rw [mtP_next hp hmp, ← hv]; exact mtI_tr hov hom (Nat.le_refl _)⟩
  · show D.length - (k + 1) < D.length - k; omega
  · exact ⟨rfl, rfl, rfl, trivial⟩
  · (try simp only [List.cons_append, List.nil_append]); exact Tf
 refine c_exit (k_then_exit (k_then_exit (k_blk_here (k_then_n (c_seq (c_plain (.q 0 (.done)) (by kernel_rfl) ?_))))))
 refine q_assign rfl rfl rfl rfl (r_done (s_keep [4] (e' := [(4, _)]) rfl ?_))
 refine k_then_n (c_ret ?_)
 obtain rfl : k = D.length := by omega
 refine ck_fold (b := b) (ao := ao) (cap := cap) (l := v) (mtP L t ps) Ts (by first | rfl | simp) hov (by rw [hv, List.take_of_length_le (by omega)]) ?_
 refine plc_put (R := ckB) (b := b) (t := (mtP L t ps)) Tk ?_
 refine s_big_put (f := plF ckB) (L := L) (i := q) (y := (some ⟨b, 0, none⟩, some (mtP L t ps))) Ts (List.getElem?_eq_some_iff.1 hx).1 ?_
 refine ret1 rfl rfl (()) (by first | rfl | (first | rfl | (congr 1; done) | (congr 1 <;> first | rfl | omega | (simp; done) | (simp; omega)))) (by trivial) ?_
 exact Tf
theorem rmeetn (L : List Pl) (ps : List Nat) (hps : ∀ p ∈ ps, p < L.length) (oo : Option Addr) (n c : Nat) (A : HProp) (hr : RdS A oo ((ps.map (ptr L)).flatMap encA)) (hn : ps.length = n) (hb : n ≤ 4000000000) : Spec Try.prog 56 [.pointer none, .slice oo n c] [A, bigS (plF ckB) L] (fun (_ : Unit) => .int .i64 1) (fun _ => True) (fun _ => [A, bigS (plF ckB) L]) := by
 refine spec_mk (n := 61) Try.func56 rfl rfl rfl ?_
 intro Γ w0
 simp only [argE, List.cons_append, List.nil_append, Nat.zero_add, Nat.reduceAdd]
 refine c_seq (c_plain (.q 0 (.done)) (by kernel_rfl) ?_)
 refine q_assign rfl rfl rfl rfl (r_done (k_then_n (c_seq (c_plain (.q 0 ((.l 1 [] (.q 2 (.q 3 (.q 4 (.q 5 (.q 6 (.done))))))))) (by kernel_rfl) ?_))))
 refine q_move rfl rfl rfl rfl ?_
 have sp_1 := Vp.rlists L ps hps oo n c A hr hn hb
 refine l_call rfl rfl rfl rfl rfl rfl Try.call70 (sp_1) Ts ?_
 rintro ⟨la, lc, D, ok⟩ ⟨hok, hD⟩
 simp only at hok hD
 try simp only [List.cons_append, List.nil_append]
 refine ag_nil (q_move rfl rfl rfl rfl (q_extract rfl rfl rfl rfl rfl (q_extract rfl rfl rfl rfl rfl (q_assign rfl rfl rfl rfl (q_assign rfl rfl rfl rfl (r_done (s_keep [0, 5, 6] (e' := [(0, _), (5, _), (6, _)]) rfl ?_)))))))
 refine k_then_n (c_seq (c_seq (c_plain (.q 0 (.q 1 (.q 2 (.q 3 (.q 4 (.q 5 (.done))))))) (by kernel_rfl) ?_)))
 refine q_move rfl rfl rfl rfl (q_eq_nil rfl rfl rfl rfl Try.underlying58 ?_)
 refine s_eq 15 rfl (v' := .bool true) rfl ?_
 refine q_move rfl rfl rfl rfl (q_skip rfl rfl rfl rfl (q_skip rfl rfl rfl rfl (q_pick_t rfl rfl rfl rfl rfl (r_done (s_keep [0, 5, 19] (e' := [(0, _), (5, _), (19, _)]) rfl ?_)))))
 refine k_then_n (c_cond_t rfl ?_)
 refine c_seq (c_plain (.q 0 (.done)) (by kernel_rfl) ?_)
 refine q_assign rfl rfl rfl rfl (r_done (k_then_n (c_ret (k_then_ret (ret1 rfl rfl (()) (by first | rfl | (first | rfl | (congr 1; done) | (congr 1 <;> first | rfl | omega | (simp; done) | (simp; omega)))) (by trivial) ?_)))))
 exact Tf
end Go.Ab.Vp
set_option linter.unusedVariables false
set_option linter.unusedSimpArgs false
set_option maxRecDepth 100000
namespace Go.Ab.Vp
open Go Go.Proofs Go.Ab Go.Ab.Vc Go.Ab.Rv
/-- The program's vector at b. -/
def owB (b : Nat) (t : List Int) : HProp := fun h => ∃ ao cap, CV t ∧ Sat [cells b 0 [.slice ao t.length cap], own 1 encU ao cap t] h
section
variable {w0 : World} {ds : List Deferred} {n : Nat} {e : Env} {Γ Γ' : List HProp} {X : Act → World → Prop} {R : Nat → List Int → HProp}
theorem ow_open {b : Nat} {t : List Int} (tk : Take Γ (owB b t) Γ') (k : ∀ ao cap, CV t → Le (St w0 ds n e (cells b 0 [.slice ao t.length cap] :: own 1 encU ao cap t :: Γ')) X) : Le (St w0 ds n e Γ) X := fun x w s => by
  obtain ⟨h1, l1, ⟨ao, cap, ht, a1⟩, s1⟩ := tk _ s.heap
  exact k ao cap ht x w ⟨s.defers, s.size, s.env, Bun.unfold ⟨h1, l1, a1, s1⟩, s.amb⟩
theorem ow_fold {b : Nat} {ao : Option Addr} {cap m : Nat} (t : List Int) (tk : Takes Γ [cells b 0 [.slice ao m cap], own 1 encU ao cap t] Γ') (hm : m = t.length) (ht : CV t) (k : Le (St w0 ds n e (owB b t :: Γ')) X) : Le (St w0 ds n e Γ) X := s_heap (fun h s => by
  subst hm
  obtain ⟨h1, l1, a1, s1⟩ := Bun.fold (tk h s)
  exact ⟨h1, l1, ⟨ao, cap, ht, a1⟩, s1⟩) k
theorem big_iffs {L : List Pl} (tk : Take Γ (bigS (plF R) L) Γ') (k : (∀ (i : Nat) (a : Option Addr) (m : Option (List Int)), L[i]? = some (a, m) → (a = none ↔ m = none)) → Le (St w0 ds n e Γ) X) : Le (St w0 ds n e Γ) X := s_know (fun h s i a m hx => by
  obtain ⟨h1, l1, a1, s1⟩ := big_take (f := plF R) hx (tk h s)
  cases m with
  | none => exact ⟨fun _ => rfl, fun _ => a1⟩
  | some t =>
    obtain ⟨b, hb, -⟩ := a1
    simp only at hb
    subst hb
    exact ⟨fun h => (by cases h), fun h => (by cases h)⟩) k
end
theorem bad_iff {L : List Pl} {ps : List Nat} (h : ∀ (i : Nat) (a : Option Addr) (m : Option (List Int)), L[i]? = some (a, m) → (a = none ↔ m = none)) (hps : ∀ p ∈ ps, p < L.length) : (none ∈ ps.map (ptr L)) ↔ badP L ps := by
  constructor
  · intro h1
    obtain ⟨p, hp, hpn⟩ := List.mem_map.1 h1
    obtain ⟨⟨a, m⟩, hx⟩ := get_lt (hps p hp)
    exact ⟨p, hp, by rw [mem_of hx]; exact (h p a m hx).1 (by rw [← ptr_of hx]; exact hpn)⟩
  · rintro ⟨p, hp, hm⟩
    obtain ⟨⟨a, m⟩, hx⟩ := get_lt (hps p hp)
    exact List.mem_map.2 ⟨p, hp, by rw [ptr_of hx]; exact (h p a m hx).2 (by rw [← mem_of hx]; exact hm)⟩
theorem ow_close {P : Program} {f : FuncId} {args : List Value} {Δ : List HProp} {α : Type} {v : α → Value} {φ : α → Prop} {Δ' : α → List HProp} {b : Nat} {t : List Int} (T : α → List Int) (A : Option Addr → Nat → α → Option Addr) (C : Option Addr → Nat → α → Nat)
    (S : ∀ ao cap, CV t → Spec P f args (cells b 0 [.slice ao t.length cap] :: own 1 encU ao cap t :: Δ) v φ (fun x => cells b 0 [.slice (A ao cap x) (T x).length (C ao cap x)] :: own 1 encU (A ao cap x) (C ao cap x) (T x) :: Δ' x)) (hT : CV t → ∀ x, φ x → CV (T x)) :
    Spec P f args (owB b t :: Δ) v φ (fun x => owB b (T x) :: Δ' x) := fun Γ w s => by
  obtain ⟨h1, l1, ⟨ao, cap, ht, a1⟩, s1⟩ := s
  refine (S ao cap ht Γ w (Bun.unfold (Γ := [_, _]) ⟨h1, l1, a1, s1⟩)).mono fun e w' ⟨x, e1, hx, s', a⟩ => ⟨x, e1, hx, ?_, a⟩
  obtain ⟨h3, l3, a3, s3⟩ := Bun.fold (Γ := [_, _]) s'
  exact ⟨h3, l3, ⟨_, _, hT ht x hx, a3⟩, s3⟩
theorem jn_self {c t : List Int} (hc : CV c) (ht : CV t) (h : LeqL t c) : jn c t = c := Tr_ext (jn_cv hc ht).tr hc.tr fun k => by
  rw [jn_g hc ht]; exact Int.max_eq_left ((leq_iff ht hc).1 h k)
theorem mt_self {c t : List Int} (hc : CV c) (ht : CV t) (h : LeqL c t) : mt c t = c := Tr_ext (mt_cv hc ht).tr hc.tr fun k => by
  rw [mt_g hc ht]; exact Int.min_eq_left ((leq_iff hc ht).1 h k)
theorem leq_jn {t c d : List Int} (ht : CV t) (hc : CV c) (hd : CV d) (h : LeqL t c) : LeqL t (jn c d) := (leq_iff ht (jn_cv hc hd)).2 fun k => by
  rw [jn_g hc hd]; have := (leq_iff ht hc).1 h k; omega
theorem mt_leq {t c d : List Int} (ht : CV t) (hc : CV c) (hd : CV d) (h : LeqL c t) : LeqL (mt c d) t := (leq_iff (mt_cv hc hd) ht).2 fun k => by
  rw [mt_g hc hd]; have := (leq_iff hc ht).1 h k; omega
theorem erase_get {α : Type} {L : List α} {p q : Nat} {x : α} (h : L[p]? = some x) (hne : p ≠ q) : ∃ j : Nat, (L.eraseIdx q)[j]? = some x := by
  rcases Nat.lt_or_ge p q with h1 | h1
  · exact ⟨p, by rw [List.getElem?_eraseIdx_of_lt h1]; exact h⟩
  · exact ⟨p - 1, by rw [List.getElem?_eraseIdx_of_ge (by omega), show p - 1 + 1 = p by omega]; exact h⟩
theorem owrong (b : Nat) (z : Int) : Spec Try.prog 42 [.pointer (some ⟨b, 0, none⟩), .int .i64 z] [] (fun (_ : Unit) => .int .i64 (wrE z)) (fun _ => True) (fun _ => []) := by
 refine spec_mk (n := 15) Try.func42 rfl rfl rfl ?_
 intro Γ w0
 simp only [argE, List.cons_append, List.nil_append, Nat.zero_add, Nat.reduceAdd]
 refine c_seq (c_plain (.q 0 (.done)) (by kernel_rfl) ?_)
 refine q_assign rfl rfl rfl rfl (r_done (k_then_n (c_seq (c_block (c_seq (c_plain (.q 0 (.q 1 (.q 2 (.done)))) (by kernel_rfl) ?_))))))
 refine q_move rfl rfl rfl rfl (q_eq_nil rfl rfl rfl rfl Try.underlying25 ?_)
 refine s_eq 7 rfl (v' := .bool false) rfl ?_
 refine q_assign rfl rfl rfl rfl (r_done (s_keep [1, 5] (e' := [(1, _), (5, _)]) rfl ?_))
 refine k_then_n (c_cond_f rfl ?_)
 refine c_seq (c_plain (.q 0 (.q 1 (.q 2 (.q 3 (.q 4 (.q 5 (.q 6 (.done)))))))) (by kernel_rfl) ?_)
 refine q_move rfl rfl rfl rfl (q_int rfl rfl rfl rfl rfl (b_lss _ _ _ _) ?_)
 refine q_move rfl rfl rfl rfl ?_
 refine s_bool_p 11 rfl (fun g_1 => ?_) (fun g_1 => ?_)
 ·
  refine q_skip rfl rfl rfl rfl (q_skip rfl rfl rfl rfl (q_pick_t rfl rfl rfl rfl rfl (q_assign rfl rfl rfl rfl (r_done (s_keep [8] (e' := [(8, _)]) rfl ?_)))))
  refine k_then_n (c_cond_t rfl ?_)
  refine c_seq (c_plain (.q 0 (.done)) (by kernel_rfl) ?_)
  refine q_assign rfl rfl rfl rfl (r_done (k_then_n (c_ret (k_blk_ret (k_then_ret (ret1 rfl rfl (()) (by rw [show wrE z = 2 from if_neg (by simp only [okT]; omega)]) (by trivial) ?_))))))
  exact Tf
 refine q_move rfl rfl rfl rfl (q_int rfl rfl rfl rfl rfl (b_geq _ _ _ _) ?_)
 refine q_pick_f rfl rfl rfl rfl rfl (q_assign rfl rfl rfl rfl (r_done (s_keep [8] (e' := [(8, _)]) rfl ?_)))
 refine k_then_n ?_
 refine c_cond_p rfl (fun h_2 => ?_) (fun h_2 => ?_)
 ·
  refine c_seq (c_plain (.q 0 (.done)) (by kernel_rfl) ?_)
  refine q_assign rfl rfl rfl rfl (r_done (k_then_n (c_ret (k_blk_ret (k_then_ret (ret1 rfl rfl (()) (by rw [show wrE z = 2 from if_neg (by simp only [okT]; omega)]) (by trivial) ?_))))))
  exact Tf
 refine c_skip (k_blk_n (k_then_n (c_seq (c_plain (.q 0 (.done)) (by kernel_rfl) ?_))))
 refine q_assign rfl rfl rfl rfl (r_done (k_then_n (c_ret (ret1 rfl rfl (()) (by rw [show wrE z = 0 from if_pos (by simp only [okT]; omega)]) (by trivial) ?_))))
 exact Tf
theorem owrongn (z : Int) : Spec Try.prog 42 [.pointer none, .int .i64 z] [] (fun (_ : Unit) => .int .i64 1) (fun _ => True) (fun _ => []) := by
 refine spec_mk (n := 15) Try.func42 rfl rfl rfl ?_
 intro Γ w0
 simp only [argE, List.cons_append, List.nil_append, Nat.zero_add, Nat.reduceAdd]
 refine c_seq (c_plain (.q 0 (.done)) (by kernel_rfl) ?_)
 refine q_assign rfl rfl rfl rfl (r_done (k_then_n (c_seq (c_block (c_seq (c_plain (.q 0 (.q 1 (.q 2 (.done)))) (by kernel_rfl) ?_))))))
 refine q_move rfl rfl rfl rfl (q_eq_nil rfl rfl rfl rfl Try.underlying25 ?_)
 refine s_eq 7 rfl (v' := .bool true) rfl ?_
 refine q_assign rfl rfl rfl rfl (r_done (s_keep [1, 5] (e' := [(1, _), (5, _)]) rfl ?_))
 refine k_then_n (c_cond_t rfl ?_)
 refine c_seq (c_plain (.q 0 (.done)) (by kernel_rfl) ?_)
 refine q_assign rfl rfl rfl rfl (r_done (k_then_n (c_ret (k_blk_ret (k_then_ret (ret1 rfl rfl (()) (by first | rfl | (first | rfl | (congr 1; done) | (congr 1 <;> first | rfl | omega | (simp; done) | (simp; omega)))) (by trivial) ?_))))))
 exact Tf
theorem oget_ (b : Nat) (l : List Int) (ao : Option Addr) (n cap : Nat) (hn : l.length = n) (z : Int) : Spec Try.prog 13 [.pointer (some ⟨b, 0, none⟩), .int .i64 z] [cells b 0 [.slice ao n cap], own 1 encU ao cap l] (fun (_ : Unit) => .int .u64 (gZ l z)) (fun _ => True) (fun _ => [cells b 0 [.slice ao n cap], own 1 encU ao cap l]) := by
 refine spec_mk (n := 27) Try.func13 rfl rfl rfl ?_
 intro Γ w0
 simp only [argE, List.cons_append, List.nil_append, Nat.zero_add, Nat.reduceAdd]
 refine c_seq (c_plain (.q 0 (.done)) (by kernel_rfl) ?_)
 refine q_assign rfl rfl rfl rfl (r_done (k_then_n (c_seq (c_seq (c_plain (.q 0 (.q 1 (.q 2 (.q 3 (.q 4 (.q 5 (.q 6 (.q 7 (.q 8 (.q 9 (.q 10 (.q 11 (.q 12 (.q 13 (.q 14 (.done)))))))))))))))) (by kernel_rfl) ?_)))))
 refine q_move rfl rfl rfl rfl (q_eq_nil rfl rfl rfl rfl Try.underlying25 ?_)
 refine s_eq 6 rfl (v' := .bool false) rfl ?_
 refine q_move rfl rfl rfl rfl (q_move rfl rfl rfl rfl (q_int rfl rfl rfl rfl rfl (b_lss _ _ _ _) ?_))
 refine q_pick_f rfl rfl rfl rfl rfl (q_move rfl rfl rfl rfl ?_)
 refine s_bool_p 11 rfl (fun hn0 => ?_) (fun hn0 => ?_)
 ·
  have hgz : gZ l z = 0 := if_pos hn0
  refine q_skip rfl rfl rfl rfl (q_skip rfl rfl rfl rfl (q_skip rfl rfl rfl rfl (q_skip rfl rfl rfl rfl (q_skip rfl rfl rfl rfl (q_skip rfl rfl rfl rfl (q_skip rfl rfl rfl rfl (q_pick_t rfl rfl rfl rfl rfl (r_done ?_))))))))
  refine s_keep [0, 1, 19] (e' := [(0, _), (1, _), (19, _)]) rfl ?_
  refine k_then_n (c_cond_t rfl ?_)
  refine c_seq (c_plain (.q 0 (.done)) (by kernel_rfl) ?_)
  refine q_assign rfl rfl rfl rfl (r_done (k_then_n (c_ret (k_then_ret (ret1 rfl rfl (()) (by rw [hgz]) (by trivial) ?_)))))
  exact Tf
 obtain ⟨i, rfl⟩ := Int.eq_ofNat_of_zero_le (show 0 ≤ z by omega)
 refine q_move rfl rfl rfl rfl (q_move rfl rfl rfl rfl (q_nil_p rfl rfl rfl rfl (q_field (k := 0) rfl rfl rfl rfl Try.underlying64 rfl Try.sizeOf23 rfl ?_)))
 refine q_load_c (j := 0) rfl rfl rfl rfl Try.isAgg23 Tk Az (by rfl) ?_
 refine q_len rfl rfl rfl rfl Try.underlying23 ?_
 refine q_int rfl rfl rfl rfl rfl (b_geq _ _ _ _) ?_
 refine q_pick_f rfl rfl rfl rfl rfl (r_done (s_keep [0, 1, 19] (e' := [(0, _), (1, _), (19, _)]) rfl ?_))
 refine k_then_n ?_
 refine c_cond_p rfl (fun hge => ?_) (fun hge => ?_)
 ·
  have hgz : gZ l (i : Int) = 0 := by rw [gZ_nat, g_out (by omega)]
  refine c_seq (c_plain (.q 0 (.done)) (by kernel_rfl) ?_)
  refine q_assign rfl rfl rfl rfl (r_done (k_then_n (c_ret (k_then_ret (ret1 rfl rfl (()) (by rw [hgz]) (by trivial) ?_)))))
  exact Tf
 obtain ⟨x, hx⟩ := get_lt (l := l) (i := i) (by omega)
 refine c_skip (k_then_n (c_seq (c_plain (.q 0 (.q 1 (.q 2 (.q 3 (.q 4 (.q 5 (.q 6 (.q 7 (.done))))))))) (by kernel_rfl) ?_)))
 refine q_move rfl rfl rfl rfl (q_nil_p rfl rfl rfl rfl (q_field (k := 0) rfl rfl rfl rfl Try.underlying64 rfl Try.sizeOf23 rfl ?_))
 refine q_load_c (j := 0) rfl rfl rfl rfl Try.isAgg23 Tk Az (by rfl) ?_
 refine q_move rfl rfl rfl rfl (q_idxO (sz := 0) (k := i) (enc := encU) (xs := l) rfl rfl rfl rfl rfl Try.underlying23 Try.sizeOf30 hx (by first | rfl | omega) (by omega) Tk ?_)
 intro ib25 io25 ha25 hl25 hc25
 refine q_load_O (v := (.int .u64 x)) (j := 0) (k' := i) (enc := encU) (off := io25) rfl rfl rfl rfl Try.isAgg30 ha25 encU_len hx Tk (by first | rfl | exact (Nat.add_zero _).symm | omega) (by rfl) ?_
 refine q_assign rfl rfl rfl rfl (r_done (s_keep [4] (e' := [(4, _)]) rfl ?_))
 refine k_then_n (c_ret (ret1 rfl rfl (()) (by rw [gZ_nat, Vc.getD_mem hx]) (by trivial) ?_))
 exact Tf
theorem ogetn (z : Int) : Spec Try.prog 13 [.pointer none, .int .i64 z] [] (fun (_ : Unit) => .int .u64 0) (fun _ => True) (fun _ => []) := by
 refine spec_mk (n := 27) Try.func13 rfl rfl rfl ?_
 intro Γ w0
 simp only [argE, List.cons_append, List.nil_append, Nat.zero_add, Nat.reduceAdd]
 refine c_seq (c_plain (.q 0 (.done)) (by kernel_rfl) ?_)
 refine q_assign rfl rfl rfl rfl (r_done (k_then_n (c_seq (c_seq (c_plain (.q 0 (.q 1 (.q 2 (.q 3 (.q 4 (.q 5 (.q 6 (.q 7 (.q 8 (.q 9 (.q 10 (.q 11 (.q 12 (.q 13 (.q 14 (.done)))))))))))))))) (by kernel_rfl) ?_)))))
 refine q_move rfl rfl rfl rfl (q_eq_nil rfl rfl rfl rfl Try.underlying25 ?_)
 refine s_eq 6 rfl (v' := .bool true) rfl ?_
 refine q_move rfl rfl rfl rfl (q_skip rfl rfl rfl rfl (q_skip rfl rfl rfl rfl (q_pick_t rfl rfl rfl rfl rfl (q_move rfl rfl rfl rfl (q_skip rfl rfl rfl rfl (q_skip rfl rfl rfl rfl (q_skip rfl rfl rfl rfl (q_skip rfl rfl rfl rfl ?_))))))))
 refine q_skip rfl rfl rfl rfl (q_skip rfl rfl rfl rfl (q_skip rfl rfl rfl rfl (q_pick_t rfl rfl rfl rfl rfl (r_done (s_keep [0, 1, 19] (e' := [(0, _), (1, _), (19, _)]) rfl ?_)))))
 refine k_then_n (c_cond_t rfl ?_)
 refine c_seq (c_plain (.q 0 (.done)) (by kernel_rfl) ?_)
 refine q_assign rfl rfl rfl rfl (r_done (k_then_n (c_ret (k_then_ret (ret1 rfl rfl (()) (by first | rfl | (first | rfl | (congr 1; done) | (congr 1 <;> first | rfl | omega | (simp; done) | (simp; omega)))) (by trivial) ?_)))))
 exact Tf
theorem oset_ (b : Nat) (l : List Int) (ao : Option Addr) (n cap : Nat) (hn : l.length = n) (hl : CV l) (z v : Int) (hv0 : 0 ≤ v) : Spec Try.prog 24 [.pointer (some ⟨b, 0, none⟩), .int .i64 z, .int .u64 v] [cells b 0 [.slice ao n cap], own 1 encU ao cap l] (fun (r : Option Addr × Nat) => .int .i64 (stE z v)) (fun r => True) (fun r => [cells b 0 [.slice r.1 (stA l z v).length r.2], own 1 encU r.1 r.2 (stA l z v)]) := by
 refine spec_mk (n := 28) Try.func24 rfl rfl rfl ?_
 intro Γ w0
 simp only [argE, List.cons_append, List.nil_append, Nat.zero_add, Nat.reduceAdd]
 have hll := hl.len
 refine c_seq (c_plain (.q 0 (.done)) (by kernel_rfl) ?_)
 refine q_assign rfl rfl rfl rfl (r_done (k_then_n (c_seq (c_seq (c_plain (.q 0 (.q 1 ((.l 2 [] (.q 3 (.done)))))) (by kernel_rfl) ?_)))))
 refine q_move rfl rfl rfl rfl (q_move rfl rfl rfl rfl ?_)
 have sp_1 := Vp.owrong b z
 refine l_call rfl rfl rfl rfl rfl rfl Try.call42 (sp_1) Ts ?_
 rintro ⟨⟩ -
 try simp only [List.cons_append, List.nil_append]
 refine ag_nil (q_assign rfl rfl rfl rfl (r_done (s_keep [0, 1, 2, 7] (e' := [(0, _), (1, _), (2, _), (7, _)]) rfl ?_)))
 refine k_then_n (c_seq (c_plain (.q 0 (.q 1 (.done))) (by kernel_rfl) ?_))
 refine q_move rfl rfl rfl rfl (q_int rfl rfl rfl rfl rfl (b_neq _ _ _ _) ?_)
 refine r_done (k_then_n ?_)
 refine c_cond_p rfl (fun hw => ?_) (fun hw => ?_)
 ·
  have hnk : ¬ okT z := fun h => hw (if_pos h)
  rw [show stE z v = 2 from if_neg hnk, show stA l z v = l from if_neg (fun h => hnk h.1)]
  refine c_seq (c_plain (.q 0 (.q 1 (.done))) (by kernel_rfl) ?_)
  refine q_move rfl rfl rfl rfl (q_assign rfl rfl rfl rfl (r_done (s_keep [6] (e' := [(6, _)]) rfl ?_)))
  refine k_then_n (c_ret (k_then_ret (s_take (A := cells b 0 [.slice ao n cap]) Td ?_)))
  refine s_heap (Γ' := cells b 0 [.slice ao l.length cap] :: _) (fun _ h => (by rw [hn]; exact h)) ?_
  refine ret1 rfl rfl ((ao, cap)) (by rw [show wrE z = 2 from if_neg hnk]) (by trivial) ?_
  exact Tf
 have hk : okT z := Classical.byContradiction fun h => hw (by rw [wrE, if_neg h]; decide)
 obtain ⟨i, rfl⟩ := Int.eq_ofNat_of_zero_le hk.1
 have hi : i < 65535 := by have := hk.2; omega
 refine c_skip (k_then_n (c_seq (c_seq (c_plain (.q 0 (.q 1 (.done))) (by kernel_rfl) ?_))))
 refine q_move rfl rfl rfl rfl (q_int rfl rfl rfl rfl rfl (b_gtr _ _ _ _) ?_)
 refine r_done (s_keep [0, 1, 2, 15] (e' := [(0, _), (1, _), (2, _), (15, _)]) rfl ?_)
 refine k_then_n ?_
 refine c_cond_p rfl (fun hv => ?_) (fun hv => ?_)
 ·
  rw [show stE (i : Int) v = 30 from by rw [stE, if_pos hk, if_pos hv], show stA l (i : Int) v = l from if_neg (fun h => by have := h.2; simp only [maxC] at this; omega)]
  refine c_seq (c_plain (.q 0 (.done)) (by kernel_rfl) ?_)
  refine q_assign rfl rfl rfl rfl (r_done (s_keep [6] (e' := [(6, _)]) rfl ?_))
  refine k_then_n (c_ret (k_then_ret (s_take (A := cells b 0 [.slice ao n cap]) Td ?_)))
  refine s_heap (Γ' := cells b 0 [.slice ao l.length cap] :: _) (fun _ h => (by rw [hn]; exact h)) ?_
  refine ret1 rfl rfl ((ao, cap)) (by first | rfl | (first | rfl | (congr 1; done) | (congr 1 <;> first | rfl | omega | (simp; done) | (simp; omega)))) (by trivial) ?_
  exact Tf
 have hv2 : v ≤ maxC := by simp only [maxC]; omega
 rw [show stE (i : Int) v = 0 from by rw [stE, if_pos hk, if_neg hv], show stA l (i : Int) v = stL l i v from by rw [stA, if_pos ⟨hk, hv2⟩, Int.toNat_natCast]]
 refine c_skip (k_then_n (c_seq (c_plain (.q 0 (.q 1 ((.l 2 [] (.done))))) (by kernel_rfl) ?_)))
 refine q_move rfl rfl rfl rfl (q_move rfl rfl rfl rfl (s_eq 17 rfl (v' := .int .i64 ((((i + 1 : Nat)) : Int) - 1)) (by congr 1; omega) ?_))
 have sp_2 := Vc.reach_spec b l (i + 1) ao n cap Ln (by omega)
 refine l_call rfl rfl rfl rfl rfl rfl Try.call43 (sp_2) Ts ?_
 rintro ⟨re_a, re_c⟩ -
 try simp only [List.cons_append, List.nil_append]
 refine ag_nil (r_done (s_keep [0, 1, 2] (e' := [(0, _), (1, _), (2, _)]) rfl ?_))
 refine k_then_n (c_seq ?_)
 have hpl := pd_len l (i + 1)
 obtain ⟨x, hx⟩ := get_lt (l := pd l (i + 1)) (i := i) (by omega)
 refine c_plain (.q 0 (.q 1 (.q 2 (.q 3 (.q 4 (.q 5 (.q 6 ((.l 7 [] (.done)))))))))) (by kernel_rfl) ?_
 refine q_move rfl rfl rfl rfl (q_nil_p rfl rfl rfl rfl (q_field (k := 0) rfl rfl rfl rfl Try.underlying64 rfl Try.sizeOf23 rfl ?_))
 refine q_load_c (j := 0) rfl rfl rfl rfl Try.isAgg23 Tk Az (by rfl) ?_
 refine q_move rfl rfl rfl rfl (q_move rfl rfl rfl rfl (q_idxO (sz := 0) (k := i) (enc := encU) (xs := (pd l (i + 1))) rfl rfl rfl rfl rfl Try.underlying23 Try.sizeOf30 hx (by first | rfl | omega) (by omega) Tk ?_))
 intro ib25 io25 ha25 hl25 hc25
 refine l_store_O (j := 0) (k := i) (q := v) (enc := encU) (off := io25) rfl rfl rfl rfl Try.sizeOf30 (us := [_]) rfl rfl rfl ha25 encU_len hx Tk (by first | rfl | exact (Nat.add_zero _).symm | omega) (by first | decide | exact Nat.le_of_ble_eq_true rfl) (by rfl) ?_
 refine ag_nil (r_done (s_keep [0] (e' := [(0, _)]) rfl ?_))
 refine k_then_n (c_seq (c_plain (.q 0 ((.l 1 [] (.done)))) (by kernel_rfl) ?_))
 refine q_move rfl rfl rfl rfl ?_
 have sp_3 := Vc.trim_spec b ((pd l (i + 1)).set i v) re_a ((pd l (i + 1)).length) re_c (by rw [List.length_set]) (by omega)
 refine l_call rfl rfl rfl rfl rfl rfl Try.call44 (sp_3) Ts ?_
 rintro ⟨⟩ -
 try simp only [List.cons_append, List.nil_append]
 refine ag_nil (r_done (k_then_n (c_seq (c_plain (.q 0 (.done)) (by kernel_rfl) ?_))))
 refine q_assign rfl rfl rfl rfl (r_done (k_then_n (c_ret (ret1 rfl rfl ((re_a, re_c)) (by first | rfl | (first | rfl | (congr 1; done) | (congr 1 <;> first | rfl | omega | (simp; done) | (simp; omega)))) (by trivial) ?_))))
 exact Tf
theorem oinc_ (b : Nat) (l : List Int) (ao : Option Addr) (n cap : Nat) (hn : l.length = n) (hl : CV l) (z : Int) : Spec Try.prog 28 [.pointer (some ⟨b, 0, none⟩), .int .i64 z] [cells b 0 [.slice ao n cap], own 1 encU ao cap l] (fun (r : Option Addr × Nat) => .tuple #[.int .u64 (inV l z), .int .i64 (inE l z)]) (fun r => True) (fun r => [cells b 0 [.slice r.1 (inA l z).length r.2], own 1 encU r.1 r.2 (inA l z)]) := by
 refine spec_mk (n := 36) Try.func28 rfl rfl rfl ?_
 intro Γ w0
 simp only [argE, List.cons_append, List.nil_append, Nat.zero_add, Nat.reduceAdd]
 have hll := hl.len
 refine c_seq (c_plain (.q 0 (.q 1 (.done))) (by kernel_rfl) ?_)
 refine q_assign rfl rfl rfl rfl (q_assign rfl rfl rfl rfl (r_done (k_then_n (c_seq (c_seq (c_plain (.q 0 (.q 1 ((.l 2 [] (.q 3 (.done)))))) (by kernel_rfl) ?_))))))
 refine q_move rfl rfl rfl rfl (q_move rfl rfl rfl rfl ?_)
 have sp_1 := Vp.owrong b z
 refine l_call rfl rfl rfl rfl rfl rfl Try.call42 (sp_1) Ts ?_
 rintro ⟨⟩ -
 try simp only [List.cons_append, List.nil_append]
 refine ag_nil (q_assign rfl rfl rfl rfl (r_done (s_keep [0, 1, 6] (e' := [(0, _), (1, _), (6, _)]) rfl ?_)))
 refine k_then_n (c_seq (c_plain (.q 0 (.q 1 (.done))) (by kernel_rfl) ?_))
 refine q_move rfl rfl rfl rfl (q_int rfl rfl rfl rfl rfl (b_neq _ _ _ _) ?_)
 refine r_done (k_then_n ?_)
 refine c_cond_p rfl (fun hw => ?_) (fun hw => ?_)
 ·
  have hnk : ¬ okT z := fun h => hw (if_pos h)
  rw [show inE l z = 2 from if_neg hnk, show inV l z = 0 from if_neg hnk, show inA l z = l from if_neg hnk]
  refine c_seq (c_plain (.q 0 (.q 1 (.q 2 (.done)))) (by kernel_rfl) ?_)
  refine q_move rfl rfl rfl rfl (q_assign rfl rfl rfl rfl (q_assign rfl rfl rfl rfl (r_done (s_keep [4, 5] (e' := [(4, _), (5, _)]) rfl ?_))))
  refine k_then_n (c_ret (k_then_ret (s_take (A := cells b 0 [.slice ao n cap]) Td ?_)))
  refine s_heap (Γ' := cells b 0 [.slice ao l.length cap] :: _) (fun _ h => (by rw [hn]; exact h)) ?_
  refine ret2 rfl rfl rfl ((ao, cap)) (by rw [show wrE z = 2 from if_neg hnk]) (by trivial) ?_
  exact Tf
 have hk : okT z := Classical.byContradiction fun h => hw (by rw [wrE, if_neg h]; decide)
 obtain ⟨i, rfl⟩ := Int.eq_ofNat_of_zero_le hk.1
 have hi : i < 65535 := by have := hk.2; omega
 rw [show inE l (i : Int) = icF l i from by rw [inE, if_pos hk, Int.toNat_natCast], show inV l (i : Int) = icN l i from by rw [inV, if_pos hk, Int.toNat_natCast], show inA l (i : Int) = icE l i from by rw [inA, if_pos hk, Int.toNat_natCast]]
 refine c_skip (k_then_n (c_seq (c_seq (c_plain (.q 0 (.q 1 ((.l 2 [] (.q 3 (.done)))))) (by kernel_rfl) ?_))))
 refine q_move rfl rfl rfl rfl (q_move rfl rfl rfl rfl ?_)
 have sp_2 := Vc.get_spec b l ao n cap Ln i
 refine l_call rfl rfl rfl rfl rfl rfl Try.call13 (sp_2) Ts ?_
 rintro ⟨⟩ -
 try simp only [List.cons_append, List.nil_append]
 refine ag_nil (q_int rfl rfl rfl rfl rfl (b_eql _ _ _ _) ?_)
 refine r_done (s_keep [0, 1, 16] (e' := [(0, _), (1, _), (16, _)]) rfl ?_)
 refine k_then_n ?_
 refine c_cond_p rfl (fun hm => ?_) (fun hm => ?_)
 ·
  rw [show icE l i = l from if_pos hm, show icN l i = 0 from if_pos hm, show icF l i = 30 from if_pos hm]
  refine c_seq (c_plain (.q 0 (.q 1 (.done))) (by kernel_rfl) ?_)
  refine q_assign rfl rfl rfl rfl (q_assign rfl rfl rfl rfl (r_done (k_then_n (c_ret (k_then_ret (s_take (A := cells b 0 [.slice ao n cap]) Td ?_))))))
  refine s_heap (Γ' := cells b 0 [.slice ao l.length cap] :: _) (fun _ h => (by rw [hn]; exact h)) ?_
  refine ret2 rfl rfl rfl ((ao, cap)) (by first | rfl | (first | rfl | (congr 1; done) | (congr 1 <;> first | rfl | omega | (simp; done) | (simp; omega)))) (by trivial) ?_
  exact Tf
 rw [show icE l i = icL l i from if_neg hm, show icN l i = l.getD i 0 + 1 from if_neg hm, show icF l i = 0 from if_neg hm]
 refine c_skip (k_then_n (c_seq (c_plain (.q 0 (.q 1 ((.l 2 [] (.done))))) (by kernel_rfl) ?_)))
 refine q_move rfl rfl rfl rfl (q_move rfl rfl rfl rfl (s_eq 18 rfl (v' := .int .i64 ((((i + 1 : Nat)) : Int) - 1)) (by congr 1; omega) ?_))
 have sp_3 := Vc.reach_spec b l (i + 1) ao n cap Ln (by omega)
 refine l_call rfl rfl rfl rfl rfl rfl Try.call43 (sp_3) Ts ?_
 rintro ⟨re_a, re_c⟩ -
 try simp only [List.cons_append, List.nil_append]
 refine ag_nil (r_done (s_keep [0, 1] (e' := [(0, _), (1, _)]) rfl ?_))
 refine k_then_n (c_seq ?_)
 have hpl := pd_len l (i + 1)
 obtain ⟨x, hx⟩ := get_lt (l := pd l (i + 1)) (i := i) (by omega)
 have hxe : x = l.getD i 0 := by rw [← pd_g l (i + 1) i, getD_mem hx]
 have hgr := g_rng hl.rng (by decide) i
 refine c_plain (.q 0 (.q 1 (.q 2 (.q 3 (.q 4 (.q 5 (.q 6 (.q 7 (.q 8 ((.l 9 [] (.done)))))))))))) (by kernel_rfl) ?_
 refine q_move rfl rfl rfl rfl (q_nil_p rfl rfl rfl rfl (q_field (k := 0) rfl rfl rfl rfl Try.underlying64 rfl Try.sizeOf23 rfl ?_))
 refine q_load_c (j := 0) rfl rfl rfl rfl Try.isAgg23 Tk Az (by rfl) ?_
 refine q_move rfl rfl rfl rfl (q_idxO (sz := 0) (k := i) (enc := encU) (xs := (pd l (i + 1))) rfl rfl rfl rfl rfl Try.underlying23 Try.sizeOf30 hx (by first | rfl | omega) (by omega) Tk ?_)
 intro ib25 io25 ha25 hl25 hc25
 refine q_load_O (v := (.int .u64 x)) (j := 0) (k' := i) (enc := encU) (off := io25) rfl rfl rfl rfl Try.isAgg30 ha25 encU_len hx Tk (by first | rfl | exact (Nat.add_zero _).symm | omega) (by rfl) ?_
 refine q_int rfl rfl rfl rfl rfl (b_add' _ (by exact fits_u64 (by omega) (by simp only [maxC] at hgr; omega))) ?_
 refine q_idxO (sz := 0) (k := i) (enc := encU) (xs := (pd l (i + 1))) rfl rfl rfl rfl rfl Try.underlying23 Try.sizeOf30 hx (by first | rfl | omega) (by omega) Tk ?_
 intro ib28 io28 ha28 hl28 hc28
 refine l_store_O (j := 0) (k := i) (q := (x + 1)) (enc := encU) (off := io28) rfl rfl rfl rfl Try.sizeOf30 (us := [_]) rfl rfl rfl ha28 encU_len hx Tk (by first | rfl | exact (Nat.add_zero _).symm | omega) (by first | decide | exact Nat.le_of_ble_eq_true rfl) (by rfl) ?_
 refine ag_nil (r_done (s_keep [0, 1] (e' := [(0, _), (1, _)]) rfl ?_))
 refine k_then_n (c_seq ?_)
 rw [show (pd l (i + 1)).set i (x + 1) = icL l i from by rw [icL, hxe]]
 have hx2 : (icL l i)[i]? = some (x + 1) := by rw [icL, List.getElem?_set_self (by omega), hxe]
 have hil : (icL l i).length = (pd l (i + 1)).length := by rw [icL, List.length_set]
 refine c_plain (.q 0 (.q 1 (.q 2 (.q 3 (.q 4 (.q 5 (.q 6 (.q 7 (.q 8 (.done)))))))))) (by kernel_rfl) ?_
 refine q_move rfl rfl rfl rfl (q_nil_p rfl rfl rfl rfl (q_field (k := 0) rfl rfl rfl rfl Try.underlying64 rfl Try.sizeOf23 rfl ?_))
 refine q_load_c (j := 0) rfl rfl rfl rfl Try.isAgg23 Tk Az (by rfl) ?_
 refine q_move rfl rfl rfl rfl (q_idxO (sz := 0) (k := i) (enc := encU) (xs := (icL l i)) rfl rfl rfl rfl rfl Try.underlying23 Try.sizeOf30 hx2 (by first | rfl | omega) (by omega) Tk ?_)
 intro ib34 io34 ha34 hl34 hc34
 refine q_load_O (v := (.int .u64 (x + 1))) (j := 0) (k' := i) (enc := encU) (off := io34) rfl rfl rfl rfl Try.isAgg30 ha34 encU_len hx2 Tk (by first | rfl | exact (Nat.add_zero _).symm | omega) (by rfl) ?_
 refine q_assign rfl rfl rfl rfl (q_assign rfl rfl rfl rfl (r_done (s_keep [4, 5] (e' := [(4, _), (5, _)]) rfl ?_)))
 refine k_then_n (c_ret (s_take (A := cells b 0 [.slice re_a (pd l (i + 1)).length re_c]) Td ?_))
 refine s_heap (Γ' := cells b 0 [.slice re_a (icL l i).length re_c] :: _) (fun _ h => (by rw [hil]; exact h)) ?_
 refine ret2 rfl rfl rfl ((re_a, re_c)) (by rw [hxe]) (by trivial) ?_
 exact Tf
theorem oep_ (b : Nat) (l : List Int) (ao : Option Addr) (n cap : Nat) (hn : l.length = n) (hl : CV l) (z : Int) : Spec Try.prog 26 [.pointer (some ⟨b, 0, none⟩), .int .i64 z] [cells b 0 [.slice ao n cap], own 1 encU ao cap l] (fun (_ : Unit) => .tuple #[.int .u64 (epV' l z), .int .i64 (wrE z)]) (fun _ => True) (fun _ => [cells b 0 [.slice ao n cap], own 1 encU ao cap l]) := by
 refine spec_mk (n := 24) Try.func26 rfl rfl rfl ?_
 intro Γ w0
 simp only [argE, List.cons_append, List.nil_append, Nat.zero_add, Nat.reduceAdd]
 have hll := hl.len
 refine c_seq (c_plain (.q 0 (.q 1 (.done))) (by kernel_rfl) ?_)
 refine q_assign rfl rfl rfl rfl (q_assign rfl rfl rfl rfl (r_done (k_then_n (c_seq (c_seq (c_plain (.q 0 (.q 1 ((.l 2 [] (.q 3 (.done)))))) (by kernel_rfl) ?_))))))
 refine q_move rfl rfl rfl rfl (q_move rfl rfl rfl rfl ?_)
 have sp_1 := Vp.owrong b z
 refine l_call rfl rfl rfl rfl rfl rfl Try.call42 (sp_1) Ts ?_
 rintro ⟨⟩ -
 try simp only [List.cons_append, List.nil_append]
 refine ag_nil (q_assign rfl rfl rfl rfl (r_done (s_keep [0, 1, 6] (e' := [(0, _), (1, _), (6, _)]) rfl ?_)))
 refine k_then_n (c_seq (c_plain (.q 0 (.q 1 (.done))) (by kernel_rfl) ?_))
 refine q_move rfl rfl rfl rfl (q_int rfl rfl rfl rfl rfl (b_neq _ _ _ _) ?_)
 refine r_done (k_then_n ?_)
 refine c_cond_p rfl (fun hw => ?_) (fun hw => ?_)
 ·
  have hnk : ¬ okT z := fun h => hw (if_pos h)
  rw [show epV' l z = 0 from if_neg hnk]
  refine c_seq (c_plain (.q 0 (.q 1 (.q 2 (.done)))) (by kernel_rfl) ?_)
  refine q_move rfl rfl rfl rfl (q_assign rfl rfl rfl rfl (q_assign rfl rfl rfl rfl (r_done (s_keep [4, 5] (e' := [(4, _), (5, _)]) rfl ?_))))
  refine k_then_n (c_ret (k_then_ret (ret2 rfl rfl rfl (()) (by first | rfl | (first | rfl | (congr 1; done) | (congr 1 <;> first | rfl | omega | (simp; done) | (simp; omega)))) (by trivial) ?_)))
  exact Tf
 have hk : okT z := Classical.byContradiction fun h => hw (by rw [wrE, if_neg h]; decide)
 obtain ⟨i, rfl⟩ := Int.eq_ofNat_of_zero_le hk.1
 have hi : i < 65535 := by have := hk.2; omega
 rw [show wrE (i : Int) = 0 from if_pos hk, show epV' l (i : Int) = ((eN l i : Nat) : Int) from by rw [epV', if_pos hk, Int.toNat_natCast]]
 refine c_skip (k_then_n (c_seq (c_seq (c_plain (.q 0 (.q 1 ((.l 2 [] (.q 3 (.done)))))) (by kernel_rfl) ?_))))
 refine q_move rfl rfl rfl rfl (q_move rfl rfl rfl rfl ?_)
 have sp_2 := Vc.get_spec b l ao n cap Ln i
 refine l_call rfl rfl rfl rfl rfl rfl Try.call13 (sp_2) Ts ?_
 rintro ⟨⟩ -
 try simp only [List.cons_append, List.nil_append]
 refine ag_nil (q_int rfl rfl rfl rfl rfl (b_eql _ _ _ _) ?_)
 refine r_done (s_keep [0, 1, 16] (e' := [(0, _), (1, _), (16, _)]) rfl ?_)
 refine k_then_n ?_
 refine c_cond_p rfl (fun hz => ?_) (fun hz => ?_)
 ·
  refine c_seq (c_plain (.q 0 (.q 1 (.done))) (by kernel_rfl) ?_)
  refine q_assign rfl rfl rfl rfl (q_assign rfl rfl rfl rfl (r_done (k_then_n (c_ret (k_then_ret (ret2 rfl rfl rfl (()) (by rw [show eN l i = 0 from if_pos hz]; rfl) (by trivial) ?_))))))
  exact Tf
 have hgr := g_rng hl.rng (by decide) i
 obtain ⟨c, hc⟩ := Int.eq_ofNat_of_zero_le hgr.1
 simp only [maxC] at hgr
 have hen : eN l i = i * 281474976710656 + c := by rw [eN_pos hz, hc]; rfl
 refine c_skip (k_then_n (c_seq (c_plain (.q 0 (.q 1 (.q 2 ((.l 3 [] ((.l 4 [] (.q 5 (.q 6 (.q 7 (.q 8 (.done)))))))))))) (by kernel_rfl) ?_)))
 refine q_move rfl rfl rfl rfl (q_move rfl rfl rfl rfl (q_move rfl rfl rfl rfl ?_))
 have sp_3 := Vc.get_spec b l ao n cap Ln i
 refine l_call rfl rfl rfl rfl rfl rfl Try.call13 (sp_3) Ts ?_
 rintro ⟨⟩ -
 try simp only [List.cons_append, List.nil_append]
 refine ag_nil (s_eq 20 rfl (v' := .int .u64 ((c : Nat) : Int)) (by rw [hc]) ?_)
 have sp_4 := Vc.pack_spec i c hi (by omega)
 refine l_call rfl rfl rfl rfl rfl rfl Try.call45 (sp_4) Ts ?_
 rintro ⟨⟩ -
 try simp only [List.cons_append, List.nil_append]
 refine ag_nil (q_extract rfl rfl rfl rfl rfl (q_extract rfl rfl rfl rfl rfl (q_assign rfl rfl rfl rfl (q_assign rfl rfl rfl rfl (r_done (s_keep [4, 5] (e' := [(4, _), (5, _)]) rfl ?_))))))
 refine k_then_n (c_ret (ret2 rfl rfl rfl (()) (by rw [hen]) (by trivial) ?_))
 exact Tf
theorem oequals_ (b : Nat) (l : List Int) (ao : Option Addr) (n cap : Nat) (hn : l.length = n) (hl : CV l) : Spec Try.prog 12 [.pointer (some ⟨b, 0, none⟩), .pointer (some ⟨b, 0, none⟩)] [cells b 0 [.slice ao n cap], own 1 encU ao cap l] (fun (_ : Unit) => .bool true) (fun _ => True) (fun _ => [cells b 0 [.slice ao n cap], own 1 encU ao cap l]) := by
 refine spec_mk (n := 22) Try.func12 rfl rfl rfl ?_
 intro Γ w0
 simp only [argE, List.cons_append, List.nil_append, Nat.zero_add, Nat.reduceAdd]
 have hll := hl.len
 refine c_seq (c_plain (.q 0 (.done)) (by kernel_rfl) ?_)
 refine q_assign rfl rfl rfl rfl (r_done (k_then_n (c_seq (c_draw rfl (.q 0 (.q 1 (.q 2 (.q 3 (.q 4 (.q 5 (.q 6 (.q 7 (.q 8 (.q 9 (.q 10 (.q 11 (.q 12 (.q 13 (.q 14 ((.l 15 [] (.q 16 (.q 17 (.done)))))))))))))))))))) (by kernel_rfl) ?_))))
 refine q_move rfl rfl rfl rfl (q_ne_nil rfl rfl rfl rfl Try.underlying25 ?_)
 refine s_eq 6 rfl (v' := .bool true) rfl ?_
 refine q_move rfl rfl rfl rfl (q_move rfl rfl rfl rfl (q_ne_nil rfl rfl rfl rfl Try.underlying25 ?_))
 refine s_eq 9 rfl (v' := .bool true) rfl ?_
 refine q_pick_t rfl rfl rfl rfl rfl (q_move rfl rfl rfl rfl (q_move rfl rfl rfl rfl (q_nil_p rfl rfl rfl rfl (q_field (k := 0) rfl rfl rfl rfl Try.underlying64 rfl Try.sizeOf23 rfl ?_))))
 refine q_load_c (j := 0) rfl rfl rfl rfl Try.isAgg23 Tk Az (by rfl) ?_
 refine q_move rfl rfl rfl rfl (q_nil_p rfl rfl rfl rfl (q_field (k := 0) rfl rfl rfl rfl Try.underlying64 rfl Try.sizeOf23 rfl ?_))
 refine q_load_c (j := 0) rfl rfl rfl rfl Try.isAgg23 Tk Az (by rfl) ?_
 refine s_take (A := own 1 encU ao cap l) Tk ?_
 refine own_fc fun f_1a f_1b f_1c => ?_
 refine s_take (A := own 1 encU ao cap l) Tk ?_
 refine own_fc fun f_2a f_2b f_2c => ?_
 have sp_3 := Vc.eq_spec l l ao ao n n cap cap (own 1 encU ao cap l) Ln (rds_own encU_len (fun h => (f_1b h).1) f_1c) Ln (rds_own encU_len (fun h => (f_2b h).1) f_2c) (by omega)
 refine l_call rfl rfl rfl rfl rfl rfl Try.call39 (sp_3) Ts ?_
 rintro ⟨⟩ -
 try simp only [List.cons_append, List.nil_append]
 refine ag_nil (q_pick_t rfl rfl rfl rfl rfl (q_assign rfl rfl rfl rfl (r_done (s_keep [4] (e' := [(4, _)]) rfl ?_))))
 refine k_then_n (c_ret (ret1 rfl rfl (()) (by simp) (by trivial) ?_))
 exact Tf
theorem oags_ (b : Nat) (l : List Int) (ao : Option Addr) (n cap : Nat) (hn : l.length = n) (hl : CV l) : Spec Try.prog 16 [.pointer (some ⟨b, 0, none⟩), .pointer (some ⟨b, 0, none⟩)] [cells b 0 [.slice ao n cap], own 1 encU ao cap l] (fun (_ : Unit) => .int .i64 1) (fun _ => True) (fun _ => [cells b 0 [.slice ao n cap], own 1 encU ao cap l]) := by
 refine spec_mk (n := 28) Try.func16 rfl rfl rfl ?_
 intro Γ w0
 simp only [argE, List.cons_append, List.nil_append, Nat.zero_add, Nat.reduceAdd]
 have hll := hl.len
 refine c_seq (c_plain (.q 0 (.done)) (by kernel_rfl) ?_)
 refine q_assign rfl rfl rfl rfl (r_done (k_then_n (c_seq (c_seq (c_plain (.q 0 (.q 1 (.q 2 (.q 3 (.q 4 (.q 5 (.done))))))) (by kernel_rfl) ?_)))))
 refine q_move rfl rfl rfl rfl (q_eq_nil rfl rfl rfl rfl Try.underlying25 ?_)
 refine s_eq 8 rfl (v' := .bool false) rfl ?_
 refine q_move rfl rfl rfl rfl (q_move rfl rfl rfl rfl (q_eq_nil rfl rfl rfl rfl Try.underlying25 ?_))
 refine s_eq 11 rfl (v' := .bool false) rfl ?_
 refine q_pick_f rfl rfl rfl rfl rfl (r_done (s_keep [0, 1, 12] (e' := [(0, _), (1, _), (12, _)]) rfl ?_))
 refine k_then_n (c_cond_f rfl ?_)
 refine c_skip (k_then_n (c_seq (c_plain (.q 0 (.q 1 ((.l 2 [] (.q 3 (.q 4 ((.l 5 [] (.q 6 (.q 7 (.done))))))))))) (by kernel_rfl) ?_)))
 refine q_move rfl rfl rfl rfl (q_move rfl rfl rfl rfl ?_)
 have sp_1 := Vc.leq_self b l ao n cap Ln (by omega)
 refine l_call rfl rfl rfl rfl rfl rfl Try.call15 (sp_1) Ts ?_
 rintro ⟨⟩ -
 try simp only [List.cons_append, List.nil_append]
 refine ag_nil (q_move rfl rfl rfl rfl (q_move rfl rfl rfl rfl ?_))
 have sp_2 := Vc.leq_self b l ao n cap Ln (by omega)
 refine l_call rfl rfl rfl rfl rfl rfl Try.call15 (sp_2) Ts ?_
 rintro ⟨⟩ -
 try simp only [List.cons_append, List.nil_append]
 refine ag_nil (q_assign rfl rfl rfl rfl (q_assign rfl rfl rfl rfl (r_done (s_keep [5, 6] (e' := [(5, _), (6, _)]) rfl ?_))))
 refine k_then_n (c_seq (c_block (c_seq (c_plain (.q 0 (.q 1 (.q 2 (.q 3 (.q 4 (.done)))))) (by kernel_rfl) ?_))))
 refine q_move rfl rfl rfl rfl (q_move rfl rfl rfl rfl (q_move rfl rfl rfl rfl (q_pick_t rfl rfl rfl rfl rfl (q_assign rfl rfl rfl rfl (r_done (s_keep [5, 6, 19] (e' := [(5, _), (6, _), (19, _)]) rfl ?_))))))
 refine k_then_n (c_cond_t rfl ?_)
 refine c_seq (c_plain (.q 0 (.done)) (by kernel_rfl) ?_)
 refine q_assign rfl rfl rfl rfl (r_done (k_then_n (c_ret (k_blk_ret (k_then_ret (ret1 rfl rfl (()) (by first | rfl | (first | rfl | (congr 1; done) | (congr 1 <;> first | rfl | omega | (simp; done) | (simp; omega)))) (by trivial) ?_))))))
 exact Tf
theorem oleqn (a : Option Addr) : Spec Try.prog 15 [.pointer none, .pointer a] [] (fun (_ : Unit) => .bool false) (fun _ => True) (fun _ => []) := by
 refine spec_mkM (n := 42) Try.func15 rfl rfl rfl ?_
 intro Γ w0
 simp only [argE, List.cons_append, List.nil_append, Nat.zero_add, Nat.reduceAdd]
 refine c_seq (c_plain ((.l 0 [] ((.l 1 [] (.done))))) (by kernel_rfl) ?_)
 refine l_box rfl rfl rfl rfl (us := [_]) rfl ?_
 intro b3
 refine ag_nil (l_alloc rfl rfl rfl Try.zeroValue4 (zs := [.bool false]) rfl ?_)
 intro b4
 refine ag_nil (r_done (k_then_n (c_seq (c_seq (c_draw rfl (.q 0 (.q 1 (.q 2 (.q 3 (.q 4 (.q 5 (.q 6 (.q 7 (.q 8 (.q 9 (.q 10 (.q 11 (.q 12 (.q 13 (.q 14 (.q 15 (.q 16 (.q 17 (.q 18 (.done)))))))))))))))))))) (by kernel_rfl) ?_)))))
 refine q_move rfl rfl rfl rfl (q_eq_nil rfl rfl rfl rfl Try.underlying25 ?_)
 refine s_eq 8 rfl (v' := .bool true) rfl ?_
 refine q_move rfl rfl rfl rfl (q_skip rfl rfl rfl rfl (q_skip rfl rfl rfl rfl (q_pick_t rfl rfl rfl rfl rfl (q_move rfl rfl rfl rfl (q_skip rfl rfl rfl rfl (q_skip rfl rfl rfl rfl (q_skip rfl rfl rfl rfl (q_skip rfl rfl rfl rfl ?_))))))))
 refine q_skip rfl rfl rfl rfl (q_skip rfl rfl rfl rfl (q_skip rfl rfl rfl rfl (q_skip rfl rfl rfl rfl (q_skip rfl rfl rfl rfl (q_skip rfl rfl rfl rfl (q_skip rfl rfl rfl rfl (q_pick_t rfl rfl rfl rfl rfl (r_done ?_))))))))
 refine s_keep [0, 3, 4, 25] (e' := [(0, _), (3, _), (4, _), (25, _)]) rfl ?_
 refine k_then_n (c_cond_t rfl ?_)
 refine c_seq (c_plain ((.l 0 [] (.done))) (by kernel_rfl) ?_)
 refine l_store (j := 0) rfl rfl rfl rfl Try.sizeOf4 (us := [_]) rfl rfl rfl Tk Az (by first | decide | (simp; done) | omega) ?_
 simp only [setL, List.set]
 refine ag_nil (r_done (k_then_n (c_ret (k_then_ret (rm_ret ?_)))))
 refine rm_done (us := [_]) rfl ⟨rv_cell1 rfl Try.isAgg4 Tk (j := 0) rfl rfl, trivial⟩ (()) (by first | rfl | (first | rfl | (congr 1; done) | (congr 1 <;> first | rfl | omega | (simp; done) | (simp; omega)))) (by trivial) ?_
 exact Tf
theorem oleqm (b : Nat) : Spec Try.prog 15 [.pointer (some ⟨b, 0, none⟩), .pointer none] [] (fun (_ : Unit) => .bool false) (fun _ => True) (fun _ => []) := by
 refine spec_mkM (n := 42) Try.func15 rfl rfl rfl ?_
 intro Γ w0
 simp only [argE, List.cons_append, List.nil_append, Nat.zero_add, Nat.reduceAdd]
 refine c_seq (c_plain ((.l 0 [] ((.l 1 [] (.done))))) (by kernel_rfl) ?_)
 refine l_box rfl rfl rfl rfl (us := [_]) rfl ?_
 intro b3
 refine ag_nil (l_alloc rfl rfl rfl Try.zeroValue4 (zs := [.bool false]) rfl ?_)
 intro b4
 refine ag_nil (r_done (k_then_n (c_seq (c_seq (c_draw rfl (.q 0 (.q 1 (.q 2 (.q 3 (.q 4 (.q 5 (.q 6 (.q 7 (.q 8 (.q 9 (.q 10 (.q 11 (.q 12 (.q 13 (.q 14 (.q 15 (.q 16 (.q 17 (.q 18 (.done)))))))))))))))))))) (by kernel_rfl) ?_)))))
 refine q_move rfl rfl rfl rfl (q_eq_nil rfl rfl rfl rfl Try.underlying25 ?_)
 refine s_eq 8 rfl (v' := .bool false) rfl ?_
 refine q_move rfl rfl rfl rfl (q_load_c (j := 0) rfl rfl rfl rfl Try.isAgg25 Tk Az (by rfl) ?_)
 refine q_eq_nil rfl rfl rfl rfl Try.underlying25 ?_
 refine s_eq 11 rfl (v' := .bool true) rfl ?_
 refine q_pick_f rfl rfl rfl rfl rfl (q_move rfl rfl rfl rfl (q_skip rfl rfl rfl rfl (q_skip rfl rfl rfl rfl (q_skip rfl rfl rfl rfl (q_skip rfl rfl rfl rfl (q_skip rfl rfl rfl rfl (q_skip rfl rfl rfl rfl (q_skip rfl rfl rfl rfl ?_))))))))
 refine q_skip rfl rfl rfl rfl (q_skip rfl rfl rfl rfl (q_skip rfl rfl rfl rfl (q_skip rfl rfl rfl rfl (q_pick_t rfl rfl rfl rfl rfl (r_done (s_keep [0, 3, 4, 25] (e' := [(0, _), (3, _), (4, _), (25, _)]) rfl ?_))))))
 refine k_then_n (c_cond_t rfl ?_)
 refine c_seq (c_plain ((.l 0 [] (.done))) (by kernel_rfl) ?_)
 refine l_store (j := 0) rfl rfl rfl rfl Try.sizeOf4 (us := [_]) rfl rfl rfl Tk Az (by first | decide | (simp; done) | omega) ?_
 simp only [setL, List.set]
 refine ag_nil (r_done (k_then_n (c_ret (k_then_ret (rm_ret ?_)))))
 refine rm_done (us := [_]) rfl ⟨rv_cell1 rfl Try.isAgg4 Tk (j := 0) rfl rfl, trivial⟩ (()) (by first | rfl | (first | rfl | (congr 1; done) | (congr 1 <;> first | rfl | omega | (simp; done) | (simp; omega)))) (by trivial) ?_
 exact Tf
theorem oequaln (a : Option Addr) : Spec Try.prog 12 [.pointer none, .pointer a] [] (fun (_ : Unit) => .bool false) (fun _ => True) (fun _ => []) := by
 refine spec_mk (n := 22) Try.func12 rfl rfl rfl ?_
 intro Γ w0
 simp only [argE, List.cons_append, List.nil_append, Nat.zero_add, Nat.reduceAdd]
 refine c_seq (c_plain (.q 0 (.done)) (by kernel_rfl) ?_)
 refine q_assign rfl rfl rfl rfl (r_done (k_then_n (c_seq (c_draw rfl (.q 0 (.q 1 (.q 2 (.q 3 (.q 4 (.q 5 (.q 6 (.q 7 (.q 8 (.q 9 (.q 10 (.q 11 (.q 12 (.q 13 (.q 14 ((.l 15 [] (.q 16 (.q 17 (.done)))))))))))))))))))) (by kernel_rfl) ?_))))
 refine q_move rfl rfl rfl rfl (q_ne_nil rfl rfl rfl rfl Try.underlying25 ?_)
 refine s_eq 6 rfl (v' := .bool false) rfl ?_
 refine q_move rfl rfl rfl rfl (q_skip rfl rfl rfl rfl (q_skip rfl rfl rfl rfl (q_pick_f rfl rfl rfl rfl rfl (q_move rfl rfl rfl rfl (q_skip rfl rfl rfl rfl (q_skip rfl rfl rfl rfl (q_skip rfl rfl rfl rfl (q_skip rfl rfl rfl rfl ?_))))))))
 refine q_skip rfl rfl rfl rfl (q_skip rfl rfl rfl rfl (q_skip rfl rfl rfl rfl (q_skip rfl rfl rfl rfl (l_skip rfl rfl rfl rfl ?_))))
 refine q_pick_f rfl rfl rfl rfl rfl (q_assign rfl rfl rfl rfl (r_done (s_keep [4] (e' := [(4, _)]) rfl ?_)))
 refine k_then_n (c_ret (ret1 rfl rfl (()) (by first | rfl | (first | rfl | (congr 1; done) | (congr 1 <;> first | rfl | omega | (simp; done) | (simp; omega)))) (by trivial) ?_))
 exact Tf
theorem oequalm (b : Nat) : Spec Try.prog 12 [.pointer (some ⟨b, 0, none⟩), .pointer none] [] (fun (_ : Unit) => .bool false) (fun _ => True) (fun _ => []) := by
 refine spec_mk (n := 22) Try.func12 rfl rfl rfl ?_
 intro Γ w0
 simp only [argE, List.cons_append, List.nil_append, Nat.zero_add, Nat.reduceAdd]
 refine c_seq (c_plain (.q 0 (.done)) (by kernel_rfl) ?_)
 refine q_assign rfl rfl rfl rfl (r_done (k_then_n (c_seq (c_draw rfl (.q 0 (.q 1 (.q 2 (.q 3 (.q 4 (.q 5 (.q 6 (.q 7 (.q 8 (.q 9 (.q 10 (.q 11 (.q 12 (.q 13 (.q 14 ((.l 15 [] (.q 16 (.q 17 (.done)))))))))))))))))))) (by kernel_rfl) ?_))))
 refine q_move rfl rfl rfl rfl (q_ne_nil rfl rfl rfl rfl Try.underlying25 ?_)
 refine s_eq 6 rfl (v' := .bool true) rfl ?_
 refine q_move rfl rfl rfl rfl (q_move rfl rfl rfl rfl (q_ne_nil rfl rfl rfl rfl Try.underlying25 ?_))
 refine s_eq 9 rfl (v' := .bool false) rfl ?_
 refine q_pick_t rfl rfl rfl rfl rfl (q_move rfl rfl rfl rfl (q_skip rfl rfl rfl rfl (q_skip rfl rfl rfl rfl (q_skip rfl rfl rfl rfl (q_skip rfl rfl rfl rfl (q_skip rfl rfl rfl rfl (q_skip rfl rfl rfl rfl (q_skip rfl rfl rfl rfl ?_))))))))
 refine q_skip rfl rfl rfl rfl (l_skip rfl rfl rfl rfl ?_)
 refine q_pick_f rfl rfl rfl rfl rfl (q_assign rfl rfl rfl rfl (r_done (s_keep [4] (e' := [(4, _)]) rfl ?_)))
 refine k_then_n (c_ret (ret1 rfl rfl (()) (by first | rfl | (first | rfl | (congr 1; done) | (congr 1 <;> first | rfl | omega | (simp; done) | (simp; omega)))) (by trivial) ?_))
 exact Tf
theorem oagn (a : Option Addr) : Spec Try.prog 16 [.pointer none, .pointer a] [] (fun (_ : Unit) => .int .i64 0) (fun _ => True) (fun _ => []) := by
 refine spec_mk (n := 28) Try.func16 rfl rfl rfl ?_
 intro Γ w0
 simp only [argE, List.cons_append, List.nil_append, Nat.zero_add, Nat.reduceAdd]
 refine c_seq (c_plain (.q 0 (.done)) (by kernel_rfl) ?_)
 refine q_assign rfl rfl rfl rfl (r_done (k_then_n (c_seq (c_seq (c_plain (.q 0 (.q 1 (.q 2 (.q 3 (.q 4 (.q 5 (.done))))))) (by kernel_rfl) ?_)))))
 refine q_move rfl rfl rfl rfl (q_eq_nil rfl rfl rfl rfl Try.underlying25 ?_)
 refine s_eq 8 rfl (v' := .bool true) rfl ?_
 refine q_move rfl rfl rfl rfl (q_skip rfl rfl rfl rfl (q_skip rfl rfl rfl rfl (q_pick_t rfl rfl rfl rfl rfl (r_done (s_keep [0, 1, 12] (e' := [(0, _), (1, _), (12, _)]) rfl ?_)))))
 refine k_then_n (c_cond_t rfl ?_)
 refine c_seq (c_plain (.q 0 (.done)) (by kernel_rfl) ?_)
 refine q_assign rfl rfl rfl rfl (r_done (k_then_n (c_ret (k_then_ret (ret1 rfl rfl (()) (by first | rfl | (first | rfl | (congr 1; done) | (congr 1 <;> first | rfl | omega | (simp; done) | (simp; omega)))) (by trivial) ?_)))))
 exact Tf
theorem oagm (b : Nat) : Spec Try.prog 16 [.pointer (some ⟨b, 0, none⟩), .pointer none] [] (fun (_ : Unit) => .int .i64 0) (fun _ => True) (fun _ => []) := by
 refine spec_mk (n := 28) Try.func16 rfl rfl rfl ?_
 intro Γ w0
 simp only [argE, List.cons_append, List.nil_append, Nat.zero_add, Nat.reduceAdd]
 refine c_seq (c_plain (.q 0 (.done)) (by kernel_rfl) ?_)
 refine q_assign rfl rfl rfl rfl (r_done (k_then_n (c_seq (c_seq (c_plain (.q 0 (.q 1 (.q 2 (.q 3 (.q 4 (.q 5 (.done))))))) (by kernel_rfl) ?_)))))
 refine q_move rfl rfl rfl rfl (q_eq_nil rfl rfl rfl rfl Try.underlying25 ?_)
 refine s_eq 8 rfl (v' := .bool false) rfl ?_
 refine q_move rfl rfl rfl rfl (q_move rfl rfl rfl rfl (q_eq_nil rfl rfl rfl rfl Try.underlying25 ?_))
 refine s_eq 11 rfl (v' := .bool true) rfl ?_
 refine q_pick_f rfl rfl rfl rfl rfl (r_done (s_keep [0, 1, 12] (e' := [(0, _), (1, _), (12, _)]) rfl ?_))
 refine k_then_n (c_cond_t rfl ?_)
 refine c_seq (c_plain (.q 0 (.done)) (by kernel_rfl) ?_)
 refine q_assign rfl rfl rfl rfl (r_done (k_then_n (c_ret (k_then_ret (ret1 rfl rfl (()) (by first | rfl | (first | rfl | (congr 1; done) | (congr 1 <;> first | rfl | omega | (simp; done) | (simp; omega)))) (by trivial) ?_)))))
 exact Tf
theorem osetn (z v : Int) : Spec Try.prog 24 [.pointer none, .int .i64 z, .int .u64 v] [] (fun (_ : Unit) => .int .i64 1) (fun _ => True) (fun _ => []) := by
 refine spec_mk (n := 28) Try.func24 rfl rfl rfl ?_
 intro Γ w0
 simp only [argE, List.cons_append, List.nil_append, Nat.zero_add, Nat.reduceAdd]
 refine c_seq (c_plain (.q 0 (.done)) (by kernel_rfl) ?_)
 refine q_assign rfl rfl rfl rfl (r_done (k_then_n (c_seq (c_seq (c_plain (.q 0 (.q 1 ((.l 2 [] (.q 3 (.done)))))) (by kernel_rfl) ?_)))))
 refine q_move rfl rfl rfl rfl (q_move rfl rfl rfl rfl ?_)
 have sp_1 := Vp.owrongn z
 refine l_call rfl rfl rfl rfl rfl rfl Try.call42 (sp_1) Ts ?_
 rintro ⟨⟩ -
 try simp only [List.cons_append, List.nil_append]
 refine ag_nil (q_assign rfl rfl rfl rfl (r_done (s_keep [0, 1, 2, 7] (e' := [(0, _), (1, _), (2, _), (7, _)]) rfl ?_)))
 refine k_then_n (c_seq (c_plain (.q 0 (.q 1 (.done))) (by kernel_rfl) ?_))
 refine q_move rfl rfl rfl rfl (q_int rfl rfl rfl rfl rfl (b_neq _ _ _ _) ?_)
 refine s_eq 12 rfl (v' := .bool true) (by first | rfl | simp) ?_
 refine r_done (k_then_n (c_cond_t rfl ?_))
 refine c_seq (c_plain (.q 0 (.q 1 (.done))) (by kernel_rfl) ?_)
 refine q_move rfl rfl rfl rfl (q_assign rfl rfl rfl rfl (r_done (s_keep [6] (e' := [(6, _)]) rfl ?_)))
 refine k_then_n (c_ret (k_then_ret (ret1 rfl rfl (()) (by first | rfl | (first | rfl | (congr 1; done) | (congr 1 <;> first | rfl | omega | (simp; done) | (simp; omega)))) (by trivial) ?_)))
 exact Tf
theorem oincn (z : Int) : Spec Try.prog 28 [.pointer none, .int .i64 z] [] (fun (_ : Unit) => .tuple #[.int .u64 0, .int .i64 1]) (fun _ => True) (fun _ => []) := by
 refine spec_mk (n := 36) Try.func28 rfl rfl rfl ?_
 intro Γ w0
 simp only [argE, List.cons_append, List.nil_append, Nat.zero_add, Nat.reduceAdd]
 refine c_seq (c_plain (.q 0 (.q 1 (.done))) (by kernel_rfl) ?_)
 refine q_assign rfl rfl rfl rfl (q_assign rfl rfl rfl rfl (r_done (k_then_n (c_seq (c_seq (c_plain (.q 0 (.q 1 ((.l 2 [] (.q 3 (.done)))))) (by kernel_rfl) ?_))))))
 refine q_move rfl rfl rfl rfl (q_move rfl rfl rfl rfl ?_)
 have sp_1 := Vp.owrongn z
 refine l_call rfl rfl rfl rfl rfl rfl Try.call42 (sp_1) Ts ?_
 rintro ⟨⟩ -
 try simp only [List.cons_append, List.nil_append]
 refine ag_nil (q_assign rfl rfl rfl rfl (r_done (s_keep [0, 1, 6] (e' := [(0, _), (1, _), (6, _)]) rfl ?_)))
 refine k_then_n (c_seq (c_plain (.q 0 (.q 1 (.done))) (by kernel_rfl) ?_))
 refine q_move rfl rfl rfl rfl (q_int rfl rfl rfl rfl rfl (b_neq _ _ _ _) ?_)
 refine s_eq 11 rfl (v' := .bool true) (by first | rfl | simp) ?_
 refine r_done (k_then_n (c_cond_t rfl ?_))
 refine c_seq (c_plain (.q 0 (.q 1 (.q 2 (.done)))) (by kernel_rfl) ?_)
 refine q_move rfl rfl rfl rfl (q_assign rfl rfl rfl rfl (q_assign rfl rfl rfl rfl (r_done (s_keep [4, 5] (e' := [(4, _), (5, _)]) rfl ?_))))
 refine k_then_n (c_ret (k_then_ret (ret2 rfl rfl rfl (()) (by first | rfl | (first | rfl | (congr 1; done) | (congr 1 <;> first | rfl | omega | (simp; done) | (simp; omega)))) (by trivial) ?_)))
 exact Tf
theorem oclearn : Spec Try.prog 25 [.pointer none] [] (fun (_ : Unit) => .tuple #[]) (fun _ => True) (fun _ => []) := by
 refine spec_mk (n := 16) Try.func25 rfl rfl rfl ?_
 intro Γ w0
 simp only [argE, List.cons_append, List.nil_append, Nat.zero_add, Nat.reduceAdd]
 refine c_seq (c_plain (.q 0 (.q 1 (.done))) (by kernel_rfl) ?_)
 refine q_move rfl rfl rfl rfl (q_ne_nil rfl rfl rfl rfl Try.underlying25 ?_)
 refine s_eq 3 rfl (v' := .bool false) rfl ?_
 refine r_done (k_then_n (c_cond_f rfl ?_))
 refine c_skip (ret_end ?_)
 refine ret0 rfl (()) (by first | rfl | (first | rfl | (congr 1; done) | (congr 1 <;> first | rfl | omega | (simp; done) | (simp; omega)))) (by trivial) ?_
 exact Tf
theorem ocopyn : Spec Try.prog 21 [.pointer none] [] (fun (_ : Unit) => .pointer none) (fun _ => True) (fun _ => []) := by
 refine spec_mk (n := 21) Try.func21 rfl rfl rfl ?_
 intro Γ w0
 simp only [argE, List.cons_append, List.nil_append, Nat.zero_add, Nat.reduceAdd]
 refine c_seq (c_plain (.q 0 (.done)) (by kernel_rfl) ?_)
 refine q_assign rfl rfl rfl rfl (r_done (k_then_n (c_seq (c_seq (c_plain (.q 0 (.q 1 (.done))) (by kernel_rfl) ?_)))))
 refine q_move rfl rfl rfl rfl (q_eq_nil rfl rfl rfl rfl Try.underlying25 ?_)
 refine s_eq 5 rfl (v' := .bool true) rfl ?_
 refine r_done (k_then_n (c_cond_t rfl ?_))
 refine c_seq (c_plain (.q 0 (.done)) (by kernel_rfl) ?_)
 refine q_assign rfl rfl rfl rfl (r_done (k_then_n (c_ret (k_then_ret (ret1 rfl rfl (()) (by first | rfl | (first | rfl | (congr 1; done) | (congr 1 <;> first | rfl | omega | (simp; done) | (simp; omega)))) (by trivial) ?_)))))
 exact Tf
theorem olenn : Spec Try.prog 20 [.pointer none] [] (fun (_ : Unit) => .int .i64 0) (fun _ => True) (fun _ => []) := by
 refine spec_mk (n := 10) Try.func20 rfl rfl rfl ?_
 intro Γ w0
 simp only [argE, List.cons_append, List.nil_append, Nat.zero_add, Nat.reduceAdd]
 refine c_seq (c_plain (.q 0 (.done)) (by kernel_rfl) ?_)
 refine q_assign rfl rfl rfl rfl (r_done (k_then_n (c_seq (c_seq (c_plain (.q 0 (.q 1 (.done))) (by kernel_rfl) ?_)))))
 refine q_move rfl rfl rfl rfl (q_eq_nil rfl rfl rfl rfl Try.underlying25 ?_)
 refine s_eq 4 rfl (v' := .bool true) rfl ?_
 refine r_done (k_then_n (c_cond_t rfl ?_))
 refine c_seq (c_plain (.q 0 (.done)) (by kernel_rfl) ?_)
 refine q_assign rfl rfl rfl rfl (r_done (k_then_n (c_ret (k_then_ret (ret1 rfl rfl (()) (by first | rfl | (first | rfl | (congr 1; done) | (congr 1 <;> first | rfl | omega | (simp; done) | (simp; omega)))) (by trivial) ?_)))))
 exact Tf
theorem olistn : Spec Try.prog 18 [.pointer none] [] (fun (_ : Unit) => .slice none 0 0) (fun _ => True) (fun _ => []) := by
 refine spec_mk (n := 10) Try.func18 rfl rfl rfl ?_
 intro Γ w0
 simp only [argE, List.cons_append, List.nil_append, Nat.zero_add, Nat.reduceAdd]
 refine c_seq (c_plain (.q 0 (.done)) (by kernel_rfl) ?_)
 refine q_assign rfl rfl rfl rfl (r_done (k_then_n (c_seq (c_seq (c_plain (.q 0 (.q 1 (.done))) (by kernel_rfl) ?_)))))
 refine q_move rfl rfl rfl rfl (q_eq_nil rfl rfl rfl rfl Try.underlying25 ?_)
 refine s_eq 4 rfl (v' := .bool true) rfl ?_
 refine r_done (k_then_n (c_cond_t rfl ?_))
 refine c_seq (c_plain (.q 0 (.done)) (by kernel_rfl) ?_)
 refine q_assign rfl rfl rfl rfl (r_done (k_then_n (c_ret (k_then_ret (ret1 rfl rfl (()) (by first | rfl | (first | rfl | (congr 1; done) | (congr 1 <;> first | rfl | omega | (simp; done) | (simp; omega)))) (by trivial) ?_)))))
 exact Tf
theorem ohasn (e : Int) : Spec Try.prog 27 [.pointer none, .int .u64 e] [] (fun (_ : Unit) => .bool false) (fun _ => True) (fun _ => []) := by
 refine spec_mk (n := 15) Try.func27 rfl rfl rfl ?_
 intro Γ w0
 simp only [argE, List.cons_append, List.nil_append, Nat.zero_add, Nat.reduceAdd]
 refine c_seq (c_plain (.q 0 (.done)) (by kernel_rfl) ?_)
 refine q_assign rfl rfl rfl rfl (r_done (k_then_n (c_seq (c_plain (.q 0 (.q 1 (.q 2 (.q 3 (.q 4 (.q 5 (.q 6 (.q 7 ((.l 8 [] (.q 9 (.q 10 (.done))))))))))))) (by kernel_rfl) ?_))))
 refine q_move rfl rfl rfl rfl (q_ne_nil rfl rfl rfl rfl Try.underlying25 ?_)
 refine s_eq 6 rfl (v' := .bool false) rfl ?_
 refine q_move rfl rfl rfl rfl (q_skip rfl rfl rfl rfl (q_skip rfl rfl rfl rfl (q_skip rfl rfl rfl rfl (q_skip rfl rfl rfl rfl (q_skip rfl rfl rfl rfl (l_skip rfl rfl rfl rfl ?_))))))
 refine q_pick_f rfl rfl rfl rfl rfl (q_assign rfl rfl rfl rfl (r_done (s_keep [4] (e' := [(4, _)]) rfl ?_)))
 refine k_then_n (c_ret (ret1 rfl rfl (()) (by first | rfl | (first | rfl | (congr 1; done) | (congr 1 <;> first | rfl | omega | (simp; done) | (simp; omega)))) (by trivial) ?_))
 exact Tf
theorem oepn (z : Int) : Spec Try.prog 26 [.pointer none, .int .i64 z] [] (fun (_ : Unit) => .tuple #[.int .u64 0, .int .i64 1]) (fun _ => True) (fun _ => []) := by
 refine spec_mk (n := 24) Try.func26 rfl rfl rfl ?_
 intro Γ w0
 simp only [argE, List.cons_append, List.nil_append, Nat.zero_add, Nat.reduceAdd]
 refine c_seq (c_plain (.q 0 (.q 1 (.done))) (by kernel_rfl) ?_)
 refine q_assign rfl rfl rfl rfl (q_assign rfl rfl rfl rfl (r_done (k_then_n (c_seq (c_seq (c_plain (.q 0 (.q 1 ((.l 2 [] (.q 3 (.done)))))) (by kernel_rfl) ?_))))))
 refine q_move rfl rfl rfl rfl (q_move rfl rfl rfl rfl ?_)
 have sp_1 := Vp.owrongn z
 refine l_call rfl rfl rfl rfl rfl rfl Try.call42 (sp_1) Ts ?_
 rintro ⟨⟩ -
 try simp only [List.cons_append, List.nil_append]
 refine ag_nil (q_assign rfl rfl rfl rfl (r_done (s_keep [0, 1, 6] (e' := [(0, _), (1, _), (6, _)]) rfl ?_)))
 refine k_then_n (c_seq (c_plain (.q 0 (.q 1 (.done))) (by kernel_rfl) ?_))
 refine q_move rfl rfl rfl rfl (q_int rfl rfl rfl rfl rfl (b_neq _ _ _ _) ?_)
 refine s_eq 11 rfl (v' := .bool true) (by first | rfl | simp) ?_
 refine r_done (k_then_n (c_cond_t rfl ?_))
 refine c_seq (c_plain (.q 0 (.q 1 (.q 2 (.done)))) (by kernel_rfl) ?_)
 refine q_move rfl rfl rfl rfl (q_assign rfl rfl rfl rfl (q_assign rfl rfl rfl rfl (r_done (s_keep [4, 5] (e' := [(4, _), (5, _)]) rfl ?_))))
 refine k_then_n (c_ret (k_then_ret (ret2 rfl rfl rfl (()) (by first | rfl | (first | rfl | (congr 1; done) | (congr 1 <;> first | rfl | omega | (simp; done) | (simp; omega)))) (by trivial) ?_)))
 exact Tf
theorem oalln : Spec Try.prog 22 [.pointer none] [] (fun (r : Nat) => .func (.func 65) #[] #[.pointer (some ⟨r, 0, none⟩)]) (fun r => True) (fun r => [cells r 0 [.slice none 0 0]]) := by
 refine spec_mk (n := 6) Try.func22 rfl rfl rfl ?_
 intro Γ w0
 simp only [argE, List.cons_append, List.nil_append, Nat.zero_add, Nat.reduceAdd]
 refine c_seq (c_plain (.q 0 (.done)) (by kernel_rfl) ?_)
 refine q_assign rfl rfl rfl rfl (r_done (k_then_n (c_seq (c_plain (.q 0 ((.l 1 [] ((.l 2 [] (.q 3 (.done))))))) (by kernel_rfl) ?_))))
 refine q_move rfl rfl rfl rfl ?_
 have sp_1 := Vp.olistn
 refine l_call rfl rfl rfl rfl rfl rfl Try.call18 (sp_1) Ts ?_
 rintro ⟨⟩ -
 try simp only [List.cons_append, List.nil_append]
 refine ag_nil ?_
 have sp_2 := Vc.over_spec none 0 0
 refine l_call rfl rfl rfl rfl rfl rfl Try.call40 (sp_2) Ts ?_
 rintro bx -
 try simp only [List.cons_append, List.nil_append]
 refine ag_nil (q_assign rfl rfl rfl rfl (r_done (s_keep [2] (e' := [(2, _)]) rfl ?_)))
 refine k_then_n (c_ret (ret1 rfl rfl (bx) (by first | rfl | (first | rfl | (congr 1; done) | (congr 1 <;> first | rfl | omega | (simp; done) | (simp; omega)))) (by trivial) ?_))
 exact Tf
theorem oof (xs : List Int) (ao : Option Addr) (n c : Nat) (A : HProp) (hr : RdS A ao (xs.flatMap encU)) (hn : xs.length = n) (hx0 : ∀ x ∈ xs, 0 ≤ x) (hb : n ≤ 4000000000) : Spec Try.prog 37 [.slice ao n c] [A] (fun (r : Option Addr) => .tuple #[.pointer r, .int .i64 (ofE xs)]) (fun r => r = none ↔ ofM xs = none) (fun r => [A, plc owB r (ofM xs)]) := by
 refine spec_mk (n := 26) Try.func37 rfl rfl rfl ?_
 intro Γ w0
 simp only [argE, List.cons_append, List.nil_append, Nat.zero_add, Nat.reduceAdd]
 refine c_seq (c_plain (.q 0 (.q 1 (.done))) (by kernel_rfl) ?_)
 refine q_assign rfl rfl rfl rfl (q_assign rfl rfl rfl rfl (r_done (k_then_n (c_seq (c_seq (c_plain (.q 0 (.q 1 (.q 2 (.done)))) (by kernel_rfl) ?_))))))
 refine q_move rfl rfl rfl rfl (q_len rfl rfl rfl rfl Try.underlying23 ?_)
 refine q_int rfl rfl rfl rfl rfl (b_gtr _ _ _ _) ?_
 refine r_done (s_keep [0, 9] (e' := [(0, _), (9, _)]) rfl ?_)
 refine k_then_n ?_
 refine c_cond_p rfl (fun hlong => ?_) (fun hlong => ?_)
 ·
  have hM : ofM xs = none := if_pos (by omega)
  have hE : ofE xs = 3 := if_pos (by omega)
  rw [hM, hE]
  refine c_seq (c_plain (.q 0 (.q 1 (.done))) (by kernel_rfl) ?_)
  refine q_assign rfl rfl rfl rfl (q_assign rfl rfl rfl rfl (r_done (k_then_n (c_ret (k_then_ret (plc_nil (R := owB) ?_))))))
  refine ret2 rfl rfl rfl (none) (by first | rfl | (first | rfl | (congr 1; done) | (congr 1 <;> first | rfl | omega | (simp; done) | (simp; omega)))) (by simp) ?_
  exact Tf
 have hlo : ¬ 65535 < xs.length := by omega
 refine c_skip (k_then_n (c_seq (c_seq (c_plain (.q 0 (.q 1 (.q 2 (.done)))) (by kernel_rfl) ?_))))
 refine q_move rfl rfl rfl rfl (q_len rfl rfl rfl rfl Try.underlying23 ?_)
 refine q_move rfl rfl rfl rfl (r_done (k_then_n (c_block ?_)))
 refine c_loop2 (α := Nat) (fun (i : Nat) => i ≤ n ∧ (∀ x ∈ xs.take i, x ≤ maxC)) (fun (i : Nat) => [(12, .int .i64 ((i : Nat) : Int))]) (fun (i : Nat) => []) (fun (i : Nat) => n - i) [0, 10, 11] (er := [(0, _), (10, _), (11, _)]) rfl (0) ?_ (by exact ⟨rfl, trivial⟩) (by (try dsimp only); (try simp only [Nat.add_zero, Nat.zero_add]); (repeat ((with_reducible apply Z2); focus (first | (with_reducible (repeat (first | exact Z0 | apply Z1)); done) | (repeat (first | exact Z0 | apply Z1))))); exact Z3) ?_
 · exact ⟨Nat.zero_le _, fun x hx => by simp at hx⟩
 rintro i ⟨hle_i, hT_⟩
 try simp only [List.cons_append, List.nil_append]
 refine c_seq (c_plain (.q 0 (.done)) (by kernel_rfl) ?_)
 refine q_int rfl rfl rfl rfl rfl (b_lss _ _ _ _) ?_
 refine r_done (k_then_n (c_seq ?_))
 refine c_cond_p rfl (fun hlt => ?_) (fun hlt => ?_)
 ·
  refine c_skip (k_then_n (c_seq (c_block (c_seq (c_plain (.q 0 (.q 1 (.q 2 (.done)))) (by kernel_rfl) ?_)))))
  obtain ⟨x, hx⟩ := get_lt (l := xs) (i := i) (by first | omega | (simp; done) | (simp; omega))
  refine q_idxR (sz := 0) (k := i) rfl rfl rfl rfl rfl Try.underlying23 Try.sizeOf30 (hr) hx encU_len (by first | rfl | omega) (by omega) ?_
  intro ib14 io14 _ hd14
  refine q_load rfl rfl rfl rfl Try.isAgg30 Tk (hd14 0 (.int .u64 x) rfl) ?_
  refine q_assign rfl rfl rfl rfl (r_done (k_then_n (c_seq (c_plain (.q 0 (.q 1 (.done))) (by kernel_rfl) ?_))))
  refine q_move rfl rfl rfl rfl (q_int rfl rfl rfl rfl rfl (b_gtr _ _ _ _) ?_)
  refine r_done (s_keep [0, 10, 11, 12, 17] (e' := [(0, _), (10, _), (11, _), (12, _), (17, _)]) rfl ?_)
  refine k_then_n ?_
  refine c_cond_p rfl (fun hv => ?_) (fun hv => ?_)
  ·
   have hM : ofM xs = none := by rw [ofM, if_neg hlo, if_pos ⟨x, List.mem_of_getElem? hx, by simp only [maxC]; omega⟩]
   have hE : ofE xs = 30 := by rw [ofE, if_neg hlo, if_pos ⟨x, List.mem_of_getElem? hx, by simp only [maxC]; omega⟩]
   rw [hM, hE]
   refine c_seq (c_plain (.q 0 (.q 1 (.done))) (by kernel_rfl) ?_)
   refine q_assign rfl rfl rfl rfl (q_assign rfl rfl rfl rfl (r_done (s_keep [2, 3] (e' := [(2, _), (3, _)]) rfl ?_)))
   refine k_then_n (c_ret (k_blk_ret (k_then_ret (k_then_ret (k_blk_ret (k_then_ret (plc_nil (R := owB) ?_)))))))
   refine ret2 rfl rfl rfl (none) (by first | rfl | (first | rfl | (congr 1; done) | (congr 1 <;> first | rfl | omega | (simp; done) | (simp; omega)))) (by simp) ?_
   exact Tf
  have hv : x ≤ maxC := by simp only [maxC]; omega
  refine c_skip (k_blk_n (k_then_n (c_plain (.q 0 (.q 1 (.done))) (by kernel_rfl) ?_)))
  refine q_int rfl rfl rfl rfl rfl (b_add' _ (by exact fits_i64 (by omega) (by omega))) ?_
  refine q_move rfl rfl rfl rfl (r_done (k_then_n ?_))
  refine loop_next (x := i) (i + 1) ?_ ?_ ?_ ?_
  · exact ⟨by omega, fun y hy => (by rw [List.take_add_one, hx] at hy; rcases List.mem_append.1 hy with h | h; exact hT_ y h; simp at h; subst h; exact hv)⟩
  · show n - (i + 1) < n - i; omega
  · exact ⟨rfl, rfl, rfl, rfl, trivial⟩
  · (try simp only [List.cons_append, List.nil_append]); exact Tf
 refine c_exit (k_then_exit (k_then_exit (k_blk_here (k_then_n (c_seq ?_)))))
 have hin : i = n := by omega
 rw [show xs.take i = xs from List.take_of_length_le (by omega)] at hT_
 have hno : ¬ ∃ x ∈ xs, maxC < x := fun ⟨x, h1, h2⟩ => absurd (hT_ x h1) (by omega)
 rw [show ofM xs = some (tr xs) from by rw [ofM, if_neg hlo, if_neg hno], show ofE xs = 0 from by rw [ofE, if_neg hlo, if_neg hno]]
 refine c_plain (.q 0 ((.l 1 [] (.q 2 ((.l 3 [] (.q 4 (.done)))))))) (by kernel_rfl) ?_
 refine q_move rfl rfl rfl rfl ?_
 have sp_1 := Vc.clone_spec xs ao n c A Ln (hr) (by rw [hn]; omega)
 refine l_call rfl rfl rfl rfl rfl rfl Try.call41 (sp_1) Ts ?_
 rintro ⟨qa, qc⟩ -
 try simp only [List.cons_append, List.nil_append]
 refine ag_nil (q_build rfl rfl rfl rfl (vs := [_]) (run_buildS Try.underlying64 Try.zeroValue64 (ps := [(0, 1)]) ⟨rfl, Try.sizeOf23, trivial⟩ rfl) ?_)
 refine l_box rfl rfl rfl rfl (us := [_]) rfl ?_
 intro b22
 refine ag_nil (q_assign rfl rfl rfl rfl (r_done (s_keep [6] (e' := [(6, _)]) rfl ?_)))
 refine k_then_n (c_seq (c_plain (.q 0 ((.l 1 [] (.done)))) (by kernel_rfl) ?_))
 refine q_move rfl rfl rfl rfl ?_
 have sp_2 := Vc.trim_spec b22 xs qa n qc (by exact hn) (by omega)
 refine l_call rfl rfl rfl rfl rfl rfl Try.call44 (sp_2) Ts ?_
 rintro ⟨⟩ -
 try simp only [List.cons_append, List.nil_append]
 refine ag_nil (r_done (k_then_n (c_seq (c_plain (.q 0 (.q 1 (.q 2 (.done)))) (by kernel_rfl) ?_))))
 refine q_move rfl rfl rfl rfl (q_assign rfl rfl rfl rfl (q_assign rfl rfl rfl rfl (r_done (s_keep [2, 3] (e' := [(2, _), (3, _)]) rfl ?_))))
 refine k_then_n (c_ret (ow_fold (b := b22) (ao := qa) (cap := qc) (tr xs) Ts rfl (tr_cv (by omega) (fun x hx => ⟨hx0 x hx, hT_ x hx⟩)) ?_))
 refine plc_put (R := owB) (b := b22) (t := tr xs) Tk ?_
 refine ret2 rfl rfl rfl ((some ⟨b22, 0, none⟩)) (by first | rfl | (first | rfl | (congr 1; done) | (congr 1 <;> first | rfl | omega | (simp; done) | (simp; omega)))) (by simp) ?_
 exact Tf
theorem oindex (os : List (Option Addr)) (oo : Option Addr) (n c : Nat) (A : HProp) (hr : RdS A oo (os.flatMap encA)) (hn : os.length = n) (hb : n ≤ 4000000000) : Spec Try.prog 67 [.slice oo n c, .pointer none] [A] (fun (r : Int) => .int .i64 r) (fun r => 0 ≤ r ↔ none ∈ os) (fun r => [A]) := by
 refine spec_mk (n := 19) Try.func67 rfl rfl rfl ?_
 intro Γ w0
 simp only [argE, List.cons_append, List.nil_append, Nat.zero_add, Nat.reduceAdd]
 refine c_seq (c_plain (.q 0 (.done)) (by kernel_rfl) ?_)
 refine q_assign rfl rfl rfl rfl (r_done (k_then_n (c_seq (c_seq (c_plain (.q 0 (.q 1 (.q 2 (.done)))) (by kernel_rfl) ?_)))))
 refine q_move rfl rfl rfl rfl (q_len rfl rfl rfl rfl Try.underlying73 ?_)
 refine q_move rfl rfl rfl rfl (r_done (k_then_n (c_block ?_)))
 refine c_loop2 (α := Nat) (fun (i : Nat) => i ≤ n ∧ (∀ x ∈ os.take i, x ≠ none)) (fun (i : Nat) => [(8, .int .i64 ((i : Nat) : Int))]) (fun (i : Nat) => []) (fun (i : Nat) => n - i) [0, 1, 7] (er := [(0, _), (1, _), (7, _)]) rfl (0) ?_ (by exact ⟨rfl, trivial⟩) (by (try dsimp only); (try simp only [Nat.add_zero, Nat.zero_add]); (repeat ((with_reducible apply Z2); focus (first | (with_reducible (repeat (first | exact Z0 | apply Z1)); done) | (repeat (first | exact Z0 | apply Z1))))); exact Z3) ?_
 · exact ⟨Nat.zero_le _, fun x hx => by simp at hx⟩
 rintro i ⟨hle_i, hI⟩
 try simp only [List.cons_append, List.nil_append]
 refine c_seq (c_plain (.q 0 (.done)) (by kernel_rfl) ?_)
 refine q_int rfl rfl rfl rfl rfl (b_lss _ _ _ _) ?_
 refine r_done (k_then_n (c_seq ?_))
 refine c_cond_p rfl (fun hlt => ?_) (fun hlt => ?_)
 ·
  refine c_skip (k_then_n (c_seq (c_block (c_seq (c_plain (.q 0 (.q 1 (.done))) (by kernel_rfl) ?_)))))
  refine q_move rfl rfl rfl rfl (q_assign rfl rfl rfl rfl (r_done (k_then_n (c_seq (c_plain (.q 0 (.q 1 (.q 2 (.q 3 (.q 4 (.q 5 (.done))))))) (by kernel_rfl) ?_)))))
  refine q_move rfl rfl rfl rfl (q_move rfl rfl rfl rfl (q_move rfl rfl rfl rfl ?_))
  obtain ⟨x, hx⟩ := get_lt (l := os) (i := i) (by first | omega | (simp; done) | (simp; omega))
  refine q_idxR (sz := 0) (k := i) rfl rfl rfl rfl rfl Try.underlying73 Try.sizeOf25 (hr) hx encA_len (by first | rfl | omega) (by omega) ?_
  intro ib14 io14 _ hd14
  refine q_load rfl rfl rfl rfl Try.isAgg25 Tk (hd14 0 (.pointer x) rfl) ?_
  refine q_eqp rfl rfl rfl rfl rfl Try.underlying25 (by first | exact .inl rfl | exact .inr rfl) ?_
  refine r_done (s_keep [0, 1, 5, 7, 8, 16] (e' := [(0, _), (1, _), (5, _), (7, _), (8, _), (16, _)]) rfl ?_)
  refine k_then_n ?_
  refine c_cond rfl (fun hnx => ?_) (fun hnx => ?_)
  ·
   try simp only [Bool.and_eq_true, Bool.or_eq_true, Bool.not_eq_true', Bool.not_eq_false', Bool.and_eq_false_iff, Bool.or_eq_false_iff, decide_eq_true_eq, decide_eq_false_iff_not] at hnx
   refine c_seq (c_plain (.q 0 (.q 1 (.done))) (by kernel_rfl) ?_)
   refine q_move rfl rfl rfl rfl (q_assign rfl rfl rfl rfl (r_done (s_keep [4] (e' := [(4, _)]) rfl ?_)))
   refine k_then_n (c_ret (k_blk_ret (k_then_ret (k_then_ret (k_blk_ret (k_then_ret (ret1 rfl rfl (((i : Nat) : Int)) (by first | rfl | (first | rfl | (congr 1; done) | (congr 1 <;> first | rfl | omega | (simp; done) | (simp; omega)))) (by exact ⟨fun _ => by obtain rfl : x = none := (by cases x with | none => rfl | some y => simp at hnx); exact List.mem_of_getElem? hx, fun _ => by omega⟩) ?_)))))))
   exact Tf
  try simp only [Bool.and_eq_true, Bool.or_eq_true, Bool.not_eq_true', Bool.not_eq_false', Bool.and_eq_false_iff, Bool.or_eq_false_iff, decide_eq_true_eq, decide_eq_false_iff_not] at hnx
  refine c_skip (k_blk_n (k_then_n (c_plain (.q 0 (.q 1 (.done))) (by kernel_rfl) ?_)))
  refine q_int rfl rfl rfl rfl rfl (b_add' _ (by exact fits_i64 (by omega) (by omega))) ?_
  refine q_move rfl rfl rfl rfl (r_done (k_then_n ?_))
  refine loop_next (x := i) (i + 1) ?_ ?_ ?_ ?_
  · exact ⟨by omega, fun y hy => (by rw [List.take_add_one, hx] at hy; rcases List.mem_append.1 hy with h | h; exact hI y h; simp at h; subst h; intro e; subst e; simp at hnx)⟩
  · show n - (i + 1) < n - i; omega
  · exact ⟨rfl, rfl, rfl, rfl, trivial⟩
  · (try simp only [List.cons_append, List.nil_append]); exact Tf
 refine c_exit (k_then_exit (k_then_exit (k_blk_here (k_then_n (c_seq (c_plain (.q 0 (.done)) (by kernel_rfl) ?_))))))
 refine q_assign rfl rfl rfl rfl (r_done (s_keep [4] (e' := [(4, _)]) rfl ?_))
 refine k_then_n (c_ret (ret1 rfl rfl ((-1)) (by first | rfl | (first | rfl | (congr 1; done) | (congr 1 <;> first | rfl | omega | (simp; done) | (simp; omega)))) (by exact ⟨fun h => absurd h (by decide), fun h => by rw [List.take_of_length_le (by omega)] at hI; exact absurd rfl (hI _ h)⟩) ?_))
 exact Tf
theorem ocontains (os : List (Option Addr)) (oo : Option Addr) (n c : Nat) (A : HProp) (hr : RdS A oo (os.flatMap encA)) (hn : os.length = n) (hb : n ≤ 4000000000) : Spec Try.prog 47 [.slice oo n c, .pointer none] [A] (fun (_ : Unit) => .bool (decide (none ∈ os))) (fun _ => True) (fun _ => [A]) := by
 refine spec_mk (n := 9) Try.func47 rfl rfl rfl ?_
 intro Γ w0
 simp only [argE, List.cons_append, List.nil_append, Nat.zero_add, Nat.reduceAdd]
 refine c_seq (c_plain (.q 0 (.done)) (by kernel_rfl) ?_)
 refine q_assign rfl rfl rfl rfl (r_done (k_then_n (c_seq (c_plain (.q 0 (.q 1 ((.l 2 [] (.q 3 (.q 4 (.done))))))) (by kernel_rfl) ?_))))
 refine q_move rfl rfl rfl rfl (q_move rfl rfl rfl rfl ?_)
 have sp_1 := Vp.oindex os oo n c A hr hn hb
 refine l_call rfl rfl rfl rfl rfl rfl Try.call67 (sp_1) Ts ?_
 rintro r hri
 try simp only [List.cons_append, List.nil_append]
 refine ag_nil (q_int rfl rfl rfl rfl rfl (b_geq _ _ _ _) ?_)
 refine q_assign rfl rfl rfl rfl (r_done (s_keep [4] (e' := [(4, _)]) rfl ?_))
 refine k_then_n (c_ret (ret1 rfl rfl (()) (by congr 1; exact decide_eq_decide.2 hri) (by trivial) ?_))
 exact Tf
end Go.Ab.Vp
set_option linter.unusedVariables false
set_option linter.unusedSimpArgs false
set_option maxRecDepth 100000
namespace Go.Ab.Vp
open Go Go.Proofs Go.Ab Go.Ab.Vc Go.Ab.Rv
theorem pd_len_self (l : List Int) : pd l l.length = l := by simp [pd]
theorem ojoin (L : List Pl) (ps : List Nat) (hps : ∀ p ∈ ps, p < L.length) (oo : Option Addr) (n c : Nat) (A : HProp) (hr : RdS A oo ((ps.map (ptr L)).flatMap encA)) (hn : ps.length = n) (hb : n ≤ 4000000000) (q b : Nat) (t : List Int) (hx : L[q]? = some (some ⟨b, 0, none⟩, some t)) : Spec Try.prog 29 [.pointer (some ⟨b, 0, none⟩), .slice oo n c] [A, bigS (plF owB) L] (fun (_ : Unit) => .int .i64 (oE L ps)) (fun _ => True) (fun _ => [A, bigS (plF owB) (L.set q (some ⟨b, 0, none⟩, some (if badP L ps then t else jnP L t ps)))]) := by
 refine spec_mk (n := 56) Try.func29 rfl rfl rfl ?_
 intro Γ w0
 simp only [argE, List.cons_append, List.nil_append, Nat.zero_add, Nat.reduceAdd]
 refine c_seq (c_plain (.q 0 (.done)) (by kernel_rfl) ?_)
 refine q_assign rfl rfl rfl rfl (r_done (k_then_n (c_seq (c_seq (big_iffs (R := owB) (L := L) Tk fun hbi => ?_)))))
 have hbad_ := bad_iff hbi hps
 refine c_plain (.q 0 (.q 1 (.q 2 (.q 3 ((.l 4 [] (.q 5 (.done)))))))) (by kernel_rfl) ?_
 refine q_move rfl rfl rfl rfl (q_eq_nil rfl rfl rfl rfl Try.underlying25 ?_)
 refine s_eq 10 rfl (v' := .bool false) rfl ?_
 refine q_move rfl rfl rfl rfl (q_move rfl rfl rfl rfl ?_)
 have sp_1 := Vp.ocontains (ps.map (ptr L)) oo n c A hr (by simp [hn]) hb
 refine l_call rfl rfl rfl rfl rfl rfl Try.call47 (sp_1) Ts ?_
 rintro ⟨⟩ -
 try simp only [List.cons_append, List.nil_append]
 refine ag_nil (s_eq 13 rfl (v' := .bool (decide (badP L ps))) (by congr 1; exact decide_eq_decide.2 hbad_) ?_)
 refine q_pick_f rfl rfl rfl rfl rfl (r_done (s_keep [0, 1, 14] (e' := [(0, _), (1, _), (14, _)]) rfl ?_))
 refine k_then_n ?_
 refine c_cond_p rfl (fun hbad => ?_) (fun hbad => ?_)
 ·
  rw [show oE L ps = 1 from if_pos hbad, if_pos hbad, set_same hx]
  refine c_seq (c_plain (.q 0 (.done)) (by kernel_rfl) ?_)
  refine q_assign rfl rfl rfl rfl (r_done (k_then_n (c_ret (k_then_ret (ret1 rfl rfl (()) (by first | rfl | (first | rfl | (congr 1; done) | (congr 1 <;> first | rfl | omega | (simp; done) | (simp; omega)))) (by trivial) ?_)))))
  exact Tf
 have hng := hbad
 rw [show oE L ps = 0 from if_neg hng, if_neg hng]
 refine s_big_take (f := plF owB) (L := L) (i := q) Tk hx ?_
 refine plc_getb (R := owB) (b := b) (t := t) Tk ?_
 refine ow_open (b := b) (t := t) Tk fun ao cap hct => ?_
 have htl := hct.len
 refine c_skip (k_then_n (c_seq (c_seq (c_plain (.q 0 (.q 1 (.q 2 (.done)))) (by kernel_rfl) ?_))))
 refine q_move rfl rfl rfl rfl (q_len rfl rfl rfl rfl Try.underlying73 ?_)
 refine q_move rfl rfl rfl rfl (r_done (k_then_n (c_block ?_)))
 refine c_loop2 (α := Nat × Option Addr × Nat) (fun (x_ : Nat × Option Addr × Nat) => match x_ with | (k, ja, jc) => k ≤ n ∧ (CV (jnP L t (ps.take k))) ∧ (LeqL t (jnP L t (ps.take k)))) (fun (x_ : Nat × Option Addr × Nat) => match x_ with | (k, ja, jc) => [(17, .int .i64 ((k : Nat) : Int))]) (fun (x_ : Nat × Option Addr × Nat) => match x_ with | (k, ja, jc) => [bigS (plF owB) (L.eraseIdx q), cells b 0 [.slice ja ((jnP L t (ps.take k)).length) jc], own 1 encU ja jc (jnP L t (ps.take k))]) (fun (x_ : Nat × Option Addr × Nat) => match x_ with | (k, ja, jc) => n - k) [0, 15, 16] (er := [(0, _), (15, _), (16, _)]) rfl (0, ao, cap) ?_ (by exact ⟨rfl, trivial⟩) (by (try dsimp only); (try simp only [Nat.add_zero, Nat.zero_add]); (repeat ((with_reducible apply Z2); focus (first | (with_reducible (repeat (first | exact Z0 | apply Z1)); done) | (repeat (first | exact Z0 | apply Z1))))); exact Z3) ?_
 · exact ⟨Nat.zero_le _, hct, leq_refl _⟩
 rintro ⟨k, ja, jc⟩ ⟨hle_k, hcv, hle⟩
 try simp only [List.cons_append, List.nil_append]
 have hcl := hcv.len
 refine c_seq (c_plain (.q 0 (.done)) (by kernel_rfl) ?_)
 refine q_int rfl rfl rfl rfl rfl (b_lss _ _ _ _) ?_
 refine r_done (k_then_n (c_seq ?_))
 refine c_cond_p rfl (fun hlt => ?_) (fun hlt => ?_)
 ·
  obtain ⟨p, hp⟩ := get_lt (l := ps) (i := k) (by omega)
  obtain ⟨⟨a, m⟩, hxp⟩ := get_lt (l := L) (i := p) (hps p (List.mem_of_getElem? hp))
  have ha : (ps.map (ptr L))[k]? = some a := by rw [List.getElem?_map, hp, Option.map_some, ptr_of hxp]
  obtain ⟨cur, hcur⟩ : ∃ c, c = jnP L t (ps.take k) := ⟨_, rfl⟩
  rw [← hcur] at hcv hcl hle ⊢
  refine c_skip (k_then_n (c_seq (c_block (c_seq (c_plain (.q 0 (.q 1 (.q 2 (.done)))) (by kernel_rfl) ?_)))))
  refine q_idxR (sz := 0) (k := k) rfl rfl rfl rfl rfl Try.underlying73 Try.sizeOf25 (hr) ha encA_len (by first | rfl | omega) (by omega) ?_
  intro ib19 io19 _ hd19
  by_cases hpq : p = q
  ·
   obtain ⟨rfl, rfl⟩ : a = some ⟨b, 0, none⟩ ∧ m = some t := by
     rw [hpq, hx] at hxp; cases hxp; exact ⟨rfl, rfl⟩
   have hmp : mem L p = some t := mem_of hxp
   have hnx : jnP L t (ps.take (k + 1)) = cur := by rw [jnP_next hp hmp, ← hcur]; exact jn_self hcv hct hle
   refine q_load rfl rfl rfl rfl Try.isAgg25 Tk (hd19 0 (.pointer (some ⟨b, 0, none⟩)) rfl) ?_
   refine s_eq 20 rfl (v' := .pointer (some ⟨b, 0, none⟩)) (by rfl) ?_
   refine q_assign rfl rfl rfl rfl (r_done (k_then_n (c_seq (c_plain (.q 0 (.q 1 (.q 2 (.q 3 (.q 4 (.q 5 (.q 6 ((.l 7 [] (.done)))))))))) (by kernel_rfl) ?_))))
   refine q_move rfl rfl rfl rfl (q_move rfl rfl rfl rfl (q_nil_p rfl rfl rfl rfl (q_field (k := 0) rfl rfl rfl rfl Try.underlying64 rfl Try.sizeOf23 rfl ?_)))
   refine q_load_c (j := 0) rfl rfl rfl rfl Try.isAgg23 Tk Az (by rfl) ?_
   refine q_len rfl rfl rfl rfl Try.underlying23 ?_
   refine q_int rfl rfl rfl rfl rfl (b_sub' _ (by exact fits_i64 (by omega) (by omega))) ?_
   have sp_2 := Vc.reach_spec b cur cur.length ja cur.length jc Ln (by omega)
   refine l_call rfl rfl rfl rfl rfl rfl Try.call43 (sp_2) Ts ?_
   rintro ⟨re_a, re_c⟩ -
   try simp only [List.cons_append, List.nil_append]
   refine ag_nil ?_
   rw [pd_len_self cur]
   refine r_done (s_keep [0, 6, 15, 16, 17] (e' := [(0, _), (6, _), (15, _), (16, _), (17, _)]) rfl ?_)
   refine k_then_n (c_seq (c_plain (.q 0 (.q 1 (.q 2 (.q 3 (.q 4 (.q 5 (.done))))))) (by kernel_rfl) ?_))
   refine q_move rfl rfl rfl rfl (q_nil_p rfl rfl rfl rfl (q_field (k := 0) rfl rfl rfl rfl Try.underlying64 rfl Try.sizeOf23 rfl ?_))
   refine q_load_c (j := 0) rfl rfl rfl rfl Try.isAgg23 Tk Az (by rfl) ?_
   refine q_len rfl rfl rfl rfl Try.underlying23 ?_
   refine q_move rfl rfl rfl rfl (r_done (s_keep [0, 15, 16, 17, 32, 33, 34] (e' := [(0, _), (15, _), (16, _), (17, _), (32, _), (33, _), (34, _)]) rfl ?_))
   refine k_then_n (c_block ?_)
   refine c_loop2 (α := Nat) (fun (i : Nat) => i ≤ cur.length) (fun (i : Nat) => [(34, .int .i64 ((i : Nat) : Int))]) (fun (i : Nat) => [cells b 0 [.slice re_a cur.length re_c], own 1 encU re_a re_c cur]) (fun (i : Nat) => cur.length - i) [0, 15, 16, 17, 32, 33] (er := [(0, _), (15, _), (16, _), (17, _), (32, _), (33, _)]) rfl (0) ?_ (by exact ⟨rfl, trivial⟩) (by (try dsimp only); (try simp only [Nat.add_zero, Nat.zero_add]); (repeat ((with_reducible apply Z2); focus (first | (with_reducible (repeat (first | exact Z0 | apply Z1)); done) | (repeat (first | exact Z0 | apply Z1))))); exact Z3) ?_
   · exact Nat.zero_le _
   rintro i hle_i
   try simp only [List.cons_append, List.nil_append]
   refine c_seq (c_plain (.q 0 (.done)) (by kernel_rfl) ?_)
   refine q_int rfl rfl rfl rfl rfl (b_lss _ _ _ _) ?_
   refine r_done (k_then_n (c_seq ?_))
   refine c_cond_p rfl (fun hli => ?_) (fun hli => ?_)
   ·
    obtain ⟨x, hx_⟩ := get_lt (l := cur) (i := i) (by omega)
    refine c_skip (k_then_n (c_seq (c_block (c_seq (c_plain (.q 0 (.q 1 (.q 2 (.q 3 (.q 4 (.done)))))) (by kernel_rfl) ?_)))))
    refine q_move rfl rfl rfl rfl (q_idxO (sz := 0) (k := i) (enc := encU) (xs := cur) rfl rfl rfl rfl rfl Try.underlying23 Try.sizeOf30 hx_ (by first | rfl | omega) (by omega) Tk ?_)
    intro ib37 io37 ha37 hl37 hc37
    refine q_load_O (v := (.int .u64 x)) (j := 0) (k' := i) (enc := encU) (off := io37) rfl rfl rfl rfl Try.isAgg30 ha37 encU_len hx_ Tk (by first | rfl | exact (Nat.add_zero _).symm | omega) (by rfl) ?_
    refine q_assign rfl rfl rfl rfl (q_assign rfl rfl rfl rfl (r_done (s_keep [0, 7, 8, 15, 16, 17, 32, 33, 34] (e' := [(0, _), (7, _), (8, _), (15, _), (16, _), (17, _), (32, _), (33, _), (34, _)]) rfl ?_)))
    refine k_then_n (c_draw rfl (.q 0 (.q 1 (.q 2 (.q 3 (.q 4 (.q 5 (.q 6 (.q 7 (.q 8 (.q 9 (.q 10 (.q 11 (.q 12 (.q 13 (.q 14 ((.l 15 [] (.done)))))))))))))))))) (by kernel_rfl) ?_)
    refine q_move rfl rfl rfl rfl (q_nil_p rfl rfl rfl rfl (q_field (k := 0) rfl rfl rfl rfl Try.underlying64 rfl Try.sizeOf23 rfl ?_))
    refine q_load_c (j := 0) rfl rfl rfl rfl Try.isAgg23 Tk Az (by rfl) ?_
    refine q_move rfl rfl rfl rfl (q_move rfl rfl rfl rfl (q_nil_p rfl rfl rfl rfl (q_field (k := 0) rfl rfl rfl rfl Try.underlying64 rfl Try.sizeOf23 rfl ?_)))
    refine q_load_c (j := 0) rfl rfl rfl rfl Try.isAgg23 Tk Az (by rfl) ?_
    refine q_move rfl rfl rfl rfl (q_idxO (sz := 0) (k := i) (enc := encU) (xs := cur) rfl rfl rfl rfl rfl Try.underlying23 Try.sizeOf30 hx_ (by first | rfl | omega) (by omega) Tk ?_)
    intro ib49 io49 ha49 hl49 hc49
    refine q_load_O (v := (.int .u64 x)) (j := 0) (k' := i) (enc := encU) (off := io49) rfl rfl rfl rfl Try.isAgg30 ha49 encU_len hx_ Tk (by first | rfl | exact (Nat.add_zero _).symm | omega) (by rfl) ?_
    refine q_move rfl rfl rfl rfl (q_max rfl rfl rfl rfl rfl ?_)
    refine q_idxO (sz := 0) (k := i) (enc := encU) (xs := cur) rfl rfl rfl rfl rfl Try.underlying23 Try.sizeOf30 hx_ (by first | rfl | omega) (by omega) Tk ?_
    intro ib53 io53 ha53 hl53 hc53
    refine l_store_O (j := 0) (k := i) (q := (max x x)) (enc := encU) (off := io53) rfl rfl rfl rfl Try.sizeOf30 (us := [_]) rfl rfl rfl ha53 encU_len hx_ Tk (by first | rfl | exact (Nat.add_zero _).symm | omega) (by first | decide | exact Nat.le_of_ble_eq_true rfl) (by rfl) ?_
    refine ag_nil (r_done (s_keep [0, 15, 16, 17, 32, 33, 34] (e' := [(0, _), (15, _), (16, _), (17, _), (32, _), (33, _), (34, _)]) rfl ?_))
    refine k_blk_n (k_then_n (c_plain (.q 0 (.q 1 (.done))) (by kernel_rfl) ?_))
    refine q_int rfl rfl rfl rfl rfl (b_add' _ (by exact fits_i64 (by omega) (by omega))) ?_
    refine q_move rfl rfl rfl rfl (r_done (k_then_n ?_))
    rw [show cur.set i (max x x) = cur from by rw [Int.max_self]; exact set_same hx_]
    refine loop_next (x := i) (i + 1) ?_ ?_ ?_ ?_
    · exact by show i + 1 ≤ cur.length; omega
    · show cur.length - (i + 1) < cur.length - i; omega
    · exact ⟨rfl, rfl, rfl, rfl, rfl, rfl, rfl, trivial⟩
    · (try simp only [List.cons_append, List.nil_append]); exact Tf
   refine c_exit (k_then_exit (k_then_exit (k_blk_here (k_blk_n (k_then_n (c_plain (.q 0 (.q 1 (.done))) (by kernel_rfl) ?_))))))
   refine q_int rfl rfl rfl rfl rfl (b_add' _ (by exact fits_i64 (by omega) (by omega))) ?_
   refine q_move rfl rfl rfl rfl (r_done (s_keep [0, 15, 16, 17] (e' := [(0, _), (15, _), (16, _), (17, _)]) rfl ?_))
   refine k_then_n ?_
   rw [← hnx] at hcv hle ⊢
   refine loop_next (x := (k, ja, jc)) ((k + 1, re_a, re_c)) ?_ ?_ ?_ ?_
   · try dsimp only
     exact ⟨by omega, hcv, hle⟩
   · show n - (k + 1) < n - k; omega
   · exact ⟨rfl, rfl, rfl, rfl, trivial⟩
   · (try simp only [List.cons_append, List.nil_append]); exact Tf
  obtain ⟨dl, rfl⟩ : ∃ u, m = some u := by
    cases m with
    | none => exact absurd ⟨p, List.mem_of_getElem? hp, mem_of hxp⟩ hng
    | some u => exact ⟨u, rfl⟩
  have hmp : mem L p = some dl := mem_of hxp
  obtain ⟨j, hj⟩ := erase_get (q := q) hxp hpq
  refine s_big_take (f := plF owB) (L := L.eraseIdx q) (i := j) Tk hj ?_
  refine plc_get (R := owB) (a := a) (t := dl) Tk fun d hd => ?_
  subst hd
  refine ow_open (b := d) (t := dl) Tk fun da dc hdv => ?_
  have hdl := hdv.len
  have hnx : jnP L t (ps.take (k + 1)) = jn cur dl := by rw [jnP_next hp hmp, ← hcur]
  refine q_load rfl rfl rfl rfl Try.isAgg25 Tk (hd19 0 (.pointer (some ⟨d, 0, none⟩)) rfl) ?_
  refine s_eq 20 rfl (v' := .pointer (some ⟨d, 0, none⟩)) (by rfl) ?_
  refine q_assign rfl rfl rfl rfl (r_done (k_then_n (c_seq (c_plain (.q 0 (.q 1 (.q 2 (.q 3 (.q 4 (.q 5 (.q 6 ((.l 7 [] (.done)))))))))) (by kernel_rfl) ?_))))
  refine q_move rfl rfl rfl rfl (q_move rfl rfl rfl rfl (q_nil_p rfl rfl rfl rfl (q_field (k := 0) rfl rfl rfl rfl Try.underlying64 rfl Try.sizeOf23 rfl ?_)))
  refine q_load_c (j := 0) rfl rfl rfl rfl Try.isAgg23 Tk Az (by rfl) ?_
  refine q_len rfl rfl rfl rfl Try.underlying23 ?_
  refine q_int rfl rfl rfl rfl rfl (b_sub' _ (by exact fits_i64 (by omega) (by omega))) ?_
  have sp_3 := Vc.reach_spec b cur dl.length ja cur.length jc Ln (by omega)
  refine l_call rfl rfl rfl rfl rfl rfl Try.call43 (sp_3) Ts ?_
  rintro ⟨re_a, re_c⟩ -
  try simp only [List.cons_append, List.nil_append]
  refine ag_nil (r_done (s_keep [0, 6, 15, 16, 17] (e' := [(0, _), (6, _), (15, _), (16, _), (17, _)]) rfl ?_))
  refine k_then_n (c_seq (c_plain (.q 0 (.q 1 (.q 2 (.q 3 (.q 4 (.q 5 (.done))))))) (by kernel_rfl) ?_))
  refine q_move rfl rfl rfl rfl (q_nil_p rfl rfl rfl rfl (q_field (k := 0) rfl rfl rfl rfl Try.underlying64 rfl Try.sizeOf23 rfl ?_))
  refine q_load_c (j := 0) rfl rfl rfl rfl Try.isAgg23 Tk Az (by rfl) ?_
  refine q_len rfl rfl rfl rfl Try.underlying23 ?_
  refine q_move rfl rfl rfl rfl (r_done (s_keep [0, 15, 16, 17, 32, 33, 34] (e' := [(0, _), (15, _), (16, _), (17, _), (32, _), (33, _), (34, _)]) rfl ?_))
  refine k_then_n (c_block ?_)
  refine c_loop2 (α := Nat) (fun (i : Nat) => i ≤ dl.length) (fun (i : Nat) => [(34, .int .i64 ((i : Nat) : Int))]) (fun (i : Nat) => [cells d 0 [.slice da dl.length dc], own 1 encU da dc dl, cells b 0 [.slice re_a ((pd cur dl.length).length) re_c], own 1 encU re_a re_c (jnI cur dl i)]) (fun (i : Nat) => dl.length - i) [0, 15, 16, 17, 32, 33] (er := [(0, _), (15, _), (16, _), (17, _), (32, _), (33, _)]) rfl (0) ?_ (by exact ⟨rfl, trivial⟩) (by (try dsimp only); rw [jnI_zero]; (repeat ((with_reducible apply Z2); focus (first | (with_reducible (repeat (first | exact Z0 | apply Z1)); done) | (repeat (first | exact Z0 | apply Z1))))); exact Z3) ?_
  · exact Nat.zero_le _
  rintro i hle_i
  try simp only [List.cons_append, List.nil_append]
  have hjl : (jnI cur dl i).length = max cur.length dl.length := jnI_len _ _ _
  have hjp := pd_len cur dl.length
  refine c_seq (c_plain (.q 0 (.done)) (by kernel_rfl) ?_)
  refine q_int rfl rfl rfl rfl rfl (b_lss _ _ _ _) ?_
  refine r_done (k_then_n (c_seq ?_))
  refine c_cond_p rfl (fun hli => ?_) (fun hli => ?_)
  ·
   obtain ⟨y, hy⟩ := get_lt (l := dl) (i := i) (by omega)
   have hji : (jnI cur dl i)[i]? = some (cur.getD i 0) := by rw [jnI_get (by omega), if_neg (by omega)]
   refine c_skip (k_then_n (c_seq (c_block (c_seq (c_plain (.q 0 (.q 1 (.q 2 (.q 3 (.q 4 (.done)))))) (by kernel_rfl) ?_)))))
   refine q_move rfl rfl rfl rfl (q_idxO (sz := 0) (k := i) (enc := encU) (xs := dl) rfl rfl rfl rfl rfl Try.underlying23 Try.sizeOf30 hy (by first | rfl | omega) (by omega) Tk ?_)
   intro ib37 io37 ha37 hl37 hc37
   refine q_load_O (v := (.int .u64 y)) (j := 0) (k' := i) (enc := encU) (off := io37) rfl rfl rfl rfl Try.isAgg30 ha37 encU_len hy Tk (by first | rfl | exact (Nat.add_zero _).symm | omega) (by rfl) ?_
   refine q_assign rfl rfl rfl rfl (q_assign rfl rfl rfl rfl (r_done (s_keep [0, 7, 8, 15, 16, 17, 32, 33, 34] (e' := [(0, _), (7, _), (8, _), (15, _), (16, _), (17, _), (32, _), (33, _), (34, _)]) rfl ?_)))
   refine k_then_n (c_draw rfl (.q 0 (.q 1 (.q 2 (.q 3 (.q 4 (.q 5 (.q 6 (.q 7 (.q 8 (.q 9 (.q 10 (.q 11 (.q 12 (.q 13 (.q 14 ((.l 15 [] (.done)))))))))))))))))) (by kernel_rfl) ?_)
   refine q_move rfl rfl rfl rfl (q_nil_p rfl rfl rfl rfl (q_field (k := 0) rfl rfl rfl rfl Try.underlying64 rfl Try.sizeOf23 rfl ?_))
   refine q_load_c (j := 0) rfl rfl rfl rfl Try.isAgg23 Tk Az (by rfl) ?_
   refine q_move rfl rfl rfl rfl (q_move rfl rfl rfl rfl (q_nil_p rfl rfl rfl rfl (q_field (k := 0) rfl rfl rfl rfl Try.underlying64 rfl Try.sizeOf23 rfl ?_)))
   refine q_load_c (j := 0) rfl rfl rfl rfl Try.isAgg23 Tk Az (by rfl) ?_
   refine q_move rfl rfl rfl rfl (q_idxO (sz := 0) (k := i) (enc := encU) (xs := (jnI cur dl i)) rfl rfl rfl rfl rfl Try.underlying23 Try.sizeOf30 hji (by first | rfl | omega) (by omega) Tk ?_)
   intro ib49 io49 ha49 hl49 hc49
   refine q_load_O (v := (.int .u64 (cur.getD i 0))) (j := 0) (k' := i) (enc := encU) (off := io49) rfl rfl rfl rfl Try.isAgg30 ha49 encU_len hji Tk (by first | rfl | exact (Nat.add_zero _).symm | omega) (by rfl) ?_
   refine q_move rfl rfl rfl rfl (q_max rfl rfl rfl rfl rfl ?_)
   refine q_idxO (sz := 0) (k := i) (enc := encU) (xs := (jnI cur dl i)) rfl rfl rfl rfl rfl Try.underlying23 Try.sizeOf30 hji (by first | rfl | omega) (by omega) Tk ?_
   intro ib53 io53 ha53 hl53 hc53
   refine l_store_O (j := 0) (k := i) (q := (max (cur.getD i 0) y)) (enc := encU) (off := io53) rfl rfl rfl rfl Try.sizeOf30 (us := [_]) rfl rfl rfl ha53 encU_len hji Tk (by first | rfl | exact (Nat.add_zero _).symm | omega) (by first | decide | exact Nat.le_of_ble_eq_true rfl) (by rfl) ?_
   refine ag_nil (r_done (s_keep [0, 15, 16, 17, 32, 33, 34] (e' := [(0, _), (15, _), (16, _), (17, _), (32, _), (33, _), (34, _)]) rfl ?_))
   refine k_blk_n (k_then_n (c_plain (.q 0 (.q 1 (.done))) (by kernel_rfl) ?_))
   refine q_int rfl rfl rfl rfl rfl (b_add' _ (by exact fits_i64 (by omega) (by omega))) ?_
   refine q_move rfl rfl rfl rfl (r_done (k_then_n ?_))
   rw [jnI_next hy]
   refine loop_next (x := i) (i + 1) ?_ ?_ ?_ ?_
   · exact by show i + 1 ≤ dl.length; omega
   · show dl.length - (i + 1) < dl.length - i; omega
   · exact ⟨rfl, rfl, rfl, rfl, rfl, rfl, rfl, trivial⟩
   · (try simp only [List.cons_append, List.nil_append]); exact Tf
  refine c_exit (k_then_exit (k_then_exit (k_blk_here (k_blk_n (k_then_n (c_plain (.q 0 (.q 1 (.done))) (by kernel_rfl) ?_))))))
  refine q_int rfl rfl rfl rfl rfl (b_add' _ (by exact fits_i64 (by omega) (by omega))) ?_
  refine q_move rfl rfl rfl rfl (r_done (s_keep [0, 15, 16, 17] (e' := [(0, _), (15, _), (16, _), (17, _)]) rfl ?_))
  refine k_then_n ?_
  have hje : jnI cur dl i = jnP L t (ps.take (k + 1)) := by rw [hnx]; exact jnI_end hcv (by omega)
  have hjl2 : (pd cur dl.length).length = (jnP L t (ps.take (k + 1))).length := by rw [hnx, pd_len, jn_len]
  refine s_take (A := own 1 encU re_a re_c (jnI cur dl i)) Td ?_
  refine s_heap (Γ' := own 1 encU re_a re_c (jnP L t (ps.take (k + 1))) :: _) (fun _ h => (by rw [← hje]; exact h)) ?_
  refine s_take (A := cells b 0 [.slice re_a ((pd cur dl.length).length) re_c]) Td ?_
  refine s_heap (Γ' := cells b 0 [.slice re_a ((jnP L t (ps.take (k + 1))).length) re_c] :: _) (fun _ h => (by rw [← hjl2]; exact h)) ?_
  refine ow_fold (b := d) (ao := da) (cap := dc) dl Ts rfl hdv ?_
  refine plc_put (R := owB) (b := d) (t := dl) Tk ?_
  refine s_big_put (f := plF owB) (L := L.eraseIdx q) (i := j) (y := (some ⟨d, 0, none⟩, some dl)) Ts (List.getElem?_eq_some_iff.1 hj).1 ?_
  rw [set_same hj]
  refine loop_next (x := (k, ja, jc)) ((k + 1, re_a, re_c)) ?_ ?_ ?_ ?_
  · try dsimp only
    exact ⟨by omega, by rw [hnx]; exact jn_cv hcv hdv, by rw [hnx]; exact leq_jn hct hcv hdv hle⟩
  · show n - (k + 1) < n - k; omega
  · exact ⟨rfl, rfl, rfl, rfl, trivial⟩
  · (try simp only [List.cons_append, List.nil_append]); exact Tf
 refine c_exit (k_then_exit (k_then_exit (k_blk_here (k_then_n (c_seq (c_plain (.q 0 (.done)) (by kernel_rfl) ?_))))))
 refine q_assign rfl rfl rfl rfl (r_done (s_keep [4] (e' := [(4, _)]) rfl ?_))
 refine k_then_n (c_ret ?_)
 obtain rfl : k = n := by omega
 rw [List.take_of_length_le (by omega)] at hcv ⊢
 refine ow_fold (b := b) (ao := ja) (cap := jc) (jnP L t ps) Ts rfl hcv ?_
 refine plc_put (R := owB) (b := b) (t := jnP L t ps) Tk ?_
 refine s_big_put (f := plF owB) (L := L) (i := q) (y := (some ⟨b, 0, none⟩, some (jnP L t ps))) Ts (List.getElem?_eq_some_iff.1 hx).1 ?_
 refine ret1 rfl rfl (()) (by first | rfl | (first | rfl | (congr 1; done) | (congr 1 <;> first | rfl | omega | (simp; done) | (simp; omega)))) (by trivial) ?_
 exact Tf
theorem ojoinn (oo : Option Addr) (n c : Nat) : Spec Try.prog 29 [.pointer none, .slice oo n c] [] (fun (_ : Unit) => .int .i64 1) (fun _ => True) (fun _ => []) := by
 refine spec_mk (n := 56) Try.func29 rfl rfl rfl ?_
 intro Γ w0
 simp only [argE, List.cons_append, List.nil_append, Nat.zero_add, Nat.reduceAdd]
 refine c_seq (c_plain (.q 0 (.done)) (by kernel_rfl) ?_)
 refine q_assign rfl rfl rfl rfl (r_done (k_then_n (c_seq (c_seq (c_plain (.q 0 (.q 1 (.q 2 (.q 3 ((.l 4 [] (.q 5 (.done)))))))) (by kernel_rfl) ?_)))))
 refine q_move rfl rfl rfl rfl (q_eq_nil rfl rfl rfl rfl Try.underlying25 ?_)
 refine s_eq 10 rfl (v' := .bool true) rfl ?_
 refine q_move rfl rfl rfl rfl (q_skip rfl rfl rfl rfl (l_skip rfl rfl rfl rfl ?_))
 refine q_pick_t rfl rfl rfl rfl rfl (r_done (s_keep [0, 1, 14] (e' := [(0, _), (1, _), (14, _)]) rfl ?_))
 refine k_then_n (c_cond_t rfl ?_)
 refine c_seq (c_plain (.q 0 (.done)) (by kernel_rfl) ?_)
 refine q_assign rfl rfl rfl rfl (r_done (k_then_n (c_ret (k_then_ret (ret1 rfl rfl (()) (by first | rfl | (first | rfl | (congr 1; done) | (congr 1 <;> first | rfl | omega | (simp; done) | (simp; omega)))) (by trivial) ?_)))))
 exact Tf
theorem omeet (L : List Pl) (ps : List Nat) (hps : ∀ p ∈ ps, p < L.length) (oo : Option Addr) (n c : Nat) (A : HProp) (hr : RdS A oo ((ps.map (ptr L)).flatMap encA)) (hn : ps.length = n) (hb : n ≤ 4000000000) (q b : Nat) (t : List Int) (hx : L[q]? = some (some ⟨b, 0, none⟩, some t)) : Spec Try.prog 38 [.pointer (some ⟨b, 0, none⟩), .slice oo n c] [A, bigS (plF owB) L] (fun (_ : Unit) => .int .i64 (oE L ps)) (fun _ => True) (fun _ => [A, bigS (plF owB) (L.set q (some ⟨b, 0, none⟩, some (if badP L ps then t else mtP L t ps)))]) := by
 refine spec_mk (n := 49) Try.func38 rfl rfl rfl ?_
 intro Γ w0
 simp only [argE, List.cons_append, List.nil_append, Nat.zero_add, Nat.reduceAdd]
 refine c_seq (c_plain (.q 0 (.done)) (by kernel_rfl) ?_)
 refine q_assign rfl rfl rfl rfl (r_done (k_then_n (c_seq (c_seq (big_iffs (R := owB) (L := L) Tk fun hbi => ?_)))))
 have hbad_ := bad_iff hbi hps
 refine c_plain (.q 0 (.q 1 (.q 2 (.q 3 ((.l 4 [] (.q 5 (.done)))))))) (by kernel_rfl) ?_
 refine q_move rfl rfl rfl rfl (q_eq_nil rfl rfl rfl rfl Try.underlying25 ?_)
 refine s_eq 9 rfl (v' := .bool false) rfl ?_
 refine q_move rfl rfl rfl rfl (q_move rfl rfl rfl rfl ?_)
 have sp_1 := Vp.ocontains (ps.map (ptr L)) oo n c A hr (by simp [hn]) hb
 refine l_call rfl rfl rfl rfl rfl rfl Try.call47 (sp_1) Ts ?_
 rintro ⟨⟩ -
 try simp only [List.cons_append, List.nil_append]
 refine ag_nil (s_eq 12 rfl (v' := .bool (decide (badP L ps))) (by congr 1; exact decide_eq_decide.2 hbad_) ?_)
 refine q_pick_f rfl rfl rfl rfl rfl (r_done (s_keep [0, 1, 13] (e' := [(0, _), (1, _), (13, _)]) rfl ?_))
 refine k_then_n ?_
 refine c_cond_p rfl (fun hbad => ?_) (fun hbad => ?_)
 ·
  rw [show oE L ps = 1 from if_pos hbad, if_pos hbad, set_same hx]
  refine c_seq (c_plain (.q 0 (.done)) (by kernel_rfl) ?_)
  refine q_assign rfl rfl rfl rfl (r_done (k_then_n (c_ret (k_then_ret (ret1 rfl rfl (()) (by first | rfl | (first | rfl | (congr 1; done) | (congr 1 <;> first | rfl | omega | (simp; done) | (simp; omega)))) (by trivial) ?_)))))
  exact Tf
 have hng := hbad
 rw [show oE L ps = 0 from if_neg hng, if_neg hng]
 refine s_big_take (f := plF owB) (L := L) (i := q) Tk hx ?_
 refine plc_getb (R := owB) (b := b) (t := t) Tk ?_
 refine ow_open (b := b) (t := t) Tk fun ao cap hct => ?_
 have htl := hct.len
 refine c_skip (k_then_n (c_seq (c_seq (c_plain (.q 0 (.q 1 (.q 2 (.done)))) (by kernel_rfl) ?_))))
 refine q_move rfl rfl rfl rfl (q_len rfl rfl rfl rfl Try.underlying73 ?_)
 refine q_move rfl rfl rfl rfl (r_done (k_then_n (c_block ?_)))
 refine c_loop2 (α := Nat) (fun (k : Nat) => k ≤ n ∧ (CV (mtP L t (ps.take k))) ∧ (LeqL (mtP L t (ps.take k)) t)) (fun (k : Nat) => [(16, .int .i64 ((k : Nat) : Int))]) (fun (k : Nat) => [bigS (plF owB) (L.eraseIdx q), cells b 0 [.slice ao ((mtP L t (ps.take k)).length) cap], own 1 encU ao cap (mtP L t (ps.take k))]) (fun (k : Nat) => n - k) [0, 14, 15] (er := [(0, _), (14, _), (15, _)]) rfl (0) ?_ (by exact ⟨rfl, trivial⟩) (by (try dsimp only); (try simp only [Nat.add_zero, Nat.zero_add]); (repeat ((with_reducible apply Z2); focus (first | (with_reducible (repeat (first | exact Z0 | apply Z1)); done) | (repeat (first | exact Z0 | apply Z1))))); exact Z3) ?_
 · exact ⟨Nat.zero_le _, hct, leq_refl _⟩
 rintro k ⟨hle_k, hcv, hle⟩
 try simp only [List.cons_append, List.nil_append]
 have hcl := hcv.len
 refine c_seq (c_plain (.q 0 (.done)) (by kernel_rfl) ?_)
 refine q_int rfl rfl rfl rfl rfl (b_lss _ _ _ _) ?_
 refine r_done (k_then_n (c_seq ?_))
 refine c_cond_p rfl (fun hlt => ?_) (fun hlt => ?_)
 ·
  obtain ⟨p, hp⟩ := get_lt (l := ps) (i := k) (by omega)
  obtain ⟨⟨a, m⟩, hxp⟩ := get_lt (l := L) (i := p) (hps p (List.mem_of_getElem? hp))
  have ha : (ps.map (ptr L))[k]? = some a := by rw [List.getElem?_map, hp, Option.map_some, ptr_of hxp]
  obtain ⟨cur, hcur⟩ : ∃ c, c = mtP L t (ps.take k) := ⟨_, rfl⟩
  rw [← hcur] at hcv hcl hle ⊢
  refine c_skip (k_then_n (c_seq (c_block (c_seq (c_plain (.q 0 (.q 1 (.q 2 (.done)))) (by kernel_rfl) ?_)))))
  refine q_idxR (sz := 0) (k := k) rfl rfl rfl rfl rfl Try.underlying73 Try.sizeOf25 (hr) ha encA_len (by first | rfl | omega) (by omega) ?_
  intro ib18 io18 _ hd18
  by_cases hpq : p = q
  ·
   obtain ⟨rfl, rfl⟩ : a = some ⟨b, 0, none⟩ ∧ m = some t := by
     rw [hpq, hx] at hxp; cases hxp; exact ⟨rfl, rfl⟩
   have hmp : mem L p = some t := mem_of hxp
   have hnx : mtP L t (ps.take (k + 1)) = cur := by rw [mtP_next hp hmp, ← hcur]; exact mt_self hcv hct hle
   refine q_load rfl rfl rfl rfl Try.isAgg25 Tk (hd18 0 (.pointer (some ⟨b, 0, none⟩)) rfl) ?_
   refine s_eq 19 rfl (v' := .pointer (some ⟨b, 0, none⟩)) (by rfl) ?_
   refine q_assign rfl rfl rfl rfl (r_done (k_then_n (c_seq (c_seq (c_plain (.q 0 (.q 1 (.q 2 (.q 3 (.q 4 (.q 5 (.done))))))) (by kernel_rfl) ?_)))))
   refine q_move rfl rfl rfl rfl (q_nil_p rfl rfl rfl rfl (q_field (k := 0) rfl rfl rfl rfl Try.underlying64 rfl Try.sizeOf23 rfl ?_))
   refine q_load_c (j := 0) rfl rfl rfl rfl Try.isAgg23 Tk Az (by rfl) ?_
   refine q_len rfl rfl rfl rfl Try.underlying23 ?_
   refine q_move rfl rfl rfl rfl (r_done (s_keep [0, 6, 14, 15, 16, 24, 25] (e' := [(0, _), (6, _), (14, _), (15, _), (16, _), (24, _), (25, _)]) rfl ?_))
   refine k_then_n (c_block ?_)
   refine c_loop2 (α := Nat) (fun (i : Nat) => i ≤ cur.length) (fun (i : Nat) => [(25, .int .i64 ((i : Nat) : Int))]) (fun (i : Nat) => [cells b 0 [.slice ao cur.length cap], own 1 encU ao cap cur]) (fun (i : Nat) => cur.length - i) [0, 6, 14, 15, 16, 24] (er := [(0, _), (6, _), (14, _), (15, _), (16, _), (24, _)]) rfl (0) ?_ (by exact ⟨rfl, trivial⟩) (by (try dsimp only); (try simp only [Nat.add_zero, Nat.zero_add]); (repeat ((with_reducible apply Z2); focus (first | (with_reducible (repeat (first | exact Z0 | apply Z1)); done) | (repeat (first | exact Z0 | apply Z1))))); exact Z3) ?_
   · exact Nat.zero_le _
   rintro i hle_i
   try simp only [List.cons_append, List.nil_append]
   refine c_seq (c_plain (.q 0 (.done)) (by kernel_rfl) ?_)
   refine q_int rfl rfl rfl rfl rfl (b_lss _ _ _ _) ?_
   refine r_done (k_then_n (c_seq ?_))
   refine c_cond_p rfl (fun hli => ?_) (fun hli => ?_)
   ·
    obtain ⟨x, hx_⟩ := get_lt (l := cur) (i := i) (by omega)
    refine c_skip (k_then_n (c_seq (c_block (c_seq (c_plain (.q 0 (.q 1 (.done))) (by kernel_rfl) ?_)))))
    refine q_move rfl rfl rfl rfl (q_assign rfl rfl rfl rfl (r_done (k_then_n (c_draw rfl (.q 0 (.q 1 (.q 2 (.q 3 (.q 4 (.q 5 (.q 6 (.q 7 (.q 8 (.q 9 (.q 10 (.q 11 (.q 12 (.q 13 ((.l 14 [3, 8, 11] (.q 15 (.q 16 ((.l 17 [] (.done))))))))))))))))))))) (by kernel_rfl) ?_))))
    refine q_move rfl rfl rfl rfl (q_nil_p rfl rfl rfl rfl (q_field (k := 0) rfl rfl rfl rfl Try.underlying64 rfl Try.sizeOf23 rfl ?_))
    refine q_load_c (j := 0) rfl rfl rfl rfl Try.isAgg23 Tk Az (by rfl) ?_
    refine q_move rfl rfl rfl rfl (q_move rfl rfl rfl rfl (q_nil_p rfl rfl rfl rfl (q_field (k := 0) rfl rfl rfl rfl Try.underlying64 rfl Try.sizeOf23 rfl ?_)))
    refine q_load_c (j := 0) rfl rfl rfl rfl Try.isAgg23 Tk Az (by rfl) ?_
    refine q_move rfl rfl rfl rfl (q_idxO (sz := 0) (k := i) (enc := encU) (xs := cur) rfl rfl rfl rfl rfl Try.underlying23 Try.sizeOf30 hx_ (by first | rfl | omega) (by omega) Tk ?_)
    intro ib38 io38 ha38 hl38 hc38
    refine q_load_O (v := (.int .u64 x)) (j := 0) (k' := i) (enc := encU) (off := io38) rfl rfl rfl rfl Try.isAgg30 ha38 encU_len hx_ Tk (by first | rfl | exact (Nat.add_zero _).symm | omega) (by rfl) ?_
    refine q_move rfl rfl rfl rfl (q_move rfl rfl rfl rfl ?_)
    have sp_2 := Vc.get_spec b cur ao cur.length cap Ln i
    refine l_call rfl rfl rfl rfl rfl rfl Try.call13 (sp_2) Ts ?_
    rintro ⟨⟩ -
    try simp only [List.cons_append, List.nil_append]
    refine ag_load_c (q := 0) rfl rfl rfl Try.isAgg23 Tk Az (by rfl) ?_
    refine ag_load_c (q := 0) rfl rfl rfl Try.isAgg23 Tk Az (by rfl) ?_
    refine ag_load_O (v := (.int .u64 x)) (j := 0) (k' := i) (enc := encU) (off := io38) rfl rfl rfl Try.isAgg30 ha38 encU_len hx_ Tk (by first | rfl | exact (Nat.add_zero _).symm | omega) (by rfl) ?_
    refine ag_nil (q_min rfl rfl rfl rfl rfl ?_)
    refine q_idxO (sz := 0) (k := i) (enc := encU) (xs := cur) rfl rfl rfl rfl rfl Try.underlying23 Try.sizeOf30 hx_ (by first | rfl | omega) (by omega) Tk ?_
    intro ib44 io44 ha44 hl44 hc44
    refine l_store_O (j := 0) (k := i) (q := (min x (cur.getD i 0))) (enc := encU) (off := io44) rfl rfl rfl rfl Try.sizeOf30 (us := [_]) rfl rfl rfl ha44 encU_len hx_ Tk (by first | rfl | exact (Nat.add_zero _).symm | omega) (by first | decide | exact Nat.le_of_ble_eq_true rfl) (by rfl) ?_
    refine ag_nil (r_done (s_keep [0, 6, 14, 15, 16, 24, 25] (e' := [(0, _), (6, _), (14, _), (15, _), (16, _), (24, _), (25, _)]) rfl ?_))
    refine k_blk_n (k_then_n (c_plain (.q 0 (.q 1 (.done))) (by kernel_rfl) ?_))
    refine q_int rfl rfl rfl rfl rfl (b_add' _ (by exact fits_i64 (by omega) (by omega))) ?_
    refine q_move rfl rfl rfl rfl (r_done (k_then_n ?_))
    rw [show cur.set i (min x (cur.getD i 0)) = cur from by rw [Vc.getD_mem hx_, Int.min_self]; exact set_same hx_]
    refine loop_next (x := i) (i + 1) ?_ ?_ ?_ ?_
    · exact by show i + 1 ≤ cur.length; omega
    · show cur.length - (i + 1) < cur.length - i; omega
    · exact ⟨rfl, rfl, rfl, rfl, rfl, rfl, rfl, trivial⟩
    · (try simp only [List.cons_append, List.nil_append]); exact Tf
   refine c_exit (k_then_exit (k_then_exit (k_blk_here (k_then_n ?_))))
   try have hjl := mtI_len cur dl i
   refine c_plain (.q 0 ((.l 1 [] (.done)))) (by kernel_rfl) ?_
   refine q_move rfl rfl rfl rfl ?_
   have sp_3 := Vc.trim_spec b cur ao cur.length cap Ln (by omega)
   refine l_call rfl rfl rfl rfl rfl rfl Try.call44 (sp_3) Ts ?_
   rintro ⟨⟩ -
   try simp only [List.cons_append, List.nil_append]
   refine ag_nil (r_done (s_keep [0, 14, 15, 16] (e' := [(0, _), (14, _), (15, _), (16, _)]) rfl ?_))
   refine k_blk_n (k_then_n (c_plain (.q 0 (.q 1 (.done))) (by kernel_rfl) ?_))
   refine q_int rfl rfl rfl rfl rfl (b_add' _ (by exact fits_i64 (by omega) (by omega))) ?_
   refine q_move rfl rfl rfl rfl (r_done (k_then_n ?_))
   have htc : tr cur = cur := tr_fix hcv.tr
   rw [htc]
   rw [← hnx] at hcv hle ⊢
   refine loop_next (x := k) (k + 1) ?_ ?_ ?_ ?_
   · exact ⟨by omega, hcv, hle⟩
   · show n - (k + 1) < n - k; omega
   · exact ⟨rfl, rfl, rfl, rfl, trivial⟩
   · (try simp only [List.cons_append, List.nil_append]); exact Tf
  obtain ⟨dl, rfl⟩ : ∃ u, m = some u := by
    cases m with
    | none => exact absurd ⟨p, List.mem_of_getElem? hp, mem_of hxp⟩ hng
    | some u => exact ⟨u, rfl⟩
  have hmp : mem L p = some dl := mem_of hxp
  obtain ⟨j, hj⟩ := erase_get (q := q) hxp hpq
  refine s_big_take (f := plF owB) (L := L.eraseIdx q) (i := j) Tk hj ?_
  refine plc_get (R := owB) (a := a) (t := dl) Tk fun d hd => ?_
  subst hd
  refine ow_open (b := d) (t := dl) Tk fun da dc hdv => ?_
  have hdl := hdv.len
  have hnx : mtP L t (ps.take (k + 1)) = mt cur dl := by rw [mtP_next hp hmp, ← hcur]
  refine q_load rfl rfl rfl rfl Try.isAgg25 Tk (hd18 0 (.pointer (some ⟨d, 0, none⟩)) rfl) ?_
  refine s_eq 19 rfl (v' := .pointer (some ⟨d, 0, none⟩)) (by rfl) ?_
  refine q_assign rfl rfl rfl rfl (r_done (k_then_n (c_seq (c_seq (c_plain (.q 0 (.q 1 (.q 2 (.q 3 (.q 4 (.q 5 (.done))))))) (by kernel_rfl) ?_)))))
  refine q_move rfl rfl rfl rfl (q_nil_p rfl rfl rfl rfl (q_field (k := 0) rfl rfl rfl rfl Try.underlying64 rfl Try.sizeOf23 rfl ?_))
  refine q_load_c (j := 0) rfl rfl rfl rfl Try.isAgg23 Tk Az (by rfl) ?_
  refine q_len rfl rfl rfl rfl Try.underlying23 ?_
  refine q_move rfl rfl rfl rfl (r_done (s_keep [0, 6, 14, 15, 16, 24, 25] (e' := [(0, _), (6, _), (14, _), (15, _), (16, _), (24, _), (25, _)]) rfl ?_))
  refine k_then_n (c_block ?_)
  refine c_loop2 (α := Nat) (fun (i : Nat) => i ≤ cur.length) (fun (i : Nat) => [(25, .int .i64 ((i : Nat) : Int))]) (fun (i : Nat) => [cells d 0 [.slice da dl.length dc], own 1 encU da dc dl, cells b 0 [.slice ao cur.length cap], own 1 encU ao cap (mtI cur dl i)]) (fun (i : Nat) => cur.length - i) [0, 6, 14, 15, 16, 24] (er := [(0, _), (6, _), (14, _), (15, _), (16, _), (24, _)]) rfl (0) ?_ (by exact ⟨rfl, trivial⟩) (by (try dsimp only); rw [mtI_zero]; (repeat ((with_reducible apply Z2); focus (first | (with_reducible (repeat (first | exact Z0 | apply Z1)); done) | (repeat (first | exact Z0 | apply Z1))))); exact Z3) ?_
  · exact Nat.zero_le _
  rintro i hle_i
  try simp only [List.cons_append, List.nil_append]
  have hjl := mtI_len cur dl i
  refine c_seq (c_plain (.q 0 (.done)) (by kernel_rfl) ?_)
  refine q_int rfl rfl rfl rfl rfl (b_lss _ _ _ _) ?_
  refine r_done (k_then_n (c_seq ?_))
  refine c_cond_p rfl (fun hli => ?_) (fun hli => ?_)
  ·
   have hji : (mtI cur dl i)[i]? = some (cur.getD i 0) := by rw [mtI_get (by omega), if_neg (by omega)]
   refine c_skip (k_then_n (c_seq (c_block (c_seq (c_plain (.q 0 (.q 1 (.done))) (by kernel_rfl) ?_)))))
   refine q_move rfl rfl rfl rfl (q_assign rfl rfl rfl rfl (r_done (k_then_n (c_draw rfl (.q 0 (.q 1 (.q 2 (.q 3 (.q 4 (.q 5 (.q 6 (.q 7 (.q 8 (.q 9 (.q 10 (.q 11 (.q 12 (.q 13 ((.l 14 [3, 8, 11] (.q 15 (.q 16 ((.l 17 [] (.done))))))))))))))))))))) (by kernel_rfl) ?_))))
   refine q_move rfl rfl rfl rfl (q_nil_p rfl rfl rfl rfl (q_field (k := 0) rfl rfl rfl rfl Try.underlying64 rfl Try.sizeOf23 rfl ?_))
   refine q_load_c (j := 0) rfl rfl rfl rfl Try.isAgg23 Tk Az (by rfl) ?_
   refine q_move rfl rfl rfl rfl (q_move rfl rfl rfl rfl (q_nil_p rfl rfl rfl rfl (q_field (k := 0) rfl rfl rfl rfl Try.underlying64 rfl Try.sizeOf23 rfl ?_)))
   refine q_load_c (j := 0) rfl rfl rfl rfl Try.isAgg23 Tk Az (by rfl) ?_
   refine q_move rfl rfl rfl rfl (q_idxO (sz := 0) (k := i) (enc := encU) (xs := (mtI cur dl i)) rfl rfl rfl rfl rfl Try.underlying23 Try.sizeOf30 hji (by first | rfl | omega) (by omega) Tk ?_)
   intro ib38 io38 ha38 hl38 hc38
   refine q_load_O (v := (.int .u64 (cur.getD i 0))) (j := 0) (k' := i) (enc := encU) (off := io38) rfl rfl rfl rfl Try.isAgg30 ha38 encU_len hji Tk (by first | rfl | exact (Nat.add_zero _).symm | omega) (by rfl) ?_
   refine q_move rfl rfl rfl rfl (q_move rfl rfl rfl rfl ?_)
   have sp_4 := Vc.get_spec d dl da dl.length dc Ln i
   refine l_call rfl rfl rfl rfl rfl rfl Try.call13 (sp_4) Ts ?_
   rintro ⟨⟩ -
   try simp only [List.cons_append, List.nil_append]
   refine ag_load_c (q := 0) rfl rfl rfl Try.isAgg23 Tk Az (by rfl) ?_
   refine ag_load_c (q := 0) rfl rfl rfl Try.isAgg23 Tk Az (by rfl) ?_
   refine ag_load_O (v := (.int .u64 (cur.getD i 0))) (j := 0) (k' := i) (enc := encU) (off := io38) rfl rfl rfl Try.isAgg30 ha38 encU_len hji Tk (by first | rfl | exact (Nat.add_zero _).symm | omega) (by rfl) ?_
   refine ag_nil (q_min rfl rfl rfl rfl rfl ?_)
   refine q_idxO (sz := 0) (k := i) (enc := encU) (xs := (mtI cur dl i)) rfl rfl rfl rfl rfl Try.underlying23 Try.sizeOf30 hji (by first | rfl | omega) (by omega) Tk ?_
   intro ib44 io44 ha44 hl44 hc44
   refine l_store_O (j := 0) (k := i) (q := (min (cur.getD i 0) (dl.getD i 0))) (enc := encU) (off := io44) rfl rfl rfl rfl Try.sizeOf30 (us := [_]) rfl rfl rfl ha44 encU_len hji Tk (by first | rfl | exact (Nat.add_zero _).symm | omega) (by first | decide | exact Nat.le_of_ble_eq_true rfl) (by rfl) ?_
   refine ag_nil (r_done (s_keep [0, 6, 14, 15, 16, 24, 25] (e' := [(0, _), (6, _), (14, _), (15, _), (16, _), (24, _), (25, _)]) rfl ?_))
   refine k_blk_n (k_then_n (c_plain (.q 0 (.q 1 (.done))) (by kernel_rfl) ?_))
   refine q_int rfl rfl rfl rfl rfl (b_add' _ (by exact fits_i64 (by omega) (by omega))) ?_
   refine q_move rfl rfl rfl rfl (r_done (k_then_n ?_))
   rw [mtI_next (by omega)]
   refine loop_next (x := i) (i + 1) ?_ ?_ ?_ ?_
   · exact by show i + 1 ≤ cur.length; omega
   · show cur.length - (i + 1) < cur.length - i; omega
   · exact ⟨rfl, rfl, rfl, rfl, rfl, rfl, rfl, trivial⟩
   · (try simp only [List.cons_append, List.nil_append]); exact Tf
  refine c_exit (k_then_exit (k_then_exit (k_blk_here (k_then_n ?_))))
  try have hjl := mtI_len cur dl i
  refine c_plain (.q 0 ((.l 1 [] (.done)))) (by kernel_rfl) ?_
  refine q_move rfl rfl rfl rfl ?_
  have sp_5 := Vc.trim_spec b (mtI cur dl i) ao cur.length cap Ln (by omega)
  refine l_call rfl rfl rfl rfl rfl rfl Try.call44 (sp_5) Ts ?_
  rintro ⟨⟩ -
  try simp only [List.cons_append, List.nil_append]
  refine ag_nil (r_done (s_keep [0, 14, 15, 16] (e' := [(0, _), (14, _), (15, _), (16, _)]) rfl ?_))
  refine k_blk_n (k_then_n (c_plain (.q 0 (.q 1 (.done))) (by kernel_rfl) ?_))
  refine q_int rfl rfl rfl rfl rfl (b_add' _ (by exact fits_i64 (by omega) (by omega))) ?_
  refine q_move rfl rfl rfl rfl (r_done (k_then_n ?_))
  obtain rfl : i = cur.length := by omega
  rw [show tr (mtI cur dl cur.length) = mtP L t (ps.take (k + 1)) from by rw [hnx]; rfl]
  refine ow_fold (b := d) (ao := da) (cap := dc) dl Ts rfl hdv ?_
  refine plc_put (R := owB) (b := d) (t := dl) Tk ?_
  refine s_big_put (f := plF owB) (L := L.eraseIdx q) (i := j) (y := (some ⟨d, 0, none⟩, some dl)) Ts (List.getElem?_eq_some_iff.1 hj).1 ?_
  rw [set_same hj]
  refine loop_next (x := k) (k + 1) ?_ ?_ ?_ ?_
  · exact ⟨by omega, by rw [hnx]; exact mt_cv hcv hdv, by rw [hnx]; exact mt_leq hct hcv hdv hle⟩
  · show n - (k + 1) < n - k; omega
  · exact ⟨rfl, rfl, rfl, rfl, trivial⟩
  · (try simp only [List.cons_append, List.nil_append]); exact Tf
 refine c_exit (k_then_exit (k_then_exit (k_blk_here (k_then_n (c_seq (c_plain (.q 0 (.done)) (by kernel_rfl) ?_))))))
 refine q_assign rfl rfl rfl rfl (r_done (s_keep [4] (e' := [(4, _)]) rfl ?_))
 refine k_then_n (c_ret ?_)
 obtain rfl : k = n := by omega
 rw [List.take_of_length_le (by omega)] at hcv ⊢
 refine ow_fold (b := b) (ao := ao) (cap := cap) (mtP L t ps) Ts rfl hcv ?_
 refine plc_put (R := owB) (b := b) (t := mtP L t ps) Tk ?_
 refine s_big_put (f := plF owB) (L := L) (i := q) (y := (some ⟨b, 0, none⟩, some (mtP L t ps))) Ts (List.getElem?_eq_some_iff.1 hx).1 ?_
 refine ret1 rfl rfl (()) (by first | rfl | (first | rfl | (congr 1; done) | (congr 1 <;> first | rfl | omega | (simp; done) | (simp; omega)))) (by trivial) ?_
 exact Tf
theorem omeetn (oo : Option Addr) (n c : Nat) : Spec Try.prog 38 [.pointer none, .slice oo n c] [] (fun (_ : Unit) => .int .i64 1) (fun _ => True) (fun _ => []) := by
 refine spec_mk (n := 49) Try.func38 rfl rfl rfl ?_
 intro Γ w0
 simp only [argE, List.cons_append, List.nil_append, Nat.zero_add, Nat.reduceAdd]
 refine c_seq (c_plain (.q 0 (.done)) (by kernel_rfl) ?_)
 refine q_assign rfl rfl rfl rfl (r_done (k_then_n (c_seq (c_seq (c_plain (.q 0 (.q 1 (.q 2 (.q 3 ((.l 4 [] (.q 5 (.done)))))))) (by kernel_rfl) ?_)))))
 refine q_move rfl rfl rfl rfl (q_eq_nil rfl rfl rfl rfl Try.underlying25 ?_)
 refine s_eq 9 rfl (v' := .bool true) rfl ?_
 refine q_move rfl rfl rfl rfl (q_skip rfl rfl rfl rfl (l_skip rfl rfl rfl rfl ?_))
 refine q_pick_t rfl rfl rfl rfl rfl (r_done (s_keep [0, 1, 13] (e' := [(0, _), (1, _), (13, _)]) rfl ?_))
 refine k_then_n (c_cond_t rfl ?_)
 refine c_seq (c_plain (.q 0 (.done)) (by kernel_rfl) ?_)
 refine q_assign rfl rfl rfl rfl (r_done (k_then_n (c_ret (k_then_ret (ret1 rfl rfl (()) (by first | rfl | (first | rfl | (congr 1; done) | (congr 1 <;> first | rfl | omega | (simp; done) | (simp; omega)))) (by trivial) ?_)))))
 exact Tf
end Go.Ab.Vp
set_option linter.unusedVariables false
set_option linter.unusedSimpArgs false
set_option maxRecDepth 100000
namespace Go.Ab.Vp
open Go Go.Proofs Go.Ab Go.Ab.Vc Go.Ab.Rv
theorem owB_cv (b : Nat) (t : List Int) (h : Hp) (a : owB b t h) : CV t := by obtain ⟨ao, cap, hc, -⟩ := a; exact hc
theorem ckB_cv (b : Nat) (t : List Int) (h : Hp) (a : ckB b t h) : CV t := by obtain ⟨ao, cap, l, ho, rfl, -⟩ := a; exact ok_cv ho
theorem ow_close2 {P : Program} {f : FuncId} {args : List Value} {V : Value} {b c : Nat} {t u : List Int}
    (S : ∀ ao cap bo dap, CV t → CV u → Spec P f args [cells b 0 [.slice ao t.length cap], own 1 encU ao cap t, cells c 0 [.slice bo u.length dap], own 1 encU bo dap u] (fun (_ : Unit) => V) (fun _ => True) (fun _ => [cells b 0 [.slice ao t.length cap], own 1 encU ao cap t, cells c 0 [.slice bo u.length dap], own 1 encU bo dap u])) :
    Spec P f args [owB b t, owB c u] (fun (_ : Unit) => V) (fun _ => True) (fun _ => [owB b t, owB c u]) := fun Γ w s => by
  obtain ⟨h1, l1, ⟨ao, cap, ht, a1⟩, s1⟩ := s
  have s2 : Sat (owB c u :: ([cells b 0 [.slice ao t.length cap], own 1 encU ao cap t] ++ Γ)) _ := Sat.perm (List.perm_middle (l₁ := [cells b 0 [.slice ao t.length cap], own 1 encU ao cap t])) (Bun.unfold (Γ := [_, _]) ⟨h1, l1, a1, s1⟩)
  obtain ⟨h2, l2, ⟨bo, dap, hu, a2⟩, s3⟩ := s2
  have s4 := Bun.unfold (Γ := [_, _]) ⟨h2, l2, a2, s3⟩
  have s5 : Sat ([cells b 0 [.slice ao t.length cap], own 1 encU ao cap t, cells c 0 [.slice bo u.length dap], own 1 encU bo dap u] ++ Γ) _ := Sat.perm (List.perm_append_comm_assoc [cells c 0 [.slice bo u.length dap], own 1 encU bo dap u] [cells b 0 [.slice ao t.length cap], own 1 encU ao cap t] Γ) s4
  refine (S ao cap bo dap ht hu Γ w s5).mono fun e w' ⟨x, e1, hx, s', a⟩ => ⟨x, e1, hx, ?_, a⟩
  obtain ⟨h3, l3, a3, s6⟩ := Bun.fold (Γ := [_, _]) s'
  have s7 : Sat (Bun [cells b 0 [.slice ao t.length cap], own 1 encU ao cap t] :: ([cells c 0 [.slice bo u.length dap], own 1 encU bo dap u] ++ Γ)) _ := ⟨h3, l3, a3, s6⟩
  have s8 := Sat.cons_mono (fun h s => Bun.fold (Γ := [cells c 0 [.slice bo u.length dap], own 1 encU bo dap u]) s) s7
  obtain ⟨h4, l4, a4, s9⟩ := s8
  refine ⟨h4, l4, ⟨ao, cap, ht, a4⟩, ?_⟩
  obtain ⟨h5, l5, a5, s10⟩ := s9
  exact ⟨h5, l5, ⟨bo, dap, hu, a5⟩, s10⟩
section
variable {P : Program} {f : FuncId} {args : List Value} {R : Nat → List Int → HProp} {L : List Pl} {i : Nat} {a : Option Addr} {m : Option (List Int)}
theorem big_up {Δ : List HProp} {α : Type} {v : α → Value} {φ : α → Prop} {Δ' : α → List HProp} (hR : ∀ b t h, R b t h → CV t) (hx : L[i]? = some (a, m)) (m' : α → Option (List Int)) (a0 : α) (v0 : Value)
    (N : Spec P f (.pointer none :: args) [] (fun (_ : Unit) => v0) (fun _ => True) (fun _ => []))
    (hn : m = none → v a0 = v0 ∧ φ a0 ∧ m' a0 = none ∧ ∀ Γ h, Sat (Δ ++ Γ) h → Sat (Δ' a0 ++ Γ) h)
    (hs : ∀ t, m = some t → CV t → ∃ t' : α → List Int, (∀ x, m' x = some (t' x)) ∧ ∀ b, Spec P f (.pointer (some ⟨b, 0, none⟩) :: args) (R b t :: Δ) v φ (fun x => R b (t' x) :: Δ' x)) :
    Spec P f (.pointer a :: args) (bigS (plF R) L :: Δ) v φ (fun x => bigS (plF R) (L.set i (a, m' x)) :: Δ' x) := fun Γ w s => by
  cases m with
  | none =>
    obtain ⟨e1, e2, e3, e4⟩ := hn rfl
    have ha : a = none := by
      obtain ⟨h1, l1, a1, s1⟩ := big_take (f := plF R) hx s
      exact a1
    subst ha
    refine (N (bigS (plF R) L :: (Δ ++ Γ)) w s).mono fun e w' ⟨_, q1, _, s', am⟩ => ⟨a0, by rw [q1, e1], e2, ?_, am⟩
    show Sat (bigS (plF R) (L.set i (none, m' a0)) :: (Δ' a0 ++ Γ)) _
    rw [e3, set_same hx]
    exact Sat.cons_mono (fun h s => e4 _ _ s) s'
  | some t =>
    obtain ⟨h1, l1, ⟨b, hb, a1⟩, s2⟩ := big_take (f := plF R) hx s
    simp only at hb a1
    subst hb
    obtain ⟨t', e1, k⟩ := hs t rfl (hR _ _ _ a1)
    have s3 : Sat ((R b t :: Δ) ++ (bigS (plF R) (L.eraseIdx i) :: Γ)) _ := Sat.cons_mono (fun h s => Sat.perm (List.perm_middle (l₁ := Δ)).symm s) ⟨h1, l1, a1, s2⟩
    refine (k b _ w s3).mono fun e w' ⟨x, q1, q2, s', am⟩ => ⟨x, q1, q2, ?_, am⟩
    show Sat (bigS (plF R) (L.set i (some ⟨b, 0, none⟩, m' x)) :: (Δ' x ++ Γ)) _
    rw [e1 x]
    refine big_put (List.getElem?_eq_some_iff.1 hx).1 ?_
    obtain ⟨h4, l4, a4, s4⟩ := s'
    exact ⟨h4, l4, ⟨b, rfl, a4⟩, Sat.perm (List.perm_middle (l₁ := Δ' x)) s4⟩
theorem big_some {Δ : List HProp} {α : Type} {v : α → Value} {φ : α → Prop} {Δ' : α → List HProp} {t : List Int} (hR : ∀ b t h, R b t h → CV t) (hx : L[i]? = some (a, some t)) (t' : α → List Int)
    (k : CV t → ∀ b, Spec P f (.pointer (some ⟨b, 0, none⟩) :: args) (R b t :: Δ) v φ (fun x => R b (t' x) :: Δ' x)) :
    Spec P f (.pointer a :: args) (bigS (plF R) L :: Δ) v φ (fun x => bigS (plF R) (L.set i (a, some (t' x))) :: Δ' x) := fun Γ w s => by
  obtain ⟨h1, l1, ⟨b, hb, a1⟩, s2⟩ := big_take (f := plF R) hx s
  simp only at hb a1
  subst hb
  have s3 : Sat ((R b t :: Δ) ++ (bigS (plF R) (L.eraseIdx i) :: Γ)) _ := Sat.cons_mono (fun h s => Sat.perm (List.perm_middle (l₁ := Δ)).symm s) ⟨h1, l1, a1, s2⟩
  refine (k (hR _ _ _ a1) b _ w s3).mono fun e w' ⟨x, q1, q2, s', am⟩ => ⟨x, q1, q2, ?_, am⟩
  show Sat (bigS (plF R) (L.set i (some ⟨b, 0, none⟩, some (t' x))) :: (Δ' x ++ Γ)) _
  refine big_put (List.getElem?_eq_some_iff.1 hx).1 ?_
  obtain ⟨h4, l4, a4, s4⟩ := s'
  exact ⟨h4, l4, ⟨b, rfl, a4⟩, Sat.perm (List.perm_middle (l₁ := Δ' x)) s4⟩
theorem big_rd (hR : ∀ b t h, R b t h → CV t) (hx : L[i]? = some (a, m)) (V : Option (List Int) → Value)
    (N : Spec P f (.pointer none :: args) [] (fun (_ : Unit) => V none) (fun _ => True) (fun _ => []))
    (hs : ∀ t b, m = some t → CV t → Spec P f (.pointer (some ⟨b, 0, none⟩) :: args) [R b t] (fun (_ : Unit) => V (some t)) (fun _ => True) (fun _ => [R b t])) :
    Spec P f (.pointer a :: args) [bigS (plF R) L] (fun (_ : Unit) => V m) (fun _ => True) (fun _ => [bigS (plF R) L]) := by
  have h := big_up (Δ := []) (v := fun (_ : Unit) => V m) (φ := fun _ => True) (Δ' := fun _ => []) hR hx (fun _ => m) () (V none) N (fun h => ⟨by rw [h], trivial, h, fun _ _ s => s⟩) (fun t h c => ⟨fun _ => t, fun _ => h, fun b => by rw [h]; exact hs t b h c⟩)
  rw [set_same hx] at h
  exact h
theorem big_ch (hR : ∀ b t h, R b t h → CV t) (hx : L[i]? = some (a, m)) (V : Option (List Int) → Value) (T : List Int → List Int)
    (N : Spec P f (.pointer none :: args) [] (fun (_ : Unit) => V none) (fun _ => True) (fun _ => []))
    (hs : ∀ t b, m = some t → CV t → Spec P f (.pointer (some ⟨b, 0, none⟩) :: args) [R b t] (fun (_ : Unit) => V (some t)) (fun _ => True) (fun _ => [R b (T t)])) :
    Spec P f (.pointer a :: args) [bigS (plF R) L] (fun (_ : Unit) => V m) (fun _ => True) (fun _ => [bigS (plF R) (L.set i (a, m.map T))]) :=
  big_up (Δ := []) (v := fun (_ : Unit) => V m) (φ := fun _ => True) (Δ' := fun _ => []) hR hx (fun _ => m.map T) () (V none) N (fun h => ⟨by rw [h], trivial, by rw [h]; rfl, fun _ _ s => s⟩) (fun t h c => ⟨fun _ => T t, fun _ => by rw [h]; rfl, fun b => by rw [h]; exact hs t b h c⟩)
theorem big_two {j : Nat} {a2 : Option Addr} {m2 : Option (List Int)} (hR : ∀ b t h, R b t h → CV t) (hx : L[i]? = some (a, m)) (hy : L[j]? = some (a2, m2)) (V : Option (List Int) → Option (List Int) → Value) (v0 : Value) (v1 : ∀ m, V none m = v0) (v2 : ∀ t, V (some t) none = v0)
    (N : ∀ a, Spec P f [.pointer none, .pointer a] [] (fun (_ : Unit) => v0) (fun _ => True) (fun _ => []))
    (M : ∀ b, Spec P f [.pointer (some ⟨b, 0, none⟩), .pointer none] [] (fun (_ : Unit) => v0) (fun _ => True) (fun _ => []))
    (S : ∀ t b, CV t → Spec P f [.pointer (some ⟨b, 0, none⟩), .pointer (some ⟨b, 0, none⟩)] [R b t] (fun (_ : Unit) => V (some t) (some t)) (fun _ => True) (fun _ => [R b t]))
    (D : ∀ t u b c, CV t → CV u → Spec P f [.pointer (some ⟨b, 0, none⟩), .pointer (some ⟨c, 0, none⟩)] [R b t, R c u] (fun (_ : Unit) => V (some t) (some u)) (fun _ => True) (fun _ => [R b t, R c u])) :
    Spec P f [.pointer a, .pointer a2] [bigS (plF R) L] (fun (_ : Unit) => V m m2) (fun _ => True) (fun _ => [bigS (plF R) L]) := by
  by_cases hij : i = j
  · subst hij
    rw [hx] at hy
    obtain ⟨rfl, rfl⟩ : a = a2 ∧ m = m2 := by cases hy; exact ⟨rfl, rfl⟩
    have hN : m = none → Spec P f [.pointer a, .pointer a] [bigS (plF R) L] (fun (_ : Unit) => V m m) (fun _ => True) (fun _ => [bigS (plF R) L]) := fun hm Γ w s => by
      subst hm
      have ha : a = none := by
        obtain ⟨h1, l1, a1, s1⟩ := big_take (f := plF R) hx s
        exact a1
      subst ha
      rw [v1]
      exact N none (bigS (plF R) L :: Γ) w s
    cases m with
    | none => exact hN rfl
    | some t =>
      intro Γ w s
      obtain ⟨h1, l1, ⟨b, hb, a1⟩, s2⟩ := big_take (f := plF R) hx s
      simp only at hb a1
      subst hb
      refine (S t b (hR _ _ _ a1) (bigS (plF R) (L.eraseIdx i) :: Γ) w ⟨h1, l1, a1, s2⟩).mono fun e w' ⟨x, q1, q2, s', am⟩ => ⟨x, q1, q2, ?_, am⟩
      obtain ⟨h4, l4, a4, s4⟩ := s'
      have := big_put (f := plF R) (L := L) (i := i) (y := (some ⟨b, 0, none⟩, some t)) (List.getElem?_eq_some_iff.1 hx).1 ⟨h4, l4, ⟨b, rfl, a4⟩, s4⟩
      rw [set_same hx] at this
      exact this
  · intro Γ w s
    cases m with
    | none =>
      have ha : a = none := by
        obtain ⟨h1, l1, a1, s1⟩ := big_take (f := plF R) hx s
        exact a1
      subst ha
      rw [v1]
      exact N a2 (bigS (plF R) L :: Γ) w s
    | some t =>
      cases m2 with
      | none =>
        have ha : a2 = none := by
          obtain ⟨h1, l1, a1, s1⟩ := big_take (f := plF R) hy s
          exact a1
        obtain ⟨b, hb⟩ : ∃ b, a = some ⟨b, 0, none⟩ := by
          obtain ⟨h1, l1, ⟨b, hb, a1⟩, s1⟩ := big_take (f := plF R) hx s
          exact ⟨b, hb⟩
        subst ha hb
        rw [v2]
        exact M b (bigS (plF R) L :: Γ) w s
      | some u =>
        obtain ⟨j', hj'⟩ := erase_get (q := i) hy (Ne.symm hij)
        obtain ⟨h1, l1, ⟨b, hb, a1⟩, s2⟩ := big_take (f := plF R) hx s
        simp only at hb a1
        subst hb
        have s3 : Sat (R b t :: (plF R (a2, some u) :: bigS (plF R) ((L.eraseIdx i).eraseIdx j') :: Γ)) _ := Sat.cons_mono (fun h s => big_take (f := plF R) hj' s) ⟨h1, l1, a1, s2⟩
        obtain ⟨h3, l3, ⟨c, hc, a3⟩, s4⟩ := s3.swap
        simp only at hc a3
        subst hc
        have s5 : Sat (R b t :: R c u :: bigS (plF R) ((L.eraseIdx i).eraseIdx j') :: Γ) _ := Sat.swap ⟨h3, l3, a3, s4⟩
        refine (D t u b c (hR _ _ _ a1) (hR _ _ _ a3) (bigS (plF R) ((L.eraseIdx i).eraseIdx j') :: Γ) w s5).mono fun e w' ⟨x, q1, q2, s', am⟩ => ⟨x, q1, q2, ?_, am⟩
        have s6 : Sat (R b t :: bigS (plF R) (L.eraseIdx i) :: Γ) _ := Sat.cons_mono (fun h s => by
          obtain ⟨h5, l5, a5, s5⟩ := s
          have := big_put (f := plF R) (L := L.eraseIdx i) (i := j') (y := (some ⟨c, 0, none⟩, some u)) (List.getElem?_eq_some_iff.1 hj').1 ⟨h5, l5, ⟨c, rfl, a5⟩, s5⟩
          rw [set_same hj'] at this
          exact this) s'
        obtain ⟨h4, l4, a4, s7⟩ := s6
        have := big_put (f := plF R) (L := L) (i := i) (y := (some ⟨b, 0, none⟩, some t)) (List.getElem?_eq_some_iff.1 hx).1 ⟨h4, l4, ⟨b, rfl, a4⟩, s7⟩
        rw [set_same hx] at this
        exact this
end
/-! What a place answers. -/
def gM (z : Int) : Option (List Int) → Int | none => 0 | some t => gZ t z
def sM (z v : Int) : Option (List Int) → Int | none => 1 | some _ => stE z v
def iMv (z : Int) : Option (List Int) → Int | none => 0 | some t => inV t z
def iMe (z : Int) : Option (List Int) → Int | none => 1 | some t => inE t z
def eMv (z : Int) : Option (List Int) → Int | none => 0 | some t => epV' t z
def eMe (z : Int) : Option (List Int) → Int | none => 1 | some _ => wrE z
def lM (m : Option (List Int)) : List Int := m.getD []
def hM (e : Nat) : Option (List Int) → Bool | none => false | some t => decide (hasE e t)
def leM : Option (List Int) → Option (List Int) → Bool | some t, some u => decide (LeqL t u) | _, _ => false
def eqM : Option (List Int) → Option (List Int) → Bool | some t, some u => decide (t = u) | _, _ => false
def agM : Option (List Int) → Option (List Int) → Int | some t, some u => agn t u | _, _ => 0
def nzM (m : Option (List Int)) : List Int := nz (lM m) (lM m).length
theorem agn_self (t : List Int) : agn t t = 1 := by rw [agn, if_pos (leq_refl t), if_pos (leq_refl t)]
theorem o_get {L : List Pl} {i : Nat} {a : Option Addr} {m : Option (List Int)} (hx : L[i]? = some (a, m)) (z : Int) : Spec Try.prog 13 [.pointer a, .int .i64 z] [bigS (plF owB) L] (fun (_ : Unit) => .int .u64 (gM z m)) (fun _ => True) (fun _ => [bigS (plF owB) L]) :=
  big_rd (R := owB) owB_cv hx (fun m => .int .u64 (gM z m)) (ogetn z) (fun t b hm hc => ow_close (T := (fun _ => t)) (A := (fun ao _ _ => ao)) (C := (fun _ cap _ => cap)) (fun ao cap hc => oget_ b t ao t.length cap rfl z) (fun hc _ _ => hc))
theorem r_get {L : List Pl} {i : Nat} {a : Option Addr} {m : Option (List Int)} (hx : L[i]? = some (a, m)) (z : Int) : Spec Try.prog 57 [.pointer a, .int .i64 z] [bigS (plF ckB) L] (fun (_ : Unit) => .int .u64 (gM z m)) (fun _ => True) (fun _ => [bigS (plF ckB) L]) :=
  big_rd (R := ckB) ckB_cv hx (fun m => .int .u64 (gM z m)) (rgetn z) (fun t b hm hc => rget b t z)
theorem o_len {L : List Pl} {i : Nat} {a : Option Addr} {m : Option (List Int)} (hx : L[i]? = some (a, m)) : Spec Try.prog 20 [.pointer a] [bigS (plF owB) L] (fun (_ : Unit) => .int .i64 (((lM m).length : Nat) : Int)) (fun _ => True) (fun _ => [bigS (plF owB) L]) :=
  big_rd (R := owB) owB_cv hx (fun m => .int .i64 (((lM m).length : Nat) : Int)) olenn (fun t b hm hc => ow_close (T := (fun _ => t)) (A := (fun ao _ _ => ao)) (C := (fun _ cap _ => cap)) (fun ao cap hc => Vc.len_spec b t ao t.length cap rfl ) (fun hc _ _ => hc))
theorem o_has {L : List Pl} {i : Nat} {a : Option Addr} {m : Option (List Int)} (hx : L[i]? = some (a, m)) (e : Nat) (he : e < 18446744073709551616) : Spec Try.prog 27 [.pointer a, .int .u64 ((e : Nat) : Int)] [bigS (plF owB) L] (fun (_ : Unit) => .bool (hM e m)) (fun _ => True) (fun _ => [bigS (plF owB) L]) :=
  big_rd (R := owB) owB_cv hx (fun m => .bool (hM e m)) (ohasn e) (fun t b hm hc => ow_close (T := (fun _ => t)) (A := (fun ao _ _ => ao)) (C := (fun _ cap _ => cap)) (fun ao cap hc => Vc.has_spec b t ao t.length cap rfl e he) (fun hc _ _ => hc))
theorem r_has {L : List Pl} {i : Nat} {a : Option Addr} {m : Option (List Int)} (hx : L[i]? = some (a, m)) (e : Nat) (he : e < 18446744073709551616) : Spec Try.prog 62 [.pointer a, .int .u64 ((e : Nat) : Int)] [bigS (plF ckB) L] (fun (_ : Unit) => .bool (hM e m)) (fun _ => True) (fun _ => [bigS (plF ckB) L]) :=
  big_rd (R := ckB) ckB_cv hx (fun m => .bool (hM e m)) (rhasn e) (fun t b hm hc => rhas b t e he)
theorem o_ep {L : List Pl} {i : Nat} {a : Option Addr} {m : Option (List Int)} (hx : L[i]? = some (a, m)) (z : Int) : Spec Try.prog 26 [.pointer a, .int .i64 z] [bigS (plF owB) L] (fun (_ : Unit) => .tuple #[.int .u64 (eMv z m), .int .i64 (eMe z m)]) (fun _ => True) (fun _ => [bigS (plF owB) L]) :=
  big_rd (R := owB) owB_cv hx (fun m => .tuple #[.int .u64 (eMv z m), .int .i64 (eMe z m)]) (oepn z) (fun t b hm hc => ow_close (T := (fun _ => t)) (A := (fun ao _ _ => ao)) (C := (fun _ cap _ => cap)) (fun ao cap hc => oep_ b t ao t.length cap rfl hc z) (fun hc _ _ => hc))
theorem r_ep {L : List Pl} {i : Nat} {a : Option Addr} {m : Option (List Int)} (hx : L[i]? = some (a, m)) (z : Int) : Spec Try.prog 63 [.pointer a, .int .i64 z] [bigS (plF ckB) L] (fun (_ : Unit) => .tuple #[.int .u64 (eMv z m), .int .i64 (eMe z m)]) (fun _ => True) (fun _ => [bigS (plF ckB) L]) :=
  big_rd (R := ckB) ckB_cv hx (fun m => .tuple #[.int .u64 (eMv z m), .int .i64 (eMe z m)]) (repn z) (fun t b hm hc => rep b t hc z)
theorem o_set {L : List Pl} {i : Nat} {a : Option Addr} {m : Option (List Int)} (hx : L[i]? = some (a, m)) (z v : Int) (hv : 0 ≤ v) : Spec Try.prog 24 [.pointer a, .int .i64 z, .int .u64 v] [bigS (plF owB) L] (fun (_ : Unit) => .int .i64 (sM z v m)) (fun _ => True) (fun _ => [bigS (plF owB) (L.set i (a, m.map (fun t => stA t z v)))]) :=
  big_ch (R := owB) owB_cv hx (fun m => .int .i64 (sM z v m)) (fun t => stA t z v) (osetn z v) (fun t b hm hc => (ow_close (T := (fun _ => stA t z v)) (A := (fun _ _ (x : Option Addr × Nat) => x.1)) (C := (fun _ _ (x : Option Addr × Nat) => x.2)) (fun ao cap hc => oset_ b t ao t.length cap rfl hc z v hv) (fun hc _ _ => stA_cv hc hv)).conseq (fun _ _ s => s) (fun _ _ => ⟨(), rfl, trivial, fun _ _ s => s⟩))
theorem r_set {L : List Pl} {i : Nat} {a : Option Addr} {m : Option (List Int)} (hx : L[i]? = some (a, m)) (z v : Int) (hv : 0 ≤ v) : Spec Try.prog 51 [.pointer a, .int .i64 z, .int .u64 v] [bigS (plF ckB) L] (fun (_ : Unit) => .int .i64 (sM z v m)) (fun _ => True) (fun _ => [bigS (plF ckB) (L.set i (a, m.map (fun t => stA t z v)))]) :=
  big_ch (R := ckB) ckB_cv hx (fun m => .int .i64 (sM z v m)) (fun t => stA t z v) (rsetn z v) (fun t b hm hc => rset b t z v hv)
theorem o_inc {L : List Pl} {i : Nat} {a : Option Addr} {m : Option (List Int)} (hx : L[i]? = some (a, m)) (z : Int) : Spec Try.prog 28 [.pointer a, .int .i64 z] [bigS (plF owB) L] (fun (_ : Unit) => .tuple #[.int .u64 (iMv z m), .int .i64 (iMe z m)]) (fun _ => True) (fun _ => [bigS (plF owB) (L.set i (a, m.map (fun t => inA t z)))]) :=
  big_ch (R := owB) owB_cv hx (fun m => .tuple #[.int .u64 (iMv z m), .int .i64 (iMe z m)]) (fun t => inA t z) (oincn z) (fun t b hm hc => (ow_close (T := (fun _ => inA t z)) (A := (fun _ _ (x : Option Addr × Nat) => x.1)) (C := (fun _ _ (x : Option Addr × Nat) => x.2)) (fun ao cap hc => oinc_ b t ao t.length cap rfl hc z) (fun hc _ _ => inA_cv hc z)).conseq (fun _ _ s => s) (fun _ _ => ⟨(), rfl, trivial, fun _ _ s => s⟩))
theorem r_inc {L : List Pl} {i : Nat} {a : Option Addr} {m : Option (List Int)} (hx : L[i]? = some (a, m)) (z : Int) : Spec Try.prog 52 [.pointer a, .int .i64 z] [bigS (plF ckB) L] (fun (_ : Unit) => .tuple #[.int .u64 (iMv z m), .int .i64 (iMe z m)]) (fun _ => True) (fun _ => [bigS (plF ckB) (L.set i (a, m.map (fun t => inA t z)))]) :=
  big_ch (R := ckB) ckB_cv hx (fun m => .tuple #[.int .u64 (iMv z m), .int .i64 (iMe z m)]) (fun t => inA t z) (rincn z) (fun t b hm hc => rinc b t z)
theorem o_clear {L : List Pl} {i : Nat} {a : Option Addr} {m : Option (List Int)} (hx : L[i]? = some (a, m)) : Spec Try.prog 25 [.pointer a] [bigS (plF owB) L] (fun (_ : Unit) => .tuple #[]) (fun _ => True) (fun _ => [bigS (plF owB) (L.set i (a, m.map (fun _ => [])))]) :=
  big_ch (R := owB) owB_cv hx (fun m => .tuple #[]) (fun _ => []) oclearn (fun t b hm hc => ow_close (T := (fun _ => [])) (A := (fun ao _ _ => ao)) (C := (fun _ cap _ => cap)) (fun ao cap hc => Vc.clear_spec b t ao t.length cap rfl (by have := hc.len; omega)) (fun _ _ _ => nil_cv))
theorem r_clear {L : List Pl} {i : Nat} {a : Option Addr} {m : Option (List Int)} (hx : L[i]? = some (a, m)) : Spec Try.prog 53 [.pointer a] [bigS (plF ckB) L] (fun (_ : Unit) => .tuple #[]) (fun _ => True) (fun _ => [bigS (plF ckB) (L.set i (a, m.map (fun _ => [])))]) :=
  big_ch (R := ckB) ckB_cv hx (fun m => .tuple #[]) (fun _ => []) rclearn (fun t b hm hc => rclear b t)
theorem o_leq {L : List Pl} {i : Nat} {a : Option Addr} {m : Option (List Int)} (hx : L[i]? = some (a, m)) {j : Nat} {a2 : Option Addr} {m2 : Option (List Int)} (hy : L[j]? = some (a2, m2)) : Spec Try.prog 15 [.pointer a, .pointer a2] [bigS (plF owB) L] (fun (_ : Unit) => .bool (leM m m2)) (fun _ => True) (fun _ => [bigS (plF owB) L]) :=
  big_two (R := owB) owB_cv hx hy (fun m m2 => .bool (leM m m2)) (.bool false) (fun _ => by simp [leM]) (fun _ => rfl) oleqn oleqm (fun t b hc => (by rw [show leM (some t) (some t) = true from decide_eq_true (leq_refl t)]; exact ow_close (T := (fun _ => t)) (A := (fun ao _ _ => ao)) (C := (fun _ cap _ => cap)) (fun ao cap hc => Vc.leq_self b t ao t.length cap rfl (by have := hc.len; omega)) (fun hc _ _ => hc))) (fun t u b c ht hu => ow_close2 (fun ao cap bo dap h1 h2 => Vc.leq_spec b c t u ao bo t.length cap u.length dap rfl rfl h1 h2))
theorem r_leq {L : List Pl} {i : Nat} {a : Option Addr} {m : Option (List Int)} (hx : L[i]? = some (a, m)) {j : Nat} {a2 : Option Addr} {m2 : Option (List Int)} (hy : L[j]? = some (a2, m2)) : Spec Try.prog 58 [.pointer a, .pointer a2] [bigS (plF ckB) L] (fun (_ : Unit) => .bool (leM m m2)) (fun _ => True) (fun _ => [bigS (plF ckB) L]) :=
  big_two (R := ckB) ckB_cv hx hy (fun m m2 => .bool (leM m m2)) (.bool false) (fun _ => by simp [leM]) (fun _ => rfl) rleqn rleqm (fun t b hc => (by rw [show leM (some t) (some t) = true from decide_eq_true (leq_refl t)]; exact rleqs b t)) (fun t u b c ht hu => Rv.leq_spec b c t u)
theorem o_equal {L : List Pl} {i : Nat} {a : Option Addr} {m : Option (List Int)} (hx : L[i]? = some (a, m)) {j : Nat} {a2 : Option Addr} {m2 : Option (List Int)} (hy : L[j]? = some (a2, m2)) : Spec Try.prog 12 [.pointer a, .pointer a2] [bigS (plF owB) L] (fun (_ : Unit) => .bool (eqM m m2)) (fun _ => True) (fun _ => [bigS (plF owB) L]) :=
  big_two (R := owB) owB_cv hx hy (fun m m2 => .bool (eqM m m2)) (.bool false) (fun _ => by simp [eqM]) (fun _ => rfl) oequaln oequalm (fun t b hc => (by rw [show eqM (some t) (some t) = true from decide_eq_true rfl]; exact ow_close (T := (fun _ => t)) (A := (fun ao _ _ => ao)) (C := (fun _ cap _ => cap)) (fun ao cap hc => oequals_ b t ao t.length cap rfl hc) (fun hc _ _ => hc))) (fun t u b c ht hu => ow_close2 (fun ao cap bo dap h1 h2 => Vc.equal_spec b c t u ao bo t.length cap u.length dap rfl rfl h1 h2))
theorem r_equal {L : List Pl} {i : Nat} {a : Option Addr} {m : Option (List Int)} (hx : L[i]? = some (a, m)) {j : Nat} {a2 : Option Addr} {m2 : Option (List Int)} (hy : L[j]? = some (a2, m2)) : Spec Try.prog 59 [.pointer a, .pointer a2] [bigS (plF ckB) L] (fun (_ : Unit) => .bool (eqM m m2)) (fun _ => True) (fun _ => [bigS (plF ckB) L]) :=
  big_two (R := ckB) ckB_cv hx hy (fun m m2 => .bool (eqM m m2)) (.bool false) (fun _ => by simp [eqM]) (fun _ => rfl) requaln requalm (fun t b hc => (by rw [show eqM (some t) (some t) = true from decide_eq_true rfl]; exact requals b t)) (fun t u b c ht hu => requal b c t u ht hu)
theorem o_ag {L : List Pl} {i : Nat} {a : Option Addr} {m : Option (List Int)} (hx : L[i]? = some (a, m)) {j : Nat} {a2 : Option Addr} {m2 : Option (List Int)} (hy : L[j]? = some (a2, m2)) : Spec Try.prog 16 [.pointer a, .pointer a2] [bigS (plF owB) L] (fun (_ : Unit) => .int .i64 (agM m m2)) (fun _ => True) (fun _ => [bigS (plF owB) L]) :=
  big_two (R := owB) owB_cv hx hy (fun m m2 => .int .i64 (agM m m2)) (.int .i64 0) (fun _ => by simp [agM]) (fun _ => rfl) oagn oagm (fun t b hc => (by rw [show agM (some t) (some t) = 1 from agn_self t]; exact ow_close (T := (fun _ => t)) (A := (fun ao _ _ => ao)) (C := (fun _ cap _ => cap)) (fun ao cap hc => oags_ b t ao t.length cap rfl hc) (fun hc _ _ => hc))) (fun t u b c ht hu => ow_close2 (fun ao cap bo dap h1 h2 => Vc.against_spec b c t u ao bo t.length cap u.length dap rfl rfl h1 h2))
theorem r_ag {L : List Pl} {i : Nat} {a : Option Addr} {m : Option (List Int)} (hx : L[i]? = some (a, m)) {j : Nat} {a2 : Option Addr} {m2 : Option (List Int)} (hy : L[j]? = some (a2, m2)) : Spec Try.prog 60 [.pointer a, .pointer a2] [bigS (plF ckB) L] (fun (_ : Unit) => .int .i64 (agM m m2)) (fun _ => True) (fun _ => [bigS (plF ckB) L]) :=
  big_two (R := ckB) ckB_cv hx hy (fun m m2 => .int .i64 (agM m m2)) (.int .i64 0) (fun _ => by simp [agM]) (fun _ => rfl) ragn ragm (fun t b hc => (by rw [show agM (some t) (some t) = 1 from agn_self t]; exact rags b t)) (fun t u b c ht hu => rag b c t u)
theorem o_list {L : List Pl} {i : Nat} {a : Option Addr} {m : Option (List Int)} (hx : L[i]? = some (a, m)) : Spec Try.prog 18 [.pointer a] [bigS (plF owB) L] (fun (r : Option Addr × Nat) => .slice r.1 (lM m).length r.2) (fun r => True) (fun r => [bigS (plF owB) L, own 1 encU r.1 r.2 (lM m)]) := by
  have h := big_up (Δ := []) (v := fun (r : Option Addr × Nat) => .slice r.1 (lM m).length r.2) (φ := fun _ => True) (Δ' := fun r => [own 1 encU r.1 r.2 (lM m)]) (R := owB) owB_cv hx (fun _ => m) (none, 0) (.slice none 0 0) olistn (fun h => ⟨by rw [h]; rfl, trivial, h, fun Γ hp s => by rw [h]; exact own_nil (sz := 1) (enc := encU) s⟩) (fun t h hc => ⟨fun _ => t, fun _ => h, fun b => by rw [h]; exact ow_close (T := (fun _ => t)) (A := (fun ao _ _ => ao)) (C := (fun _ cap _ => cap)) (fun ao cap hc => Vc.list_spec b t ao t.length cap rfl (by have := hc.len; omega)) (fun hc _ _ => hc)⟩)
  rw [set_same hx] at h
  exact h
theorem r_list {L : List Pl} {i : Nat} {a : Option Addr} {m : Option (List Int)} (hx : L[i]? = some (a, m)) : Spec Try.prog 36 [.pointer a] [bigS (plF ckB) L] (fun (r : Option Addr × Nat) => .slice r.1 (lM m).length r.2) (fun r => True) (fun r => [bigS (plF ckB) L, own 1 encU r.1 r.2 (lM m)]) := by
  have h := big_up (Δ := []) (v := fun (r : Option Addr × Nat) => .slice r.1 (lM m).length r.2) (φ := fun _ => True) (Δ' := fun r => [own 1 encU r.1 r.2 (lM m)]) (R := ckB) ckB_cv hx (fun _ => m) (none, 0) (.slice none 0 0) rlistn (fun h => ⟨by rw [h]; rfl, trivial, h, fun Γ hp s => by rw [h]; exact own_nil (sz := 1) (enc := encU) s⟩) (fun t h hc => ⟨fun _ => t, fun _ => h, fun b => by rw [h]; exact Rv.list_spec b t⟩)
  rw [set_same hx] at h
  exact h
theorem r_copy {L : List Pl} {i : Nat} {a : Option Addr} {m : Option (List Int)} (hx : L[i]? = some (a, m)) : Spec Try.prog 50 [.pointer a] [bigS (plF ckB) L] (fun (r : Option Addr) => .pointer r) (fun r => r = none ↔ m = none) (fun r => [bigS (plF ckB) L, plc ckB r m]) := by
  have h := big_up (Δ := []) (v := fun (r : Option Addr) => .pointer r) (φ := fun r => r = none ↔ m = none) (Δ' := fun r => [plc ckB r m]) (R := ckB) ckB_cv hx (fun _ => m) none (.pointer none) rcopyn (fun h => ⟨rfl, by simp [h], h, fun Γ hp s => by rw [h]; exact sat_free (A := plc ckB none none) rfl s⟩) (fun t h hc => ⟨fun _ => t, fun _ => h, fun b => by
    rw [h]
    exact (Rv.copy_spec b t).conseq (fun Γ hp s => s) (fun y hy => ⟨some ⟨y, 0, none⟩, rfl, by simp, fun Γ hp s => by
      obtain ⟨h1, l1, a1, h2, l2, a2, s2⟩ := s
      exact ⟨h1, l1, a1, h2, l2, ⟨y, rfl, a2⟩, s2⟩⟩)⟩)
  rw [set_same hx] at h
  exact h
theorem r_all {L : List Pl} {i : Nat} {a : Option Addr} {m : Option (List Int)} (hx : L[i]? = some (a, m)) : Spec Try.prog 72 [.pointer a] [bigS (plF ckB) L] (fun (r : Option Addr × Nat) => .slice r.1 (nzM m).length r.2) (fun r => True) (fun r => [bigS (plF ckB) L, own 1 encZ r.1 r.2 (nzM m)]) := by
  have h := big_up (Δ := []) (v := fun (r : Option Addr × Nat) => .slice r.1 (nzM m).length r.2) (φ := fun _ => True) (Δ' := fun r => [own 1 encZ r.1 r.2 (nzM m)]) (R := ckB) ckB_cv hx (fun _ => m) (none, 0) (.slice none 0 0) ralln (fun h => ⟨by rw [h]; rfl, trivial, h, fun Γ hp s => by rw [h]; exact own_nil (sz := 1) (enc := encZ) s⟩) (fun t h hc => ⟨fun _ => t, fun _ => h, fun b => by rw [h]; exact rall b t⟩)
  rw [set_same hx] at h
  exact h
theorem o_all {L : List Pl} {i : Nat} {a : Option Addr} {m : Option (List Int)} (hx : L[i]? = some (a, m)) : Spec Try.prog 22 [.pointer a] [bigS (plF owB) L] (fun (r : Nat × Option Addr × Nat) => .func (.func 65) #[] #[.pointer (some ⟨r.1, 0, none⟩)]) (fun r => True) (fun r => [bigS (plF owB) L, cells r.1 0 [.slice r.2.1 (lM m).length r.2.2], own 1 encU r.2.1 r.2.2 (lM m)]) := by
  cases m with
  | none =>
    intro Γ w s
    have ha : a = none := by
      obtain ⟨h1, l1, a1, s1⟩ := big_take (f := plF owB) hx s
      exact a1
    subst ha
    refine (oalln (bigS (plF owB) L :: Γ) w s).mono fun e w' ⟨x, q1, _, s', am⟩ => ⟨(x, none, 0), q1, trivial, ?_, am⟩
    have s1 : Sat (cells x 0 [.slice none 0 0] :: own 1 encU none 0 [] :: bigS (plF owB) L :: Γ) _ := Sat.cons_mono (fun h s => own_nil (sz := 1) (enc := encU) s) s'
    exact Sat.perm ((List.perm_middle (l₁ := [cells x 0 [.slice none 0 0], own 1 encU none 0 []]) (a := bigS (plF owB) L) (l₂ := Γ))) s1
  | some t =>
    have h := big_some (Δ := []) (v := fun (r : Nat × Option Addr × Nat) => .func (.func 65) #[] #[.pointer (some ⟨r.1, 0, none⟩)]) (φ := fun _ => True) (Δ' := fun r => [cells r.1 0 [.slice r.2.1 t.length r.2.2], own 1 encU r.2.1 r.2.2 t]) (R := owB) owB_cv hx (fun _ => t) (fun hc b => ow_close (T := (fun _ => t)) (A := (fun ao _ _ => ao)) (C := (fun _ cap _ => cap)) (fun ao cap hc => Vc.all_spec b t ao t.length cap rfl (by have := hc.len; omega)) (fun hc _ _ => hc))
    rw [set_same hx] at h
    exact h
theorem o_join (L : List Pl) (ps : List Nat) (hps : ∀ p ∈ ps, p < L.length) (oo : Option Addr) (n c : Nat) (A : HProp) (hr : RdS A oo ((ps.map (ptr L)).flatMap encA)) (hn : ps.length = n) (hb : n ≤ 4000000000) {i : Nat} {a : Option Addr} {m : Option (List Int)} (hx : L[i]? = some (a, m)) : Spec Try.prog 29 [.pointer a, .slice oo n c] [A, bigS (plF owB) L] (fun (_ : Unit) => .int .i64 (if m = none then 1 else oE L ps)) (fun _ => True) (fun _ => [A, bigS (plF owB) (L.set i (a, m.map fun t => if badP L ps then t else jnP L t ps))]) := by
  cases m with
  | none =>
    intro Γ w s
    have ha : a = none := by
      obtain ⟨h1, l1, a1, s1⟩ := big_take (f := plF owB) hx (s.swap)
      exact a1
    subst ha
    rw [if_pos rfl, Option.map_none, set_same hx]
    exact (ojoinn oo n c) (A :: bigS (plF owB) L :: Γ) w s
  | some t =>
    intro Γ w s
    obtain ⟨b, hb⟩ : ∃ b, a = some ⟨b, 0, none⟩ := by
      obtain ⟨h1, l1, ⟨b, hb, a1⟩, s1⟩ := big_take (f := plF owB) hx (s.swap)
      exact ⟨b, hb⟩
    subst hb
    rw [if_neg (by simp)]
    exact ojoin L ps hps oo n c A hr hn hb i b t hx Γ w s
theorem r_join (L : List Pl) (ps : List Nat) (hps : ∀ p ∈ ps, p < L.length) (oo : Option Addr) (n c : Nat) (A : HProp) (hr : RdS A oo ((ps.map (ptr L)).flatMap encA)) (hn : ps.length = n) (hb : n ≤ 4000000000) {i : Nat} {a : Option Addr} {m : Option (List Int)} (hx : L[i]? = some (a, m)) : Spec Try.prog 55 [.pointer a, .slice oo n c] [A, bigS (plF ckB) L] (fun (_ : Unit) => .int .i64 (if m = none then 1 else oE L ps)) (fun _ => True) (fun _ => [A, bigS (plF ckB) (L.set i (a, m.map fun t => if badP L ps then t else jnP L t ps))]) := by
  cases m with
  | none =>
    intro Γ w s
    have ha : a = none := by
      obtain ⟨h1, l1, a1, s1⟩ := big_take (f := plF ckB) hx (s.swap)
      exact a1
    subst ha
    rw [if_pos rfl, Option.map_none, set_same hx]
    exact (rjoinn L ps hps oo n c A hr hn hb) Γ w s
  | some t =>
    intro Γ w s
    obtain ⟨b, hb⟩ : ∃ b, a = some ⟨b, 0, none⟩ := by
      obtain ⟨h1, l1, ⟨b, hb, a1⟩, s1⟩ := big_take (f := plF ckB) hx (s.swap)
      exact ⟨b, hb⟩
    subst hb
    rw [if_neg (by simp)]
    exact rjoin L ps hps oo n c A hr hn hb i b t hx Γ w s
theorem o_meet (L : List Pl) (ps : List Nat) (hps : ∀ p ∈ ps, p < L.length) (oo : Option Addr) (n c : Nat) (A : HProp) (hr : RdS A oo ((ps.map (ptr L)).flatMap encA)) (hn : ps.length = n) (hb : n ≤ 4000000000) {i : Nat} {a : Option Addr} {m : Option (List Int)} (hx : L[i]? = some (a, m)) : Spec Try.prog 38 [.pointer a, .slice oo n c] [A, bigS (plF owB) L] (fun (_ : Unit) => .int .i64 (if m = none then 1 else oE L ps)) (fun _ => True) (fun _ => [A, bigS (plF owB) (L.set i (a, m.map fun t => if badP L ps then t else mtP L t ps))]) := by
  cases m with
  | none =>
    intro Γ w s
    have ha : a = none := by
      obtain ⟨h1, l1, a1, s1⟩ := big_take (f := plF owB) hx (s.swap)
      exact a1
    subst ha
    rw [if_pos rfl, Option.map_none, set_same hx]
    exact (omeetn oo n c) (A :: bigS (plF owB) L :: Γ) w s
  | some t =>
    intro Γ w s
    obtain ⟨b, hb⟩ : ∃ b, a = some ⟨b, 0, none⟩ := by
      obtain ⟨h1, l1, ⟨b, hb, a1⟩, s1⟩ := big_take (f := plF owB) hx (s.swap)
      exact ⟨b, hb⟩
    subst hb
    rw [if_neg (by simp)]
    exact omeet L ps hps oo n c A hr hn hb i b t hx Γ w s
theorem r_meet (L : List Pl) (ps : List Nat) (hps : ∀ p ∈ ps, p < L.length) (oo : Option Addr) (n c : Nat) (A : HProp) (hr : RdS A oo ((ps.map (ptr L)).flatMap encA)) (hn : ps.length = n) (hb : n ≤ 4000000000) {i : Nat} {a : Option Addr} {m : Option (List Int)} (hx : L[i]? = some (a, m)) : Spec Try.prog 56 [.pointer a, .slice oo n c] [A, bigS (plF ckB) L] (fun (_ : Unit) => .int .i64 (if m = none then 1 else oE L ps)) (fun _ => True) (fun _ => [A, bigS (plF ckB) (L.set i (a, m.map fun t => if badP L ps then t else mtP L t ps))]) := by
  cases m with
  | none =>
    intro Γ w s
    have ha : a = none := by
      obtain ⟨h1, l1, a1, s1⟩ := big_take (f := plF ckB) hx (s.swap)
      exact a1
    subst ha
    rw [if_pos rfl, Option.map_none, set_same hx]
    exact (rmeetn L ps hps oo n c A hr hn hb) Γ w s
  | some t =>
    intro Γ w s
    obtain ⟨b, hb⟩ : ∃ b, a = some ⟨b, 0, none⟩ := by
      obtain ⟨h1, l1, ⟨b, hb, a1⟩, s1⟩ := big_take (f := plF ckB) hx (s.swap)
      exact ⟨b, hb⟩
    subst hb
    rw [if_neg (by simp)]
    exact rmeet L ps hps oo n c A hr hn hb i b t hx Γ w s
end Go.Ab.Vp
