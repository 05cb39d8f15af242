/- A detector by full vectors: an event. -/
import Derived.Test.YtkoclbjiaofkhaaDj7
set_option linter.unusedVariables false
set_option linter.unusedSimpArgs false
set_option maxRecDepth 100000
namespace Go.Ab.Dj
open Go Go.Proofs Go.Ab Go.Ab.Fe Go.Ab.Vc
/-- What is kept of a variable behind an access (n events stand ahead of it). -/
def raceF (k : Int) (l : List Int) (w : V4) : Prop := (k = 2 ∧ ¬ LeqL w.1 l) ∨ ¬ LeqL w.2.1 l
instance (k : Int) (l : List Int) (w : V4) : Decidable (raceF k l w) := by unfold raceF; infer_instance
def acW (n k t : Int) (l : List Int) (w : V4) : V4 :=
  (if k = 2 then w.1 else stL w.1 t.toNat (l.getD t.toNat 0), if k = 2 then stL w.2.1 t.toNat (l.getD t.toNat 0) else w.2.1, if raceF k l w ∧ w.2.2.2 = false then n else w.2.2.1, w.2.2.2 || decide (raceF k l w))
def acF (x : DS) (k t o : Int) : List V4 := if k = 1 ∨ k = 2 then x.vs.set o.toNat (acW x.v.ck.n k t (thF x.v t) (x.vs.getD o.toNat v0)) else x.vs
def deF (x : DS) (k t o : Int) : DS := if vcanF x.v k t o then ⟨vnF x.v k t o, acF x k t o, if k = 1 ∨ k = 2 then x.cost + k else x.cost⟩ else x
def deE (x : DS) (k t o : Int) : Int := if vcanF x.v k t o then 0 else 6
theorem de_acc {x : DS} {k t o : Int} {l : List Int} {w : V4} (hv : vcanF x.v k t o) (hk : k = 1 ∨ k = 2) (hw : x.vs[o.toNat]? = some w) (hl : x.v.th t = some l) : deF x k t o = ⟨vnF x.v k t o, x.vs.set o.toNat (acW x.v.ck.n k t l w), x.cost + k⟩ := by
  rw [deF, if_pos hv, acF, if_pos hk, if_pos hk, thF_eq hl, getD_some hw]
theorem de_no {x : DS} {k t o : Int} (hv : vcanF x.v k t o) (k1 : ¬ k = 1) (k2 : ¬ k = 2) : deF x k t o = ⟨vnF x.v k t o, x.vs, x.cost⟩ := by
  rw [deF, if_pos hv, acF, if_neg (by omega), if_neg (by omega)]
theorem acc_obj {x : CS} {k t o : Int} (hc : canF x k t o) (hk : k = 1 ∨ k = 2) : 0 ≤ o ∧ o < x.va := by
  rcases hc with ⟨h1, h2, -⟩ | ⟨h1, h0, h2⟩
  · omega
  · unfold okK at h2
    rcases h2 with h | h | h | h | h | h | h | h <;> omega
theorem ac_cv {n k t : Int} {l : List Int} {w : V4} (hl : CV l) (hw : CV w.1 ∧ CV w.2.1) (ht : 0 ≤ t ∧ t < 65535) : CV (acW n k t l w).1 ∧ CV (acW n k t l w).2.1 := by
  have h := g_rng hl.rng (by decide) t.toNat
  unfold acW
  constructor
  · show CV (if k = 2 then w.1 else _)
    split
    · exact hw.1
    · exact stL_cv hw.1 (by omega) h.1 h.2
  · show CV (if k = 2 then _ else w.2.1)
    split
    · exact stL_cv hw.2 (by omega) h.1 h.2
    · exact hw.2
theorem nxF_can {x : CS} {k t o : Int} (h : canF x k t o) : (nxF x k t o).n = x.n + 1 ∧ (nxF x k t o).va = x.va ∧ (nxF x k t o).th = x.th := by
  obtain ⟨n5, n6, n7, n9, n10, n11, nn⟩ := nxF_k h
  by_cases k5 : k = 5
  · rw [n5 k5]; exact ⟨rfl, rfl, rfl⟩
  by_cases k6 : k = 6
  · rw [n6 k6]; exact ⟨rfl, rfl, rfl⟩
  by_cases k7 : k = 7
  · rw [n7 k7]; exact ⟨rfl, rfl, rfl⟩
  by_cases k9 : k = 9
  · rw [n9 k9]; exact ⟨rfl, rfl, rfl⟩
  by_cases k10 : k = 10
  · rw [n10 k10]; exact ⟨rfl, rfl, rfl⟩
  by_cases k11 : k = 11
  · rw [n11 k11]; exact ⟨rfl, rfl, rfl⟩
  rw [nn k5 k6 k7 k9 k10 k11]; exact ⟨rfl, rfl, rfl⟩
theorem de_inv {x : DS} (hx : DInv x) (k t o : Int) : DInv (deF x k t o) := by
  by_cases hv : vcanF x.v k t o
  · obtain ⟨l, hth⟩ := th_some hx.v (can_th hv.1)
    have ht := th_rng hx.v (can_th hv.1)
    obtain ⟨h1, h2, h3⟩ := nxF_can hv.1
    have hc := hx.c0
    by_cases hk : k = 1 ∨ k = 2
    · obtain ⟨p0, p1⟩ := acc_obj hv.1 hk
      have hl := hx.len
      obtain ⟨w, hw⟩ := get_lt (l := x.vs) (i := o.toNat) (by omega)
      rw [de_acc hv hk hw hth]
      refine ⟨next_vinv hx.v hv, by rw [List.length_set, vn_ck, h2]; exact hl, fun w2 h => ?_, by show 0 ≤ x.cost + k ∧ x.cost + k ≤ 2 * (vnF x.v k t o).ck.n; rw [vn_ck, h1]; omega⟩
      rcases List.mem_or_eq_of_mem_set h with h | rfl
      · exact hx.vs _ h
      · exact ac_cv (hx.v.thc _ _ hth) (hx.vs _ (List.mem_of_getElem? hw)) ht
    · rw [de_no hv (by omega) (by omega)]
      exact ⟨next_vinv hx.v hv, by rw [vn_ck, h2]; exact hx.len, hx.vs, by show 0 ≤ x.cost ∧ x.cost ≤ 2 * (vnF x.v k t o).ck.n; rw [vn_ck, h1]; omega⟩
  · rw [deF, if_neg hv]; exact hx
theorem de_n {x : DS} (k t o : Int) : (deF x k t o).v.ck.n ≤ x.v.ck.n + 1 ∧ (deF x k t o).v.ck.pa = x.v.ck.pa ∧ (deF x k t o).v.ck.th = x.v.ck.th ∧ (deF x k t o).v.ck.va = x.v.ck.va := by
  by_cases hv : vcanF x.v k t o
  · obtain ⟨h1, h2, h3⟩ := nxF_can hv.1
    rw [deF, if_pos hv]
    show (vnF x.v k t o).ck.n ≤ _ ∧ (vnF x.v k t o).ck.pa = _ ∧ (vnF x.v k t o).ck.th = _ ∧ (vnF x.v k t o).ck.va = _
    rw [vn_ck, h1, h2, h3, nx_pa]
    exact ⟨Int.le_refl _, rfl, rfl, rfl⟩
  · rw [deF, if_neg hv]; exact ⟨by omega, rfl, rfl, rfl⟩
theorem event_spec (pa : Option Addr) (pc : Nat) (po : Option Addr) (poc b : Nat) (x : DS) (hx : DInv x) (hn : x.v.ck.n ≤ 1000000000000000) (pl : List Int) (hpl : x.v.ck.pa = pl) (k t o : Int) : Spec Try.prog 20 [.pointer (some ⟨b, 0, none⟩), .agg #[.int .i64 k, .int .i64 t, .int .i64 o]] [dR pa pc po poc b x, own 1 encZ pa pc pl, own 1 encZ po poc pl] (fun (_ : Unit) => .int .i64 (deE x k t o)) (fun _ => True) (fun _ => [dR pa pc po poc b (deF x k t o), own 1 encZ pa pc pl, own 1 encZ po poc pl]) := by
 refine spec_mk (n := 128) Try.func20 rfl rfl rfl ?_
 intro Γ w0
 simp only [argE, List.cons_append, List.nil_append, Nat.zero_add, Nat.reduceAdd]
 refine c_seq ?_
 refine c_plain ((.l 0 [] (.q 1 (.done)))) (by kernel_rfl) ?_
 refine l_box rfl rfl rfl rfl (us := [_, _, _]) rfl ?_
 intro b3
 refine ag_nil ?_
 refine q_assign rfl rfl rfl rfl ?_
 refine r_done ?_
 refine k_then_n ?_
 refine c_seq ?_
 refine c_seq ?_
 have hcc := hx.c0
 have hlen := hx.len
 refine s_take (A := dR pa pc po poc b x) (by with_reducible (repeat (first | exact Z0 | apply Z1))) ?_
 refine d_open fun vb va vc V hV => ?_
 refine c_plain (.q 0 ((.l 1 [] (.q 2 (.done))))) (by kernel_rfl) ?_
 refine q_move rfl rfl rfl rfl ?_
 have sp_1 := there_spec b vb (.slice va x.vs.length vc) (.int .i64 x.cost)
 refine l_call rfl rfl rfl rfl rfl rfl Try.call38 (sp_1) (by (repeat ((with_reducible apply Z2); focus (first | (with_reducible (repeat (first | exact Z0 | apply Z1)); done) | (repeat (first | exact Z0 | apply Z1))))); exact Z3) ?_
 rintro ⟨⟩ -
 try simp only [List.cons_append, List.nil_append]
 refine ag_nil ?_
 refine q_not rfl rfl rfl rfl ?_
 refine s_eq 11 rfl (v' := .bool false) rfl ?_
 refine r_done ?_
 refine s_keep [0, 3, 11] (e' := [(0, _), (3, _), (11, _)]) rfl ?_
 refine k_then_n ?_
 refine c_cond_f rfl ?_
 refine c_skip ?_
 refine k_then_n ?_
 refine c_seq ?_
 refine c_seq ?_
 refine c_draw rfl (.q 0 (.q 1 (.q 2 (.q 3 (.q 4 ((.l 5 [] (.q 6 (.done))))))))) (by kernel_rfl) ?_
 refine q_move rfl rfl rfl rfl ?_
 refine q_nil_p rfl rfl rfl rfl ?_
 refine q_field (k := 0) rfl rfl rfl rfl Try.underlying91 rfl Try.sizeOf88 rfl ?_
 refine q_load_c (j := 0) rfl rfl rfl rfl Try.isAgg88 (by with_reducible (repeat (first | exact Z0 | apply Z1))) (by first | rfl | exact (Nat.add_zero _).symm) (by rfl) ?_
 refine q_loadN_c rfl rfl rfl rfl Try.isAgg40 Try.sizeOf40 (by with_reducible (repeat (first | exact Z0 | apply Z1))) 0 (us := [_, _, _]) (by first | rfl | exact (Nat.add_zero _).symm) rfl rfl ?_
 have sp_2 := can_spec pa pc po poc vb x.v hx.v k t o
 refine l_call rfl rfl rfl rfl rfl rfl Try.call44 (sp_2) (by (repeat ((with_reducible apply Z2); focus (first | (with_reducible (repeat (first | exact Z0 | apply Z1)); done) | (repeat (first | exact Z0 | apply Z1))))); exact Z3) ?_
 rintro ⟨⟩ -
 try simp only [List.cons_append, List.nil_append]
 refine ag_nil ?_
 refine q_not rfl rfl rfl rfl ?_
 refine r_done ?_
 refine s_keep [0, 3, 18] (e' := [(0, _), (3, _), (18, _)]) rfl ?_
 refine k_then_n ?_
 refine c_cond_np rfl (fun hvn => ?_) (fun hvn => ?_)
 ·
  refine c_seq ?_
  refine c_plain (.q 0 (.done)) (by kernel_rfl) ?_
  refine q_assign rfl rfl rfl rfl ?_
  refine r_done ?_
  refine k_then_n ?_
  refine c_ret ?_
  refine k_then_ret ?_
  refine d_fold (b := b) x (pa := pa) (pc := pc) (po := po) (poc := poc) (vb := vb) (va := va) (vc := vc) (V := V) (by (repeat ((with_reducible apply Z2); focus (first | (with_reducible (repeat (first | exact Z0 | apply Z1)); done) | (repeat (first | exact Z0 | apply Z1))))); exact Z3) (by rfl) (by rfl) (by first | exact hV | simp) ?_
  rw [show deF x k t o = x from if_neg hvn]
  refine ret1 rfl rfl (()) (by rw [show deE x k t o = 6 from if_neg hvn]) (by trivial) ?_
  (repeat ((with_reducible apply Z2); focus (first | (with_reducible (repeat (first | exact Z0 | apply Z1)); done) | (repeat (first | exact Z0 | apply Z1))))); (repeat (first | exact Z3 | exact Takes.self | refine takes_drop2 ?_))
 ·
  have hvc := hvn
  obtain ⟨l, hth⟩ := th_some hx.v (can_th hvc.1)
  obtain ⟨h0, h1⟩ := th_rng hx.v (can_th hvc.1)
  have hlc := hx.v.thc _ _ hth
  refine c_skip ?_
  refine k_then_n ?_
  refine c_seq ?_
  refine c_plain (.q 0 (.done)) (by kernel_rfl) ?_
  refine q_assign rfl rfl rfl rfl ?_
  refine r_done ?_
  refine k_then_n ?_
  refine c_seq ?_
  refine s_take (A := vsR pa pc po poc vb x.v) (by with_reducible (repeat (first | exact Z0 | apply Z1))) ?_
  refine vs_open fun cb m1 m2 m3 m4 F1 F2 F3 F4 => ?_
  refine s_rest_take (F := F1) (T := x.v.th) (S := []) t (by with_reducible (repeat (first | exact Z0 | apply Z1))) (by simp) hth fun tv htF => ?_
  refine s_vec (by with_reducible (repeat (first | exact Z0 | apply Z1))) fun tb ta tc hta => ?_
  subst hta
  refine c_draw rfl (.q 0 (.q 1 (.q 2 (.q 3 (.q 4 (.q 5 (.q 6 (.q 7 (.q 8 (.q 9 (.q 10 (.done)))))))))))) (by kernel_rfl) ?_
  refine q_move rfl rfl rfl rfl ?_
  refine q_nil_p rfl rfl rfl rfl ?_
  refine q_field (k := 0) rfl rfl rfl rfl Try.underlying91 rfl Try.sizeOf88 rfl ?_
  refine q_load_c (j := 0) rfl rfl rfl rfl Try.isAgg88 (by with_reducible (repeat (first | exact Z0 | apply Z1))) (by first | rfl | exact (Nat.add_zero _).symm) (by rfl) ?_
  refine q_nil_p rfl rfl rfl rfl ?_
  refine q_field (k := 2) rfl rfl rfl rfl Try.underlying87 rfl Try.sizeOf84 rfl ?_
  refine q_load_c (j := 2) rfl rfl rfl rfl Try.isAgg84 (by with_reducible (repeat (first | exact Z0 | apply Z1))) (by first | rfl | exact (Nat.add_zero _).symm) (by rfl) ?_
  refine q_field (k := 1) rfl rfl rfl rfl Try.underlying40 rfl Try.sizeOf3 rfl ?_
  refine q_load_c (j := 1) rfl rfl rfl rfl Try.isAgg3 (by with_reducible (repeat (first | exact Z0 | apply Z1))) (by first | rfl | exact (Nat.add_zero _).symm) (by rfl) ?_
  refine q_lookup1 (ek := ekZ) (ev1 := evA) (F := F1) (m := m1) (k := t) none rfl rfl rfl rfl rfl Try.underlying84 (keyOK_int Try.underlying3) Try.zeroValue82 (by with_reducible (repeat (first | exact Z0 | apply Z1))) ?_
  refine s_eq 28 rfl (v' := .pointer (some ⟨tb, 0, none⟩)) (by rw [htF]; rfl) ?_
  refine q_assign rfl rfl rfl rfl ?_
  refine r_done ?_
  refine s_keep [0, 3, 5, 6] (e' := [(0, _), (3, _), (5, _), (6, _)]) rfl ?_
  refine k_then_n ?_
  refine c_seq ?_
  refine c_seq ?_
  refine c_plain (.q 0 (.q 1 (.done))) (by kernel_rfl) ?_
  refine q_field (k := 0) rfl rfl rfl rfl Try.underlying40 rfl Try.sizeOf38 rfl ?_
  refine q_load_c (j := 0) rfl rfl rfl rfl Try.isAgg38 (by with_reducible (repeat (first | exact Z0 | apply Z1))) (by first | rfl | exact (Nat.add_zero _).symm) (by rfl) ?_
  refine r_done ?_
  refine k_then_n ?_
  refine c_block ?_
  refine c_seq ?_
  refine c_block ?_
  refine c_seq ?_
  refine c_block ?_
  refine c_seq ?_
  refine c_seq ?_
  refine c_seq ?_
  refine c_plain (.q 0 (.q 1 (.done))) (by kernel_rfl) ?_
  refine q_int rfl rfl rfl rfl rfl (b_eql _ _ _ _) ?_
  refine q_assign rfl rfl rfl rfl ?_
  refine r_done ?_
  refine k_then_n ?_
  refine c_cond_p rfl (fun k2 => ?_) (fun k2 => ?_)
  ·
   refine c_exit ?_
   refine k_then_exit ?_
   refine k_then_exit ?_
   refine k_blk_here ?_
   refine k_then_n ?_
   refine c_seq ?_
   refine c_plain (.q 0 (.q 1 (.q 2 (.q 3 (.q 4 (.q 5 (.q 6 ((.l 7 [] (.done)))))))))) (by kernel_rfl) ?_
   refine q_move rfl rfl rfl rfl ?_
   refine q_nil_p rfl rfl rfl rfl ?_
   refine q_field (k := 2) rfl rfl rfl rfl Try.underlying91 rfl Try.sizeOf3 rfl ?_
   refine q_load_c (j := 2) rfl rfl rfl rfl Try.isAgg3 (by with_reducible (repeat (first | exact Z0 | apply Z1))) (by first | rfl | exact (Nat.add_zero _).symm) (by rfl) ?_
   refine q_int rfl rfl rfl rfl rfl (b_add' _ (by exact fits_i64 (by omega) (by omega))) ?_
   refine q_nil_p rfl rfl rfl rfl ?_
   refine q_field (k := 2) rfl rfl rfl rfl Try.underlying91 rfl Try.sizeOf3 rfl ?_
   refine l_store (j := 2) rfl rfl rfl rfl Try.sizeOf3 (us := [_]) rfl rfl rfl (by with_reducible (repeat (first | exact Z0 | apply Z1))) (by first | rfl | exact (Nat.add_zero _).symm) (by first | decide | (simp; done) | omega) ?_
   simp only [setL, List.set]
   refine ag_nil ?_
   refine r_done ?_
   refine s_keep [0, 3, 6] (e' := [(0, _), (3, _), (6, _)]) rfl ?_
   refine k_then_n ?_
   obtain ⟨p0, p1⟩ := acc_obj hvc.1 (by omega)
   obtain ⟨w, hw⟩ := get_lt (l := x.vs) (i := o.toNat) (by omega)
   obtain ⟨hwr, hww⟩ := hx.vs w (List.mem_of_getElem? hw)
   refine s_restL_take (res := varA) (V := V) (Y := x.vs) (S := []) o.toNat (by with_reducible (repeat (first | exact Z0 | apply Z1))) (by simp) hw fun v_ hv => ?_
   obtain ⟨va_, vb_, fl, fg⟩ := v_
   refine s_var (by with_reducible (repeat (first | exact Z0 | apply Z1))) fun hf => ?_
   refine s_vec (by with_reducible (repeat (first | exact Z0 | apply Z1))) fun rb ra rc hra_ => ?_
   simp only at hra_
   subst hra_
   refine s_vec (by first | (with_reducible (repeat (first | exact Z0 | apply Z1)); done) | (repeat (first | exact Z0 | apply Z1))) fun wb wa wc hwa_ => ?_
   simp only at hwa_
   subst hwa_
   simp only at hf
   have e1 : w.2.2.1 = fl := by rw [← hf]
   have e2 : w.2.2.2 = fg := by rw [← hf]
   have hgr := g_rng hlc.rng (by decide) t.toNat
   refine c_draw rfl (.q 0 (.q 1 (.q 2 (.q 3 (.q 4 (.q 5 (.q 6 (.q 7 (.q 8 (.q 9 ((.l 10 [] (.q 11 (.q 12 (.done))))))))))))))) (by kernel_rfl) ?_
   refine q_move rfl rfl rfl rfl ?_
   refine q_nil_p rfl rfl rfl rfl ?_
   refine q_field (k := 1) rfl rfl rfl rfl Try.underlying91 rfl Try.sizeOf89 rfl ?_
   refine q_load_c (j := 1) rfl rfl rfl rfl Try.isAgg89 (by with_reducible (repeat (first | exact Z0 | apply Z1))) (by first | rfl | exact (Nat.add_zero _).symm) (by rfl) ?_
   refine q_field (k := 2) rfl rfl rfl rfl Try.underlying40 rfl Try.sizeOf3 rfl ?_
   refine q_load_c (j := 2) rfl rfl rfl rfl Try.isAgg3 (by with_reducible (repeat (first | exact Z0 | apply Z1))) (by first | rfl | exact (Nat.add_zero _).symm) (by rfl) ?_
   refine q_idxO (sz := 3) (k := o.toNat) (enc := encV) (xs := V) rfl rfl rfl rfl rfl Try.underlying89 Try.sizeOf99 hv (by first | rfl | omega) (by omega) (by with_reducible (repeat (first | exact Z0 | apply Z1))) ?_
   intro ib48 io48 ha48 hl48 hc48
   refine q_field (k := 0) rfl rfl rfl rfl Try.underlying99 rfl Try.sizeOf82 rfl ?_
   refine q_load_O (v := (.pointer (some ⟨rb, 0, none⟩))) (j := 0) (k' := o.toNat) (enc := encV) (off := io48) rfl rfl rfl rfl Try.isAgg82 ha48 encV_len hv (by with_reducible (repeat (first | exact Z0 | apply Z1))) (by first | rfl | exact (Nat.add_zero _).symm | omega) (by rfl) ?_
   refine q_move rfl rfl rfl rfl ?_
   have sp_3 := Vc.leq_spec rb tb w.1 l ra ta w.1.length rc l.length tc (by rfl) (by rfl) hwr hlc
   refine l_call rfl rfl rfl rfl rfl rfl Try.call45 (sp_3) (by (repeat ((with_reducible apply Z2); focus (first | (with_reducible (repeat (first | exact Z0 | apply Z1)); done) | (repeat (first | exact Z0 | apply Z1))))); exact Z3) ?_
   rintro ⟨⟩ -
   try simp only [List.cons_append, List.nil_append]
   refine ag_nil ?_
   refine q_not rfl rfl rfl rfl ?_
   refine q_assign rfl rfl rfl rfl ?_
   refine r_done ?_
   refine s_keep [0, 3, 5, 6] (e' := [(0, _), (3, _), (5, _), (6, _)]) rfl ?_
   refine k_blk_n ?_
   refine k_then_n ?_
   refine c_seq ?_
   refine c_seq ?_
   refine c_plain (.q 0 (.q 1 (.q 2 (.q 3 (.q 4 (.q 5 (.q 6 ((.l 7 [] (.done)))))))))) (by kernel_rfl) ?_
   refine q_move rfl rfl rfl rfl ?_
   refine q_nil_p rfl rfl rfl rfl ?_
   refine q_field (k := 2) rfl rfl rfl rfl Try.underlying91 rfl Try.sizeOf3 rfl ?_
   refine q_load_c (j := 2) rfl rfl rfl rfl Try.isAgg3 (by with_reducible (repeat (first | exact Z0 | apply Z1))) (by first | rfl | exact (Nat.add_zero _).symm) (by rfl) ?_
   refine q_int rfl rfl rfl rfl rfl (b_add' _ (by exact fits_i64 (by omega) (by omega))) ?_
   refine q_nil_p rfl rfl rfl rfl ?_
   refine q_field (k := 2) rfl rfl rfl rfl Try.underlying91 rfl Try.sizeOf3 rfl ?_
   refine l_store (j := 2) rfl rfl rfl rfl Try.sizeOf3 (us := [_]) rfl rfl rfl (by with_reducible (repeat (first | exact Z0 | apply Z1))) (by first | rfl | exact (Nat.add_zero _).symm) (by first | decide | (simp; done) | omega) ?_
   simp only [setL, List.set]
   refine ag_nil ?_
   refine r_done ?_
   refine s_keep [0, 3, 5, 6] (e' := [(0, _), (3, _), (5, _), (6, _)]) rfl ?_
   refine k_then_n ?_
   refine c_seq ?_
   refine c_draw rfl (.q 0 (.q 1 (.q 2 (.q 3 (.q 4 (.q 5 (.q 6 (.q 7 (.done))))))))) (by kernel_rfl) ?_
   refine q_move rfl rfl rfl rfl ?_
   refine q_nil_p rfl rfl rfl rfl ?_
   refine q_field (k := 1) rfl rfl rfl rfl Try.underlying91 rfl Try.sizeOf89 rfl ?_
   refine q_load_c (j := 1) rfl rfl rfl rfl Try.isAgg89 (by with_reducible (repeat (first | exact Z0 | apply Z1))) (by first | rfl | exact (Nat.add_zero _).symm) (by rfl) ?_
   refine q_field (k := 2) rfl rfl rfl rfl Try.underlying40 rfl Try.sizeOf3 rfl ?_
   refine q_load_c (j := 2) rfl rfl rfl rfl Try.isAgg3 (by with_reducible (repeat (first | exact Z0 | apply Z1))) (by first | rfl | exact (Nat.add_zero _).symm) (by rfl) ?_
   refine q_idxO (sz := 3) (k := o.toNat) (enc := encV) (xs := V) rfl rfl rfl rfl rfl Try.underlying89 Try.sizeOf99 hv (by first | rfl | omega) (by omega) (by with_reducible (repeat (first | exact Z0 | apply Z1))) ?_
   intro ib67 io67 ha67 hl67 hc67
   refine q_assign rfl rfl rfl rfl ?_
   refine r_done ?_
   refine s_keep [0, 3, 5, 6, 7] (e' := [(0, _), (3, _), (5, _), (6, _), (7, _)]) rfl ?_
   refine k_then_n ?_
   refine c_seq ?_
   refine c_plain (.q 0 (.q 1 (.q 2 (.q 3 (.q 4 (.q 5 (.q 6 ((.l 7 [] (.q 8 (.q 9 (.q 10 (.done))))))))))))) (by kernel_rfl) ?_
   refine q_move rfl rfl rfl rfl ?_
   refine q_move rfl rfl rfl rfl ?_
   refine s_bool_np 69 rfl (fun hr1 => ?_) (fun hr1 => ?_)
   ·
    refine q_skip rfl rfl rfl rfl ?_
    refine q_skip rfl rfl rfl rfl ?_
    refine q_skip rfl rfl rfl rfl ?_
    refine q_skip rfl rfl rfl rfl ?_
    refine q_skip rfl rfl rfl rfl ?_
    refine l_skip rfl rfl rfl rfl ?_
    refine q_skip rfl rfl rfl rfl ?_
    refine q_pick_t rfl rfl rfl rfl rfl ?_
    refine q_assign rfl rfl rfl rfl ?_
    refine r_done ?_
    refine s_keep [0, 3, 5, 7] (e' := [(0, _), (3, _), (5, _), (7, _)]) rfl ?_
    refine k_then_n ?_
    refine c_seq ?_
    refine c_seq ?_
    refine c_plain (.q 0 (.q 1 (.q 2 (.q 3 (.q 4 (.q 5 (.q 6 (.q 7 (.done))))))))) (by kernel_rfl) ?_
    refine q_move rfl rfl rfl rfl ?_
    refine q_move rfl rfl rfl rfl ?_
    refine q_move rfl rfl rfl rfl ?_
    refine q_nil_p rfl rfl rfl rfl ?_
    refine q_field (k := 3) rfl rfl rfl rfl Try.underlying99 rfl Try.sizeOf4 rfl ?_
    refine q_load_O (v := (.bool fg)) (j := 3) (k' := o.toNat) (enc := encV) (off := io67) rfl rfl rfl rfl Try.isAgg4 ha67 encV_len hv (by with_reducible (repeat (first | exact Z0 | apply Z1))) (by first | rfl | exact (Nat.add_zero _).symm | omega) (by rfl) ?_
    refine q_not rfl rfl rfl rfl ?_
    refine q_pick_t rfl rfl rfl rfl rfl ?_
    refine r_done ?_
    refine s_keep [0, 3, 7, 85] (e' := [(0, _), (3, _), (7, _), (85, _)]) rfl ?_
    refine k_then_n ?_
    refine c_cond rfl (fun hfg => ?_) (fun hfg => ?_)
    ·
     try simp only [Bool.and_eq_true, Bool.or_eq_true, Bool.not_eq_true', Bool.not_eq_false', Bool.and_eq_false_iff, Bool.or_eq_false_iff, decide_eq_true_eq, decide_eq_false_iff_not] at hfg
     refine c_plain (.q 0 (.q 1 (.q 2 (.q 3 (.q 4 (.q 5 (.q 6 (.q 7 (.q 8 ((.l 9 [] (.q 10 (.q 11 ((.l 12 [] (.q 13 (.q 14 ((.l 15 [] (.done)))))))))))))))))))) (by kernel_rfl) ?_
     refine q_move rfl rfl rfl rfl ?_
     refine q_move rfl rfl rfl rfl ?_
     refine q_move rfl rfl rfl rfl ?_
     refine q_nil_p rfl rfl rfl rfl ?_
     refine q_field (k := 0) rfl rfl rfl rfl Try.underlying91 rfl Try.sizeOf88 rfl ?_
     refine q_load_c (j := 0) rfl rfl rfl rfl Try.isAgg88 (by with_reducible (repeat (first | exact Z0 | apply Z1))) (by first | rfl | exact (Nat.add_zero _).symm) (by rfl) ?_
     refine q_nil_p rfl rfl rfl rfl ?_
     refine q_field (k := 0) rfl rfl rfl rfl Try.underlying87 rfl Try.sizeOf83 rfl ?_
     refine q_load_c (j := 0) rfl rfl rfl rfl Try.isAgg83 (by with_reducible (repeat (first | exact Z0 | apply Z1))) (by first | rfl | exact (Nat.add_zero _).symm) (by rfl) ?_
     have sp_4 := Fe.len_spec pa pc cb x.v.ck
     refine l_call rfl rfl rfl rfl rfl rfl Try.call46 (sp_4) (by (repeat ((with_reducible apply Z2); focus (first | (with_reducible (repeat (first | exact Z0 | apply Z1)); done) | (repeat (first | exact Z0 | apply Z1))))); exact Z3) ?_
     rintro ⟨⟩ -
     try simp only [List.cons_append, List.nil_append]
     refine ag_nil ?_
     refine q_nil_p rfl rfl rfl rfl ?_
     refine q_field (k := 2) rfl rfl rfl rfl Try.underlying99 rfl Try.sizeOf3 rfl ?_
     refine l_store_O (j := 2) (k := o.toNat) (q := (some ⟨rb, 0, none⟩, some ⟨wb, 0, none⟩, x.v.ck.n, fg)) (enc := encV) (off := io67) rfl rfl rfl rfl Try.sizeOf3 (us := [_]) rfl rfl rfl ha67 encV_len hv (by with_reducible (repeat (first | exact Z0 | apply Z1))) (by first | rfl | exact (Nat.add_zero _).symm | omega) (by first | decide | exact Nat.le_of_ble_eq_true rfl) (by rfl) ?_
     refine ag_nil ?_
     have hq1 : (V.set o.toNat (some ⟨rb, 0, none⟩, some ⟨wb, 0, none⟩, x.v.ck.n, fg))[o.toNat]? = some (some ⟨rb, 0, none⟩, some ⟨wb, 0, none⟩, x.v.ck.n, fg) := List.getElem?_set_self (by omega)
     refine q_nil_p rfl rfl rfl rfl ?_
     refine q_field (k := 3) rfl rfl rfl rfl Try.underlying99 rfl Try.sizeOf4 rfl ?_
     refine l_store_O (j := 3) (k := o.toNat) (q := (some ⟨rb, 0, none⟩, some ⟨wb, 0, none⟩, x.v.ck.n, true)) (enc := encV) (off := io67) rfl rfl rfl rfl Try.sizeOf4 (us := [_]) rfl rfl rfl ha67 encV_len hq1 (by with_reducible (repeat (first | exact Z0 | apply Z1))) (by first | rfl | exact (Nat.add_zero _).symm | omega) (by first | decide | exact Nat.le_of_ble_eq_true rfl) (by rfl) ?_
     refine ag_nil ?_
     have hq2 : ((V.set o.toNat (some ⟨rb, 0, none⟩, some ⟨wb, 0, none⟩, x.v.ck.n, fg)).set o.toNat (some ⟨rb, 0, none⟩, some ⟨wb, 0, none⟩, x.v.ck.n, true))[o.toNat]? = some (some ⟨rb, 0, none⟩, some ⟨wb, 0, none⟩, x.v.ck.n, true) := List.getElem?_set_self (by simp; omega)
     refine r_done ?_
     refine s_keep [0, 3, 7] (e' := [(0, _), (3, _), (7, _)]) rfl ?_
     refine k_then_n ?_
     refine c_seq ?_
     refine c_plain (.q 0 (.q 1 (.q 2 (.q 3 (.q 4 (.done)))))) (by kernel_rfl) ?_
     refine q_move rfl rfl rfl rfl ?_
     refine q_nil_p rfl rfl rfl rfl ?_
     refine q_field (k := 0) rfl rfl rfl rfl Try.underlying99 rfl Try.sizeOf82 rfl ?_
     refine q_load_O (v := (.pointer (some ⟨rb, 0, none⟩))) (j := 0) (k' := o.toNat) (enc := encV) (off := io67) rfl rfl rfl rfl Try.isAgg82 ha67 encV_len hq2 (by with_reducible (repeat (first | exact Z0 | apply Z1))) (by first | rfl | exact (Nat.add_zero _).symm | omega) (by rfl) ?_
     refine q_assign rfl rfl rfl rfl ?_
     refine r_done ?_
     refine s_keep [0, 3, 7, 8] (e' := [(0, _), (3, _), (7, _), (8, _)]) rfl ?_
     refine k_then_n ?_
     refine c_seq ?_
     refine c_seq ?_
     refine c_plain (.q 0 (.q 1 (.q 2 (.done)))) (by kernel_rfl) ?_
     refine q_field (k := 0) rfl rfl rfl rfl Try.underlying40 rfl Try.sizeOf38 rfl ?_
     refine q_load_c (j := 0) rfl rfl rfl rfl Try.isAgg38 (by with_reducible (repeat (first | exact Z0 | apply Z1))) (by first | rfl | exact (Nat.add_zero _).symm) (by rfl) ?_
     refine q_int rfl rfl rfl rfl rfl (b_eql _ _ _ _) ?_
     refine r_done ?_
     refine k_then_n ?_
     refine c_cond_p rfl (fun h9 => ?_) (fun h9 => by exfalso; omega)
     refine c_plain (.q 0 (.q 1 (.q 2 (.q 3 (.q 4 (.done)))))) (by kernel_rfl) ?_
     refine q_move rfl rfl rfl rfl ?_
     refine q_nil_p rfl rfl rfl rfl ?_
     refine q_field (k := 1) rfl rfl rfl rfl Try.underlying99 rfl Try.sizeOf82 rfl ?_
     refine q_load_O (v := (.pointer (some ⟨wb, 0, none⟩))) (j := 1) (k' := o.toNat) (enc := encV) (off := io67) rfl rfl rfl rfl Try.isAgg82 ha67 encV_len hq2 (by with_reducible (repeat (first | exact Z0 | apply Z1))) (by first | rfl | exact (Nat.add_zero _).symm | omega) (by rfl) ?_
     refine q_assign rfl rfl rfl rfl ?_
     refine r_done ?_
     refine s_keep [0, 3, 8] (e' := [(0, _), (3, _), (8, _)]) rfl ?_
     refine k_then_n ?_
     refine c_draw rfl (.q 0 (.q 1 (.q 2 (.q 3 (.q 4 (.q 5 (.q 6 (.q 7 (.q 8 ((.l 9 [2] ((.l 10 [] (.done)))))))))))))) (by kernel_rfl) ?_
     refine q_move rfl rfl rfl rfl ?_
     refine q_field (k := 1) rfl rfl rfl rfl Try.underlying40 rfl Try.sizeOf3 rfl ?_
     refine q_load_c (j := 1) rfl rfl rfl rfl Try.isAgg3 (by with_reducible (repeat (first | exact Z0 | apply Z1))) (by first | rfl | exact (Nat.add_zero _).symm) (by rfl) ?_
     refine q_move rfl rfl rfl rfl ?_
     refine q_nil_p rfl rfl rfl rfl ?_
     refine q_field (k := 0) rfl rfl rfl rfl Try.underlying91 rfl Try.sizeOf88 rfl ?_
     refine q_load_c (j := 0) rfl rfl rfl rfl Try.isAgg88 (by with_reducible (repeat (first | exact Z0 | apply Z1))) (by first | rfl | exact (Nat.add_zero _).symm) (by rfl) ?_
     refine q_field (k := 1) rfl rfl rfl rfl Try.underlying40 rfl Try.sizeOf3 rfl ?_
     refine q_load_c (j := 1) rfl rfl rfl rfl Try.isAgg3 (by with_reducible (repeat (first | exact Z0 | apply Z1))) (by first | rfl | exact (Nat.add_zero _).symm) (by rfl) ?_
     have sp_5 := clock_spec vb m1 (.pointer (some ⟨cb, 0, none⟩)) (.slice po x.v.ck.pa.length poc) (.map (some m2)) (.map (some m3)) (.map (some m4)) F1 tb (ta) (tc) l t (by omega) htF
     refine l_call rfl rfl rfl rfl rfl rfl Try.call48 (sp_5) (by (repeat ((with_reducible apply Z2); focus (first | (with_reducible (repeat (first | exact Z0 | apply Z1)); done) | (repeat (first | exact Z0 | apply Z1))))); exact Z3) ?_
     rintro ⟨⟩ -
     try simp only [List.cons_append, List.nil_append]
     refine ag_load_c (q := 1) rfl rfl rfl Try.isAgg3 (by with_reducible (repeat (first | exact Z0 | apply Z1))) (by first | rfl | exact (Nat.add_zero _).symm) (by rfl) ?_
     refine ag_nil ?_
     have sp_6 := set_z wb w.2.1 wa w.2.1.length wc (by first | rfl | assumption | omega | (simp; done) | (simp; omega)) hww t (by omega) (by omega) (l.getD t.toNat 0) (by exact hgr.1) (by exact hgr.2)
     refine l_call rfl rfl rfl rfl rfl rfl Try.call47 (sp_6) (by (repeat ((with_reducible apply Z2); focus (first | (with_reducible (repeat (first | exact Z0 | apply Z1)); done) | (repeat (first | exact Z0 | apply Z1))))); exact Z3) ?_
     rintro ⟨za, zc⟩ -
     try simp only [List.cons_append, List.nil_append]
     refine ag_nil ?_
     refine r_done ?_
     refine s_vecF rb ra rc w.1 (by (repeat ((with_reducible apply Z2); focus (first | (with_reducible (repeat (first | exact Z0 | apply Z1)); done) | (repeat (first | exact Z0 | apply Z1))))); exact Z3) ?_
     refine s_vecF wb za zc (stL w.2.1 t.toNat (l.getD t.toNat 0)) (by (repeat ((with_reducible apply Z2); focus (first | (with_reducible (repeat (first | exact Z0 | apply Z1)); done) | (repeat (first | exact Z0 | apply Z1))))); exact Z3) ?_
     refine s_varF (some ⟨rb, 0, none⟩, some ⟨wb, 0, none⟩, x.v.ck.n, true) (w.1, (stL w.2.1 t.toNat (l.getD t.toNat 0)), x.v.ck.n, true) (by (repeat ((with_reducible apply Z2); focus (first | (with_reducible (repeat (first | exact Z0 | apply Z1)); done) | (repeat (first | exact Z0 | apply Z1))))); exact Z3) rfl ?_
     refine s_restL_put (res := varA) (V := V) (Y := x.vs) (S := []) o.toNat (some ⟨rb, 0, none⟩, some ⟨wb, 0, none⟩, x.v.ck.n, true) (w.1, (stL w.2.1 t.toNat (l.getD t.toNat 0)), x.v.ck.n, true) (by (repeat ((with_reducible apply Z2); focus (first | (with_reducible (repeat (first | exact Z0 | apply Z1)); done) | (repeat (first | exact Z0 | apply Z1))))); exact Z3) (by simp) (List.getElem?_eq_some_iff.1 hv).1 (by omega) ?_
     rw [set_set]
     refine s_keep [0, 3] (e' := [(0, _), (3, _)]) rfl ?_
     refine k_then_n ?_
     refine c_exit ?_
     refine k_blk_here ?_
     refine k_then_n ?_
     refine c_seq ?_
     refine s_vecF tb ta tc l (by (repeat ((with_reducible apply Z2); focus (first | (with_reducible (repeat (first | exact Z0 | apply Z1)); done) | (repeat (first | exact Z0 | apply Z1))))); exact Z3) ?_
     refine s_rest_put (F := F1) (T := x.v.th) (S := []) t F1 x.v.th (by (repeat ((with_reducible apply Z2); focus (first | (with_reducible (repeat (first | exact Z0 | apply Z1)); done) | (repeat (first | exact Z0 | apply Z1))))); exact Z3) (by simp) htF (fun _ _ _ => rfl) hth (fun _ _ _ => rfl) ?_
     refine vs_fold (b := vb) x.v (pa := pa) (pc := pc) (po := po) (poc := poc) (cb := cb) (m1 := m1) (m2 := m2) (m3 := m3) (m4 := m4) (by (repeat ((with_reducible apply Z2); focus (first | (with_reducible (repeat (first | exact Z0 | apply Z1)); done) | (repeat (first | exact Z0 | apply Z1))))); exact Z3) (by rfl) (by rfl) ?_
     refine c_draw rfl (.q 0 (.q 1 (.q 2 (.q 3 (.q 4 ((.l 5 [] (.done)))))))) (by kernel_rfl) ?_
     refine q_move rfl rfl rfl rfl ?_
     refine q_nil_p rfl rfl rfl rfl ?_
     refine q_field (k := 0) rfl rfl rfl rfl Try.underlying91 rfl Try.sizeOf88 rfl ?_
     refine q_load_c (j := 0) rfl rfl rfl rfl Try.isAgg88 (by with_reducible (repeat (first | exact Z0 | apply Z1))) (by first | rfl | exact (Nat.add_zero _).symm) (by rfl) ?_
     refine q_loadN_c rfl rfl rfl rfl Try.isAgg40 Try.sizeOf40 (by with_reducible (repeat (first | exact Z0 | apply Z1))) 0 (us := [_, _, _]) (by first | rfl | exact (Nat.add_zero _).symm) rfl rfl ?_
     have sp_7 := next_spec pa pc po poc vb x.v hx.v hn pl hpl k t o hvc
     refine l_call rfl rfl rfl rfl rfl rfl Try.call49 (sp_7) (by (repeat ((with_reducible apply Z2); focus (first | (with_reducible (repeat (first | exact Z0 | apply Z1)); done) | (repeat (first | exact Z0 | apply Z1))))); exact Z3) ?_
     rintro ⟨⟩ -
     try simp only [List.cons_append, List.nil_append]
     refine ag_nil ?_
     refine r_done ?_
     refine s_keep [] (e' := []) rfl ?_
     refine k_then_n ?_
     refine c_seq ?_
     refine c_plain (.q 0 (.done)) (by kernel_rfl) ?_
     refine q_assign rfl rfl rfl rfl ?_
     refine r_done ?_
     refine k_then_n ?_
     refine c_ret ?_
     have hrc : raceF k l w := .inl ⟨k2, hr1⟩
     have hacw : acW x.v.ck.n k t l w = (w.1, (stL w.2.1 t.toNat (l.getD t.toNat 0)), x.v.ck.n, true) := by
       unfold acW
       rw [if_pos k2, if_pos k2]
       have hfg2 : fg = false := by simpa using hfg
       rw [if_pos ⟨hrc, e2.trans hfg2⟩, decide_eq_true hrc, Bool.or_true]
     refine d_fold (b := b) (deF x k t o) (pa := pa) (pc := pc) (po := po) (poc := poc) (vb := vb) (va := va) (vc := vc) (V := (V.set o.toNat (some ⟨rb, 0, none⟩, some ⟨wb, 0, none⟩, x.v.ck.n, true))) (by (repeat ((with_reducible apply Z2); focus (first | (with_reducible (repeat (first | exact Z0 | apply Z1)); done) | (repeat (first | exact Z0 | apply Z1))))); exact Z3) (by rw [de_acc hvc (by omega) hw hth, hacw]; congr 1; omega) (by simp) (by first | exact (by simp [hV]) | simp) ?_
     refine ret1 rfl rfl (()) (by rw [show deE x k t o = 0 from if_pos hvc]) (by trivial) ?_
     (repeat ((with_reducible apply Z2); focus (first | (with_reducible (repeat (first | exact Z0 | apply Z1)); done) | (repeat (first | exact Z0 | apply Z1))))); (repeat (first | exact Z3 | exact Takes.self | refine takes_drop2 ?_))
    ·
     try simp only [Bool.and_eq_true, Bool.or_eq_true, Bool.not_eq_true', Bool.not_eq_false', Bool.and_eq_false_iff, Bool.or_eq_false_iff, decide_eq_true_eq, decide_eq_false_iff_not] at hfg
     refine c_skip ?_
     refine k_then_n ?_
     refine c_seq ?_
     refine c_plain (.q 0 (.q 1 (.q 2 (.q 3 (.q 4 (.done)))))) (by kernel_rfl) ?_
     refine q_move rfl rfl rfl rfl ?_
     refine q_nil_p rfl rfl rfl rfl ?_
     refine q_field (k := 0) rfl rfl rfl rfl Try.underlying99 rfl Try.sizeOf82 rfl ?_
     refine q_load_O (v := (.pointer (some ⟨rb, 0, none⟩))) (j := 0) (k' := o.toNat) (enc := encV) (off := io67) rfl rfl rfl rfl Try.isAgg82 ha67 encV_len hv (by with_reducible (repeat (first | exact Z0 | apply Z1))) (by first | rfl | exact (Nat.add_zero _).symm | omega) (by rfl) ?_
     refine q_assign rfl rfl rfl rfl ?_
     refine r_done ?_
     refine s_keep [0, 3, 7, 8] (e' := [(0, _), (3, _), (7, _), (8, _)]) rfl ?_
     refine k_then_n ?_
     refine c_seq ?_
     refine c_seq ?_
     refine c_plain (.q 0 (.q 1 (.q 2 (.done)))) (by kernel_rfl) ?_
     refine q_field (k := 0) rfl rfl rfl rfl Try.underlying40 rfl Try.sizeOf38 rfl ?_
     refine q_load_c (j := 0) rfl rfl rfl rfl Try.isAgg38 (by with_reducible (repeat (first | exact Z0 | apply Z1))) (by first | rfl | exact (Nat.add_zero _).symm) (by rfl) ?_
     refine q_int rfl rfl rfl rfl rfl (b_eql _ _ _ _) ?_
     refine r_done ?_
     refine k_then_n ?_
     refine c_cond_p rfl (fun h9 => ?_) (fun h9 => by exfalso; omega)
     refine c_plain (.q 0 (.q 1 (.q 2 (.q 3 (.q 4 (.done)))))) (by kernel_rfl) ?_
     refine q_move rfl rfl rfl rfl ?_
     refine q_nil_p rfl rfl rfl rfl ?_
     refine q_field (k := 1) rfl rfl rfl rfl Try.underlying99 rfl Try.sizeOf82 rfl ?_
     refine q_load_O (v := (.pointer (some ⟨wb, 0, none⟩))) (j := 1) (k' := o.toNat) (enc := encV) (off := io67) rfl rfl rfl rfl Try.isAgg82 ha67 encV_len hv (by with_reducible (repeat (first | exact Z0 | apply Z1))) (by first | rfl | exact (Nat.add_zero _).symm | omega) (by rfl) ?_
     refine q_assign rfl rfl rfl rfl ?_
     refine r_done ?_
     refine s_keep [0, 3, 8] (e' := [(0, _), (3, _), (8, _)]) rfl ?_
     refine k_then_n ?_
     refine c_draw rfl (.q 0 (.q 1 (.q 2 (.q 3 (.q 4 (.q 5 (.q 6 (.q 7 (.q 8 ((.l 9 [2] ((.l 10 [] (.done)))))))))))))) (by kernel_rfl) ?_
     refine q_move rfl rfl rfl rfl ?_
     refine q_field (k := 1) rfl rfl rfl rfl Try.underlying40 rfl Try.sizeOf3 rfl ?_
     refine q_load_c (j := 1) rfl rfl rfl rfl Try.isAgg3 (by with_reducible (repeat (first | exact Z0 | apply Z1))) (by first | rfl | exact (Nat.add_zero _).symm) (by rfl) ?_
     refine q_move rfl rfl rfl rfl ?_
     refine q_nil_p rfl rfl rfl rfl ?_
     refine q_field (k := 0) rfl rfl rfl rfl Try.underlying91 rfl Try.sizeOf88 rfl ?_
     refine q_load_c (j := 0) rfl rfl rfl rfl Try.isAgg88 (by with_reducible (repeat (first | exact Z0 | apply Z1))) (by first | rfl | exact (Nat.add_zero _).symm) (by rfl) ?_
     refine q_field (k := 1) rfl rfl rfl rfl Try.underlying40 rfl Try.sizeOf3 rfl ?_
     refine q_load_c (j := 1) rfl rfl rfl rfl Try.isAgg3 (by with_reducible (repeat (first | exact Z0 | apply Z1))) (by first | rfl | exact (Nat.add_zero _).symm) (by rfl) ?_
     have sp_8 := clock_spec vb m1 (.pointer (some ⟨cb, 0, none⟩)) (.slice po x.v.ck.pa.length poc) (.map (some m2)) (.map (some m3)) (.map (some m4)) F1 tb (ta) (tc) l t (by omega) htF
     refine l_call rfl rfl rfl rfl rfl rfl Try.call48 (sp_8) (by (repeat ((with_reducible apply Z2); focus (first | (with_reducible (repeat (first | exact Z0 | apply Z1)); done) | (repeat (first | exact Z0 | apply Z1))))); exact Z3) ?_
     rintro ⟨⟩ -
     try simp only [List.cons_append, List.nil_append]
     refine ag_load_c (q := 1) rfl rfl rfl Try.isAgg3 (by with_reducible (repeat (first | exact Z0 | apply Z1))) (by first | rfl | exact (Nat.add_zero _).symm) (by rfl) ?_
     refine ag_nil ?_
     have sp_9 := set_z wb w.2.1 wa w.2.1.length wc (by first | rfl | assumption | omega | (simp; done) | (simp; omega)) hww t (by omega) (by omega) (l.getD t.toNat 0) (by exact hgr.1) (by exact hgr.2)
     refine l_call rfl rfl rfl rfl rfl rfl Try.call47 (sp_9) (by (repeat ((with_reducible apply Z2); focus (first | (with_reducible (repeat (first | exact Z0 | apply Z1)); done) | (repeat (first | exact Z0 | apply Z1))))); exact Z3) ?_
     rintro ⟨za, zc⟩ -
     try simp only [List.cons_append, List.nil_append]
     refine ag_nil ?_
     refine r_done ?_
     refine s_vecF rb ra rc w.1 (by (repeat ((with_reducible apply Z2); focus (first | (with_reducible (repeat (first | exact Z0 | apply Z1)); done) | (repeat (first | exact Z0 | apply Z1))))); exact Z3) ?_
     refine s_vecF wb za zc (stL w.2.1 t.toNat (l.getD t.toNat 0)) (by (repeat ((with_reducible apply Z2); focus (first | (with_reducible (repeat (first | exact Z0 | apply Z1)); done) | (repeat (first | exact Z0 | apply Z1))))); exact Z3) ?_
     refine s_varF (some ⟨rb, 0, none⟩, some ⟨wb, 0, none⟩, fl, fg) (w.1, (stL w.2.1 t.toNat (l.getD t.toNat 0)), fl, fg) (by (repeat ((with_reducible apply Z2); focus (first | (with_reducible (repeat (first | exact Z0 | apply Z1)); done) | (repeat (first | exact Z0 | apply Z1))))); exact Z3) rfl ?_
     refine s_restL_put (res := varA) (V := V) (Y := x.vs) (S := []) o.toNat (some ⟨rb, 0, none⟩, some ⟨wb, 0, none⟩, fl, fg) (w.1, (stL w.2.1 t.toNat (l.getD t.toNat 0)), fl, fg) (by (repeat ((with_reducible apply Z2); focus (first | (with_reducible (repeat (first | exact Z0 | apply Z1)); done) | (repeat (first | exact Z0 | apply Z1))))); exact Z3) (by simp) (List.getElem?_eq_some_iff.1 hv).1 (by omega) ?_
     rw [set_same hv]
     refine s_keep [0, 3] (e' := [(0, _), (3, _)]) rfl ?_
     refine k_then_n ?_
     refine c_exit ?_
     refine k_blk_here ?_
     refine k_then_n ?_
     refine c_seq ?_
     refine s_vecF tb ta tc l (by (repeat ((with_reducible apply Z2); focus (first | (with_reducible (repeat (first | exact Z0 | apply Z1)); done) | (repeat (first | exact Z0 | apply Z1))))); exact Z3) ?_
     refine s_rest_put (F := F1) (T := x.v.th) (S := []) t F1 x.v.th (by (repeat ((with_reducible apply Z2); focus (first | (with_reducible (repeat (first | exact Z0 | apply Z1)); done) | (repeat (first | exact Z0 | apply Z1))))); exact Z3) (by simp) htF (fun _ _ _ => rfl) hth (fun _ _ _ => rfl) ?_
     refine vs_fold (b := vb) x.v (pa := pa) (pc := pc) (po := po) (poc := poc) (cb := cb) (m1 := m1) (m2 := m2) (m3 := m3) (m4 := m4) (by (repeat ((with_reducible apply Z2); focus (first | (with_reducible (repeat (first | exact Z0 | apply Z1)); done) | (repeat (first | exact Z0 | apply Z1))))); exact Z3) (by rfl) (by rfl) ?_
     refine c_draw rfl (.q 0 (.q 1 (.q 2 (.q 3 (.q 4 ((.l 5 [] (.done)))))))) (by kernel_rfl) ?_
     refine q_move rfl rfl rfl rfl ?_
     refine q_nil_p rfl rfl rfl rfl ?_
     refine q_field (k := 0) rfl rfl rfl rfl Try.underlying91 rfl Try.sizeOf88 rfl ?_
     refine q_load_c (j := 0) rfl rfl rfl rfl Try.isAgg88 (by with_reducible (repeat (first | exact Z0 | apply Z1))) (by first | rfl | exact (Nat.add_zero _).symm) (by rfl) ?_
     refine q_loadN_c rfl rfl rfl rfl Try.isAgg40 Try.sizeOf40 (by with_reducible (repeat (first | exact Z0 | apply Z1))) 0 (us := [_, _, _]) (by first | rfl | exact (Nat.add_zero _).symm) rfl rfl ?_
     have sp_10 := next_spec pa pc po poc vb x.v hx.v hn pl hpl k t o hvc
     refine l_call rfl rfl rfl rfl rfl rfl Try.call49 (sp_10) (by (repeat ((with_reducible apply Z2); focus (first | (with_reducible (repeat (first | exact Z0 | apply Z1)); done) | (repeat (first | exact Z0 | apply Z1))))); exact Z3) ?_
     rintro ⟨⟩ -
     try simp only [List.cons_append, List.nil_append]
     refine ag_nil ?_
     refine r_done ?_
     refine s_keep [] (e' := []) rfl ?_
     refine k_then_n ?_
     refine c_seq ?_
     refine c_plain (.q 0 (.done)) (by kernel_rfl) ?_
     refine q_assign rfl rfl rfl rfl ?_
     refine r_done ?_
     refine k_then_n ?_
     refine c_ret ?_
     have hrc : raceF k l w := .inl ⟨k2, hr1⟩
     have hacw : acW x.v.ck.n k t l w = (w.1, (stL w.2.1 t.toNat (l.getD t.toNat 0)), fl, fg) := by
       unfold acW
       rw [if_pos k2, if_pos k2]
       have hfg2 : fg = true := by simpa using hfg
       rw [if_neg (fun h => by rw [e2, hfg2] at h; exact absurd h.2 (by decide)), e1, e2, hfg2, Bool.true_or]
     refine d_fold (b := b) (deF x k t o) (pa := pa) (pc := pc) (po := po) (poc := poc) (vb := vb) (va := va) (vc := vc) (V := V) (by (repeat ((with_reducible apply Z2); focus (first | (with_reducible (repeat (first | exact Z0 | apply Z1)); done) | (repeat (first | exact Z0 | apply Z1))))); exact Z3) (by rw [de_acc hvc (by omega) hw hth, hacw]; congr 1; omega) (by simp) (by first | exact (by simp [hV]) | simp) ?_
     refine ret1 rfl rfl (()) (by rw [show deE x k t o = 0 from if_pos hvc]) (by trivial) ?_
     (repeat ((with_reducible apply Z2); focus (first | (with_reducible (repeat (first | exact Z0 | apply Z1)); done) | (repeat (first | exact Z0 | apply Z1))))); (repeat (first | exact Z3 | exact Takes.self | refine takes_drop2 ?_))
   ·
    refine q_move rfl rfl rfl rfl ?_
    refine q_nil_p rfl rfl rfl rfl ?_
    refine q_field (k := 1) rfl rfl rfl rfl Try.underlying99 rfl Try.sizeOf82 rfl ?_
    refine q_load_O (v := (.pointer (some ⟨wb, 0, none⟩))) (j := 1) (k' := o.toNat) (enc := encV) (off := io67) rfl rfl rfl rfl Try.isAgg82 ha67 encV_len hv (by with_reducible (repeat (first | exact Z0 | apply Z1))) (by first | rfl | exact (Nat.add_zero _).symm | omega) (by rfl) ?_
    refine q_move rfl rfl rfl rfl ?_
    have sp_11 := Vc.leq_spec wb tb w.2.1 l wa ta w.2.1.length wc l.length tc (by rfl) (by rfl) hww hlc
    refine l_call rfl rfl rfl rfl rfl rfl Try.call45 (sp_11) (by (repeat ((with_reducible apply Z2); focus (first | (with_reducible (repeat (first | exact Z0 | apply Z1)); done) | (repeat (first | exact Z0 | apply Z1))))); exact Z3) ?_
    rintro ⟨⟩ -
    try simp only [List.cons_append, List.nil_append]
    refine ag_nil ?_
    refine q_not rfl rfl rfl rfl ?_
    refine q_pick_f rfl rfl rfl rfl rfl ?_
    refine q_assign rfl rfl rfl rfl ?_
    refine r_done ?_
    refine s_keep [0, 3, 5, 7] (e' := [(0, _), (3, _), (5, _), (7, _)]) rfl ?_
    refine k_then_n ?_
    refine c_seq ?_
    refine c_seq ?_
    refine c_plain (.q 0 (.q 1 (.q 2 (.q 3 (.q 4 (.q 5 (.q 6 (.q 7 (.done))))))))) (by kernel_rfl) ?_
    refine q_move rfl rfl rfl rfl ?_
    refine q_move rfl rfl rfl rfl ?_
    refine s_bool_np 79 rfl (fun hr2 => ?_) (fun hr2 => ?_)
    ·
     refine q_move rfl rfl rfl rfl ?_
     refine q_nil_p rfl rfl rfl rfl ?_
     refine q_field (k := 3) rfl rfl rfl rfl Try.underlying99 rfl Try.sizeOf4 rfl ?_
     refine q_load_O (v := (.bool fg)) (j := 3) (k' := o.toNat) (enc := encV) (off := io67) rfl rfl rfl rfl Try.isAgg4 ha67 encV_len hv (by with_reducible (repeat (first | exact Z0 | apply Z1))) (by first | rfl | exact (Nat.add_zero _).symm | omega) (by rfl) ?_
     refine q_not rfl rfl rfl rfl ?_
     refine q_pick_t rfl rfl rfl rfl rfl ?_
     refine r_done ?_
     refine s_keep [0, 3, 7, 85] (e' := [(0, _), (3, _), (7, _), (85, _)]) rfl ?_
     refine k_then_n ?_
     refine c_cond rfl (fun hfg => ?_) (fun hfg => ?_)
     ·
      try simp only [Bool.and_eq_true, Bool.or_eq_true, Bool.not_eq_true', Bool.not_eq_false', Bool.and_eq_false_iff, Bool.or_eq_false_iff, decide_eq_true_eq, decide_eq_false_iff_not] at hfg
      refine c_plain (.q 0 (.q 1 (.q 2 (.q 3 (.q 4 (.q 5 (.q 6 (.q 7 (.q 8 ((.l 9 [] (.q 10 (.q 11 ((.l 12 [] (.q 13 (.q 14 ((.l 15 [] (.done)))))))))))))))))))) (by kernel_rfl) ?_
      refine q_move rfl rfl rfl rfl ?_
      refine q_move rfl rfl rfl rfl ?_
      refine q_move rfl rfl rfl rfl ?_
      refine q_nil_p rfl rfl rfl rfl ?_
      refine q_field (k := 0) rfl rfl rfl rfl Try.underlying91 rfl Try.sizeOf88 rfl ?_
      refine q_load_c (j := 0) rfl rfl rfl rfl Try.isAgg88 (by with_reducible (repeat (first | exact Z0 | apply Z1))) (by first | rfl | exact (Nat.add_zero _).symm) (by rfl) ?_
      refine q_nil_p rfl rfl rfl rfl ?_
      refine q_field (k := 0) rfl rfl rfl rfl Try.underlying87 rfl Try.sizeOf83 rfl ?_
      refine q_load_c (j := 0) rfl rfl rfl rfl Try.isAgg83 (by with_reducible (repeat (first | exact Z0 | apply Z1))) (by first | rfl | exact (Nat.add_zero _).symm) (by rfl) ?_
      have sp_12 := Fe.len_spec pa pc cb x.v.ck
      refine l_call rfl rfl rfl rfl rfl rfl Try.call46 (sp_12) (by (repeat ((with_reducible apply Z2); focus (first | (with_reducible (repeat (first | exact Z0 | apply Z1)); done) | (repeat (first | exact Z0 | apply Z1))))); exact Z3) ?_
      rintro ⟨⟩ -
      try simp only [List.cons_append, List.nil_append]
      refine ag_nil ?_
      refine q_nil_p rfl rfl rfl rfl ?_
      refine q_field (k := 2) rfl rfl rfl rfl Try.underlying99 rfl Try.sizeOf3 rfl ?_
      refine l_store_O (j := 2) (k := o.toNat) (q := (some ⟨rb, 0, none⟩, some ⟨wb, 0, none⟩, x.v.ck.n, fg)) (enc := encV) (off := io67) rfl rfl rfl rfl Try.sizeOf3 (us := [_]) rfl rfl rfl ha67 encV_len hv (by with_reducible (repeat (first | exact Z0 | apply Z1))) (by first | rfl | exact (Nat.add_zero _).symm | omega) (by first | decide | exact Nat.le_of_ble_eq_true rfl) (by rfl) ?_
      refine ag_nil ?_
      have hq1 : (V.set o.toNat (some ⟨rb, 0, none⟩, some ⟨wb, 0, none⟩, x.v.ck.n, fg))[o.toNat]? = some (some ⟨rb, 0, none⟩, some ⟨wb, 0, none⟩, x.v.ck.n, fg) := List.getElem?_set_self (by omega)
      refine q_nil_p rfl rfl rfl rfl ?_
      refine q_field (k := 3) rfl rfl rfl rfl Try.underlying99 rfl Try.sizeOf4 rfl ?_
      refine l_store_O (j := 3) (k := o.toNat) (q := (some ⟨rb, 0, none⟩, some ⟨wb, 0, none⟩, x.v.ck.n, true)) (enc := encV) (off := io67) rfl rfl rfl rfl Try.sizeOf4 (us := [_]) rfl rfl rfl ha67 encV_len hq1 (by with_reducible (repeat (first | exact Z0 | apply Z1))) (by first | rfl | exact (Nat.add_zero _).symm | omega) (by first | decide | exact Nat.le_of_ble_eq_true rfl) (by rfl) ?_
      refine ag_nil ?_
      have hq2 : ((V.set o.toNat (some ⟨rb, 0, none⟩, some ⟨wb, 0, none⟩, x.v.ck.n, fg)).set o.toNat (some ⟨rb, 0, none⟩, some ⟨wb, 0, none⟩, x.v.ck.n, true))[o.toNat]? = some (some ⟨rb, 0, none⟩, some ⟨wb, 0, none⟩, x.v.ck.n, true) := List.getElem?_set_self (by simp; omega)
      refine r_done ?_
      refine s_keep [0, 3, 7] (e' := [(0, _), (3, _), (7, _)]) rfl ?_
      refine k_then_n ?_
      refine c_seq ?_
      refine c_plain (.q 0 (.q 1 (.q 2 (.q 3 (.q 4 (.done)))))) (by kernel_rfl) ?_
      refine q_move rfl rfl rfl rfl ?_
      refine q_nil_p rfl rfl rfl rfl ?_
      refine q_field (k := 0) rfl rfl rfl rfl Try.underlying99 rfl Try.sizeOf82 rfl ?_
      refine q_load_O (v := (.pointer (some ⟨rb, 0, none⟩))) (j := 0) (k' := o.toNat) (enc := encV) (off := io67) rfl rfl rfl rfl Try.isAgg82 ha67 encV_len hq2 (by with_reducible (repeat (first | exact Z0 | apply Z1))) (by first | rfl | exact (Nat.add_zero _).symm | omega) (by rfl) ?_
      refine q_assign rfl rfl rfl rfl ?_
      refine r_done ?_
      refine s_keep [0, 3, 7, 8] (e' := [(0, _), (3, _), (7, _), (8, _)]) rfl ?_
      refine k_then_n ?_
      refine c_seq ?_
      refine c_seq ?_
      refine c_plain (.q 0 (.q 1 (.q 2 (.done)))) (by kernel_rfl) ?_
      refine q_field (k := 0) rfl rfl rfl rfl Try.underlying40 rfl Try.sizeOf38 rfl ?_
      refine q_load_c (j := 0) rfl rfl rfl rfl Try.isAgg38 (by with_reducible (repeat (first | exact Z0 | apply Z1))) (by first | rfl | exact (Nat.add_zero _).symm) (by rfl) ?_
      refine q_int rfl rfl rfl rfl rfl (b_eql _ _ _ _) ?_
      refine r_done ?_
      refine k_then_n ?_
      refine c_cond_p rfl (fun h9 => ?_) (fun h9 => by exfalso; omega)
      refine c_plain (.q 0 (.q 1 (.q 2 (.q 3 (.q 4 (.done)))))) (by kernel_rfl) ?_
      refine q_move rfl rfl rfl rfl ?_
      refine q_nil_p rfl rfl rfl rfl ?_
      refine q_field (k := 1) rfl rfl rfl rfl Try.underlying99 rfl Try.sizeOf82 rfl ?_
      refine q_load_O (v := (.pointer (some ⟨wb, 0, none⟩))) (j := 1) (k' := o.toNat) (enc := encV) (off := io67) rfl rfl rfl rfl Try.isAgg82 ha67 encV_len hq2 (by with_reducible (repeat (first | exact Z0 | apply Z1))) (by first | rfl | exact (Nat.add_zero _).symm | omega) (by rfl) ?_
      refine q_assign rfl rfl rfl rfl ?_
      refine r_done ?_
      refine s_keep [0, 3, 8] (e' := [(0, _), (3, _), (8, _)]) rfl ?_
      refine k_then_n ?_
      refine c_draw rfl (.q 0 (.q 1 (.q 2 (.q 3 (.q 4 (.q 5 (.q 6 (.q 7 (.q 8 ((.l 9 [2] ((.l 10 [] (.done)))))))))))))) (by kernel_rfl) ?_
      refine q_move rfl rfl rfl rfl ?_
      refine q_field (k := 1) rfl rfl rfl rfl Try.underlying40 rfl Try.sizeOf3 rfl ?_
      refine q_load_c (j := 1) rfl rfl rfl rfl Try.isAgg3 (by with_reducible (repeat (first | exact Z0 | apply Z1))) (by first | rfl | exact (Nat.add_zero _).symm) (by rfl) ?_
      refine q_move rfl rfl rfl rfl ?_
      refine q_nil_p rfl rfl rfl rfl ?_
      refine q_field (k := 0) rfl rfl rfl rfl Try.underlying91 rfl Try.sizeOf88 rfl ?_
      refine q_load_c (j := 0) rfl rfl rfl rfl Try.isAgg88 (by with_reducible (repeat (first | exact Z0 | apply Z1))) (by first | rfl | exact (Nat.add_zero _).symm) (by rfl) ?_
      refine q_field (k := 1) rfl rfl rfl rfl Try.underlying40 rfl Try.sizeOf3 rfl ?_
      refine q_load_c (j := 1) rfl rfl rfl rfl Try.isAgg3 (by with_reducible (repeat (first | exact Z0 | apply Z1))) (by first | rfl | exact (Nat.add_zero _).symm) (by rfl) ?_
      have sp_13 := clock_spec vb m1 (.pointer (some ⟨cb, 0, none⟩)) (.slice po x.v.ck.pa.length poc) (.map (some m2)) (.map (some m3)) (.map (some m4)) F1 tb (ta) (tc) l t (by omega) htF
      refine l_call rfl rfl rfl rfl rfl rfl Try.call48 (sp_13) (by (repeat ((with_reducible apply Z2); focus (first | (with_reducible (repeat (first | exact Z0 | apply Z1)); done) | (repeat (first | exact Z0 | apply Z1))))); exact Z3) ?_
      rintro ⟨⟩ -
      try simp only [List.cons_append, List.nil_append]
      refine ag_load_c (q := 1) rfl rfl rfl Try.isAgg3 (by with_reducible (repeat (first | exact Z0 | apply Z1))) (by first | rfl | exact (Nat.add_zero _).symm) (by rfl) ?_
      refine ag_nil ?_
      have sp_14 := set_z wb w.2.1 wa w.2.1.length wc (by first | rfl | assumption | omega | (simp; done) | (simp; omega)) hww t (by omega) (by omega) (l.getD t.toNat 0) (by exact hgr.1) (by exact hgr.2)
      refine l_call rfl rfl rfl rfl rfl rfl Try.call47 (sp_14) (by (repeat ((with_reducible apply Z2); focus (first | (with_reducible (repeat (first | exact Z0 | apply Z1)); done) | (repeat (first | exact Z0 | apply Z1))))); exact Z3) ?_
      rintro ⟨za, zc⟩ -
      try simp only [List.cons_append, List.nil_append]
      refine ag_nil ?_
      refine r_done ?_
      refine s_vecF rb ra rc w.1 (by (repeat ((with_reducible apply Z2); focus (first | (with_reducible (repeat (first | exact Z0 | apply Z1)); done) | (repeat (first | exact Z0 | apply Z1))))); exact Z3) ?_
      refine s_vecF wb za zc (stL w.2.1 t.toNat (l.getD t.toNat 0)) (by (repeat ((with_reducible apply Z2); focus (first | (with_reducible (repeat (first | exact Z0 | apply Z1)); done) | (repeat (first | exact Z0 | apply Z1))))); exact Z3) ?_
      refine s_varF (some ⟨rb, 0, none⟩, some ⟨wb, 0, none⟩, x.v.ck.n, true) (w.1, (stL w.2.1 t.toNat (l.getD t.toNat 0)), x.v.ck.n, true) (by (repeat ((with_reducible apply Z2); focus (first | (with_reducible (repeat (first | exact Z0 | apply Z1)); done) | (repeat (first | exact Z0 | apply Z1))))); exact Z3) rfl ?_
      refine s_restL_put (res := varA) (V := V) (Y := x.vs) (S := []) o.toNat (some ⟨rb, 0, none⟩, some ⟨wb, 0, none⟩, x.v.ck.n, true) (w.1, (stL w.2.1 t.toNat (l.getD t.toNat 0)), x.v.ck.n, true) (by (repeat ((with_reducible apply Z2); focus (first | (with_reducible (repeat (first | exact Z0 | apply Z1)); done) | (repeat (first | exact Z0 | apply Z1))))); exact Z3) (by simp) (List.getElem?_eq_some_iff.1 hv).1 (by omega) ?_
      rw [set_set]
      refine s_keep [0, 3] (e' := [(0, _), (3, _)]) rfl ?_
      refine k_then_n ?_
      refine c_exit ?_
      refine k_blk_here ?_
      refine k_then_n ?_
      refine c_seq ?_
      refine s_vecF tb ta tc l (by (repeat ((with_reducible apply Z2); focus (first | (with_reducible (repeat (first | exact Z0 | apply Z1)); done) | (repeat (first | exact Z0 | apply Z1))))); exact Z3) ?_
      refine s_rest_put (F := F1) (T := x.v.th) (S := []) t F1 x.v.th (by (repeat ((with_reducible apply Z2); focus (first | (with_reducible (repeat (first | exact Z0 | apply Z1)); done) | (repeat (first | exact Z0 | apply Z1))))); exact Z3) (by simp) htF (fun _ _ _ => rfl) hth (fun _ _ _ => rfl) ?_
      refine vs_fold (b := vb) x.v (pa := pa) (pc := pc) (po := po) (poc := poc) (cb := cb) (m1 := m1) (m2 := m2) (m3 := m3) (m4 := m4) (by (repeat ((with_reducible apply Z2); focus (first | (with_reducible (repeat (first | exact Z0 | apply Z1)); done) | (repeat (first | exact Z0 | apply Z1))))); exact Z3) (by rfl) (by rfl) ?_
      refine c_draw rfl (.q 0 (.q 1 (.q 2 (.q 3 (.q 4 ((.l 5 [] (.done)))))))) (by kernel_rfl) ?_
      refine q_move rfl rfl rfl rfl ?_
      refine q_nil_p rfl rfl rfl rfl ?_
      refine q_field (k := 0) rfl rfl rfl rfl Try.underlying91 rfl Try.sizeOf88 rfl ?_
      refine q_load_c (j := 0) rfl rfl rfl rfl Try.isAgg88 (by with_reducible (repeat (first | exact Z0 | apply Z1))) (by first | rfl | exact (Nat.add_zero _).symm) (by rfl) ?_
      refine q_loadN_c rfl rfl rfl rfl Try.isAgg40 Try.sizeOf40 (by with_reducible (repeat (first | exact Z0 | apply Z1))) 0 (us := [_, _, _]) (by first | rfl | exact (Nat.add_zero _).symm) rfl rfl ?_
      have sp_15 := next_spec pa pc po poc vb x.v hx.v hn pl hpl k t o hvc
      refine l_call rfl rfl rfl rfl rfl rfl Try.call49 (sp_15) (by (repeat ((with_reducible apply Z2); focus (first | (with_reducible (repeat (first | exact Z0 | apply Z1)); done) | (repeat (first | exact Z0 | apply Z1))))); exact Z3) ?_
      rintro ⟨⟩ -
      try simp only [List.cons_append, List.nil_append]
      refine ag_nil ?_
      refine r_done ?_
      refine s_keep [] (e' := []) rfl ?_
      refine k_then_n ?_
      refine c_seq ?_
      refine c_plain (.q 0 (.done)) (by kernel_rfl) ?_
      refine q_assign rfl rfl rfl rfl ?_
      refine r_done ?_
      refine k_then_n ?_
      refine c_ret ?_
      have hrc : raceF k l w := .inr hr2
      have hacw : acW x.v.ck.n k t l w = (w.1, (stL w.2.1 t.toNat (l.getD t.toNat 0)), x.v.ck.n, true) := by
        unfold acW
        rw [if_pos k2, if_pos k2]
        have hfg2 : fg = false := by simpa using hfg
        rw [if_pos ⟨hrc, e2.trans hfg2⟩, decide_eq_true hrc, Bool.or_true]
      refine d_fold (b := b) (deF x k t o) (pa := pa) (pc := pc) (po := po) (poc := poc) (vb := vb) (va := va) (vc := vc) (V := (V.set o.toNat (some ⟨rb, 0, none⟩, some ⟨wb, 0, none⟩, x.v.ck.n, true))) (by (repeat ((with_reducible apply Z2); focus (first | (with_reducible (repeat (first | exact Z0 | apply Z1)); done) | (repeat (first | exact Z0 | apply Z1))))); exact Z3) (by rw [de_acc hvc (by omega) hw hth, hacw]; congr 1; omega) (by simp) (by first | exact (by simp [hV]) | simp) ?_
      refine ret1 rfl rfl (()) (by rw [show deE x k t o = 0 from if_pos hvc]) (by trivial) ?_
      (repeat ((with_reducible apply Z2); focus (first | (with_reducible (repeat (first | exact Z0 | apply Z1)); done) | (repeat (first | exact Z0 | apply Z1))))); (repeat (first | exact Z3 | exact Takes.self | refine takes_drop2 ?_))
     ·
      try simp only [Bool.and_eq_true, Bool.or_eq_true, Bool.not_eq_true', Bool.not_eq_false', Bool.and_eq_false_iff, Bool.or_eq_false_iff, decide_eq_true_eq, decide_eq_false_iff_not] at hfg
      refine c_skip ?_
      refine k_then_n ?_
      refine c_seq ?_
      refine c_plain (.q 0 (.q 1 (.q 2 (.q 3 (.q 4 (.done)))))) (by kernel_rfl) ?_
      refine q_move rfl rfl rfl rfl ?_
      refine q_nil_p rfl rfl rfl rfl ?_
      refine q_field (k := 0) rfl rfl rfl rfl Try.underlying99 rfl Try.sizeOf82 rfl ?_
      refine q_load_O (v := (.pointer (some ⟨rb, 0, none⟩))) (j := 0) (k' := o.toNat) (enc := encV) (off := io67) rfl rfl rfl rfl Try.isAgg82 ha67 encV_len hv (by with_reducible (repeat (first | exact Z0 | apply Z1))) (by first | rfl | exact (Nat.add_zero _).symm | omega) (by rfl) ?_
      refine q_assign rfl rfl rfl rfl ?_
      refine r_done ?_
      refine s_keep [0, 3, 7, 8] (e' := [(0, _), (3, _), (7, _), (8, _)]) rfl ?_
      refine k_then_n ?_
      refine c_seq ?_
      refine c_seq ?_
      refine c_plain (.q 0 (.q 1 (.q 2 (.done)))) (by kernel_rfl) ?_
      refine q_field (k := 0) rfl rfl rfl rfl Try.underlying40 rfl Try.sizeOf38 rfl ?_
      refine q_load_c (j := 0) rfl rfl rfl rfl Try.isAgg38 (by with_reducible (repeat (first | exact Z0 | apply Z1))) (by first | rfl | exact (Nat.add_zero _).symm) (by rfl) ?_
      refine q_int rfl rfl rfl rfl rfl (b_eql _ _ _ _) ?_
      refine r_done ?_
      refine k_then_n ?_
      refine c_cond_p rfl (fun h9 => ?_) (fun h9 => by exfalso; omega)
      refine c_plain (.q 0 (.q 1 (.q 2 (.q 3 (.q 4 (.done)))))) (by kernel_rfl) ?_
      refine q_move rfl rfl rfl rfl ?_
      refine q_nil_p rfl rfl rfl rfl ?_
      refine q_field (k := 1) rfl rfl rfl rfl Try.underlying99 rfl Try.sizeOf82 rfl ?_
      refine q_load_O (v := (.pointer (some ⟨wb, 0, none⟩))) (j := 1) (k' := o.toNat) (enc := encV) (off := io67) rfl rfl rfl rfl Try.isAgg82 ha67 encV_len hv (by with_reducible (repeat (first | exact Z0 | apply Z1))) (by first | rfl | exact (Nat.add_zero _).symm | omega) (by rfl) ?_
      refine q_assign rfl rfl rfl rfl ?_
      refine r_done ?_
      refine s_keep [0, 3, 8] (e' := [(0, _), (3, _), (8, _)]) rfl ?_
      refine k_then_n ?_
      refine c_draw rfl (.q 0 (.q 1 (.q 2 (.q 3 (.q 4 (.q 5 (.q 6 (.q 7 (.q 8 ((.l 9 [2] ((.l 10 [] (.done)))))))))))))) (by kernel_rfl) ?_
      refine q_move rfl rfl rfl rfl ?_
      refine q_field (k := 1) rfl rfl rfl rfl Try.underlying40 rfl Try.sizeOf3 rfl ?_
      refine q_load_c (j := 1) rfl rfl rfl rfl Try.isAgg3 (by with_reducible (repeat (first | exact Z0 | apply Z1))) (by first | rfl | exact (Nat.add_zero _).symm) (by rfl) ?_
      refine q_move rfl rfl rfl rfl ?_
      refine q_nil_p rfl rfl rfl rfl ?_
      refine q_field (k := 0) rfl rfl rfl rfl Try.underlying91 rfl Try.sizeOf88 rfl ?_
      refine q_load_c (j := 0) rfl rfl rfl rfl Try.isAgg88 (by with_reducible (repeat (first | exact Z0 | apply Z1))) (by first | rfl | exact (Nat.add_zero _).symm) (by rfl) ?_
      refine q_field (k := 1) rfl rfl rfl rfl Try.underlying40 rfl Try.sizeOf3 rfl ?_
      refine q_load_c (j := 1) rfl rfl rfl rfl Try.isAgg3 (by with_reducible (repeat (first | exact Z0 | apply Z1))) (by first | rfl | exact (Nat.add_zero _).symm) (by rfl) ?_
      have sp_16 := clock_spec vb m1 (.pointer (some ⟨cb, 0, none⟩)) (.slice po x.v.ck.pa.length poc) (.map (some m2)) (.map (some m3)) (.map (some m4)) F1 tb (ta) (tc) l t (by omega) htF
      refine l_call rfl rfl rfl rfl rfl rfl Try.call48 (sp_16) (by (repeat ((with_reducible apply Z2); focus (first | (with_reducible (repeat (first | exact Z0 | apply Z1)); done) | (repeat (first | exact Z0 | apply Z1))))); exact Z3) ?_
      rintro ⟨⟩ -
      try simp only [List.cons_append, List.nil_append]
      refine ag_load_c (q := 1) rfl rfl rfl Try.isAgg3 (by with_reducible (repeat (first | exact Z0 | apply Z1))) (by first | rfl | exact (Nat.add_zero _).symm) (by rfl) ?_
      refine ag_nil ?_
      have sp_17 := set_z wb w.2.1 wa w.2.1.length wc (by first | rfl | assumption | omega | (simp; done) | (simp; omega)) hww t (by omega) (by omega) (l.getD t.toNat 0) (by exact hgr.1) (by exact hgr.2)
      refine l_call rfl rfl rfl rfl rfl rfl Try.call47 (sp_17) (by (repeat ((with_reducible apply Z2); focus (first | (with_reducible (repeat (first | exact Z0 | apply Z1)); done) | (repeat (first | exact Z0 | apply Z1))))); exact Z3) ?_
      rintro ⟨za, zc⟩ -
      try simp only [List.cons_append, List.nil_append]
      refine ag_nil ?_
      refine r_done ?_
      refine s_vecF rb ra rc w.1 (by (repeat ((with_reducible apply Z2); focus (first | (with_reducible (repeat (first | exact Z0 | apply Z1)); done) | (repeat (first | exact Z0 | apply Z1))))); exact Z3) ?_
      refine s_vecF wb za zc (stL w.2.1 t.toNat (l.getD t.toNat 0)) (by (repeat ((with_reducible apply Z2); focus (first | (with_reducible (repeat (first | exact Z0 | apply Z1)); done) | (repeat (first | exact Z0 | apply Z1))))); exact Z3) ?_
      refine s_varF (some ⟨rb, 0, none⟩, some ⟨wb, 0, none⟩, fl, fg) (w.1, (stL w.2.1 t.toNat (l.getD t.toNat 0)), fl, fg) (by (repeat ((with_reducible apply Z2); focus (first | (with_reducible (repeat (first | exact Z0 | apply Z1)); done) | (repeat (first | exact Z0 | apply Z1))))); exact Z3) rfl ?_
      refine s_restL_put (res := varA) (V := V) (Y := x.vs) (S := []) o.toNat (some ⟨rb, 0, none⟩, some ⟨wb, 0, none⟩, fl, fg) (w.1, (stL w.2.1 t.toNat (l.getD t.toNat 0)), fl, fg) (by (repeat ((with_reducible apply Z2); focus (first | (with_reducible (repeat (first | exact Z0 | apply Z1)); done) | (repeat (first | exact Z0 | apply Z1))))); exact Z3) (by simp) (List.getElem?_eq_some_iff.1 hv).1 (by omega) ?_
      rw [set_same hv]
      refine s_keep [0, 3] (e' := [(0, _), (3, _)]) rfl ?_
      refine k_then_n ?_
      refine c_exit ?_
      refine k_blk_here ?_
      refine k_then_n ?_
      refine c_seq ?_
      refine s_vecF tb ta tc l (by (repeat ((with_reducible apply Z2); focus (first | (with_reducible (repeat (first | exact Z0 | apply Z1)); done) | (repeat (first | exact Z0 | apply Z1))))); exact Z3) ?_
      refine s_rest_put (F := F1) (T := x.v.th) (S := []) t F1 x.v.th (by (repeat ((with_reducible apply Z2); focus (first | (with_reducible (repeat (first | exact Z0 | apply Z1)); done) | (repeat (first | exact Z0 | apply Z1))))); exact Z3) (by simp) htF (fun _ _ _ => rfl) hth (fun _ _ _ => rfl) ?_
      refine vs_fold (b := vb) x.v (pa := pa) (pc := pc) (po := po) (poc := poc) (cb := cb) (m1 := m1) (m2 := m2) (m3 := m3) (m4 := m4) (by (repeat ((with_reducible apply Z2); focus (first | (with_reducible (repeat (first | exact Z0 | apply Z1)); done) | (repeat (first | exact Z0 | apply Z1))))); exact Z3) (by rfl) (by rfl) ?_
      refine c_draw rfl (.q 0 (.q 1 (.q 2 (.q 3 (.q 4 ((.l 5 [] (.done)))))))) (by kernel_rfl) ?_
      refine q_move rfl rfl rfl rfl ?_
      refine q_nil_p rfl rfl rfl rfl ?_
      refine q_field (k := 0) rfl rfl rfl rfl Try.underlying91 rfl Try.sizeOf88 rfl ?_
      refine q_load_c (j := 0) rfl rfl rfl rfl Try.isAgg88 (by with_reducible (repeat (first | exact Z0 | apply Z1))) (by first | rfl | exact (Nat.add_zero _).symm) (by rfl) ?_
      refine q_loadN_c rfl rfl rfl rfl Try.isAgg40 Try.sizeOf40 (by with_reducible (repeat (first | exact Z0 | apply Z1))) 0 (us := [_, _, _]) (by first | rfl | exact (Nat.add_zero _).symm) rfl rfl ?_
      have sp_18 := next_spec pa pc po poc vb x.v hx.v hn pl hpl k t o hvc
      refine l_call rfl rfl rfl rfl rfl rfl Try.call49 (sp_18) (by (repeat ((with_reducible apply Z2); focus (first | (with_reducible (repeat (first | exact Z0 | apply Z1)); done) | (repeat (first | exact Z0 | apply Z1))))); exact Z3) ?_
      rintro ⟨⟩ -
      try simp only [List.cons_append, List.nil_append]
      refine ag_nil ?_
      refine r_done ?_
      refine s_keep [] (e' := []) rfl ?_
      refine k_then_n ?_
      refine c_seq ?_
      refine c_plain (.q 0 (.done)) (by kernel_rfl) ?_
      refine q_assign rfl rfl rfl rfl ?_
      refine r_done ?_
      refine k_then_n ?_
      refine c_ret ?_
      have hrc : raceF k l w := .inr hr2
      have hacw : acW x.v.ck.n k t l w = (w.1, (stL w.2.1 t.toNat (l.getD t.toNat 0)), fl, fg) := by
        unfold acW
        rw [if_pos k2, if_pos k2]
        have hfg2 : fg = true := by simpa using hfg
        rw [if_neg (fun h => by rw [e2, hfg2] at h; exact absurd h.2 (by decide)), e1, e2, hfg2, Bool.true_or]
      refine d_fold (b := b) (deF x k t o) (pa := pa) (pc := pc) (po := po) (poc := poc) (vb := vb) (va := va) (vc := vc) (V := V) (by (repeat ((with_reducible apply Z2); focus (first | (with_reducible (repeat (first | exact Z0 | apply Z1)); done) | (repeat (first | exact Z0 | apply Z1))))); exact Z3) (by rw [de_acc hvc (by omega) hw hth, hacw]; congr 1; omega) (by simp) (by first | exact (by simp [hV]) | simp) ?_
      refine ret1 rfl rfl (()) (by rw [show deE x k t o = 0 from if_pos hvc]) (by trivial) ?_
      (repeat ((with_reducible apply Z2); focus (first | (with_reducible (repeat (first | exact Z0 | apply Z1)); done) | (repeat (first | exact Z0 | apply Z1))))); (repeat (first | exact Z3 | exact Takes.self | refine takes_drop2 ?_))
    ·
     refine q_skip rfl rfl rfl rfl ?_
     refine q_skip rfl rfl rfl rfl ?_
     refine q_skip rfl rfl rfl rfl ?_
     refine q_skip rfl rfl rfl rfl ?_
     refine q_skip rfl rfl rfl rfl ?_
     refine q_pick_f rfl rfl rfl rfl rfl ?_
     refine r_done ?_
     refine s_keep [0, 3, 7, 85] (e' := [(0, _), (3, _), (7, _), (85, _)]) rfl ?_
     refine k_then_n ?_
     refine c_cond_f rfl ?_
     refine c_skip ?_
     refine k_then_n ?_
     refine c_seq ?_
     refine c_plain (.q 0 (.q 1 (.q 2 (.q 3 (.q 4 (.done)))))) (by kernel_rfl) ?_
     refine q_move rfl rfl rfl rfl ?_
     refine q_nil_p rfl rfl rfl rfl ?_
     refine q_field (k := 0) rfl rfl rfl rfl Try.underlying99 rfl Try.sizeOf82 rfl ?_
     refine q_load_O (v := (.pointer (some ⟨rb, 0, none⟩))) (j := 0) (k' := o.toNat) (enc := encV) (off := io67) rfl rfl rfl rfl Try.isAgg82 ha67 encV_len hv (by with_reducible (repeat (first | exact Z0 | apply Z1))) (by first | rfl | exact (Nat.add_zero _).symm | omega) (by rfl) ?_
     refine q_assign rfl rfl rfl rfl ?_
     refine r_done ?_
     refine s_keep [0, 3, 7, 8] (e' := [(0, _), (3, _), (7, _), (8, _)]) rfl ?_
     refine k_then_n ?_
     refine c_seq ?_
     refine c_seq ?_
     refine c_plain (.q 0 (.q 1 (.q 2 (.done)))) (by kernel_rfl) ?_
     refine q_field (k := 0) rfl rfl rfl rfl Try.underlying40 rfl Try.sizeOf38 rfl ?_
     refine q_load_c (j := 0) rfl rfl rfl rfl Try.isAgg38 (by with_reducible (repeat (first | exact Z0 | apply Z1))) (by first | rfl | exact (Nat.add_zero _).symm) (by rfl) ?_
     refine q_int rfl rfl rfl rfl rfl (b_eql _ _ _ _) ?_
     refine r_done ?_
     refine k_then_n ?_
     refine c_cond_p rfl (fun h9 => ?_) (fun h9 => by exfalso; omega)
     refine c_plain (.q 0 (.q 1 (.q 2 (.q 3 (.q 4 (.done)))))) (by kernel_rfl) ?_
     refine q_move rfl rfl rfl rfl ?_
     refine q_nil_p rfl rfl rfl rfl ?_
     refine q_field (k := 1) rfl rfl rfl rfl Try.underlying99 rfl Try.sizeOf82 rfl ?_
     refine q_load_O (v := (.pointer (some ⟨wb, 0, none⟩))) (j := 1) (k' := o.toNat) (enc := encV) (off := io67) rfl rfl rfl rfl Try.isAgg82 ha67 encV_len hv (by with_reducible (repeat (first | exact Z0 | apply Z1))) (by first | rfl | exact (Nat.add_zero _).symm | omega) (by rfl) ?_
     refine q_assign rfl rfl rfl rfl ?_
     refine r_done ?_
     refine s_keep [0, 3, 8] (e' := [(0, _), (3, _), (8, _)]) rfl ?_
     refine k_then_n ?_
     refine c_draw rfl (.q 0 (.q 1 (.q 2 (.q 3 (.q 4 (.q 5 (.q 6 (.q 7 (.q 8 ((.l 9 [2] ((.l 10 [] (.done)))))))))))))) (by kernel_rfl) ?_
     refine q_move rfl rfl rfl rfl ?_
     refine q_field (k := 1) rfl rfl rfl rfl Try.underlying40 rfl Try.sizeOf3 rfl ?_
     refine q_load_c (j := 1) rfl rfl rfl rfl Try.isAgg3 (by with_reducible (repeat (first | exact Z0 | apply Z1))) (by first | rfl | exact (Nat.add_zero _).symm) (by rfl) ?_
     refine q_move rfl rfl rfl rfl ?_
     refine q_nil_p rfl rfl rfl rfl ?_
     refine q_field (k := 0) rfl rfl rfl rfl Try.underlying91 rfl Try.sizeOf88 rfl ?_
     refine q_load_c (j := 0) rfl rfl rfl rfl Try.isAgg88 (by with_reducible (repeat (first | exact Z0 | apply Z1))) (by first | rfl | exact (Nat.add_zero _).symm) (by rfl) ?_
     refine q_field (k := 1) rfl rfl rfl rfl Try.underlying40 rfl Try.sizeOf3 rfl ?_
     refine q_load_c (j := 1) rfl rfl rfl rfl Try.isAgg3 (by with_reducible (repeat (first | exact Z0 | apply Z1))) (by first | rfl | exact (Nat.add_zero _).symm) (by rfl) ?_
     have sp_19 := clock_spec vb m1 (.pointer (some ⟨cb, 0, none⟩)) (.slice po x.v.ck.pa.length poc) (.map (some m2)) (.map (some m3)) (.map (some m4)) F1 tb (ta) (tc) l t (by omega) htF
     refine l_call rfl rfl rfl rfl rfl rfl Try.call48 (sp_19) (by (repeat ((with_reducible apply Z2); focus (first | (with_reducible (repeat (first | exact Z0 | apply Z1)); done) | (repeat (first | exact Z0 | apply Z1))))); exact Z3) ?_
     rintro ⟨⟩ -
     try simp only [List.cons_append, List.nil_append]
     refine ag_load_c (q := 1) rfl rfl rfl Try.isAgg3 (by with_reducible (repeat (first | exact Z0 | apply Z1))) (by first | rfl | exact (Nat.add_zero _).symm) (by rfl) ?_
     refine ag_nil ?_
     have sp_20 := set_z wb w.2.1 wa w.2.1.length wc (by first | rfl | assumption | omega | (simp; done) | (simp; omega)) hww t (by omega) (by omega) (l.getD t.toNat 0) (by exact hgr.1) (by exact hgr.2)
     refine l_call rfl rfl rfl rfl rfl rfl Try.call47 (sp_20) (by (repeat ((with_reducible apply Z2); focus (first | (with_reducible (repeat (first | exact Z0 | apply Z1)); done) | (repeat (first | exact Z0 | apply Z1))))); exact Z3) ?_
     rintro ⟨za, zc⟩ -
     try simp only [List.cons_append, List.nil_append]
     refine ag_nil ?_
     refine r_done ?_
     refine s_vecF rb ra rc w.1 (by (repeat ((with_reducible apply Z2); focus (first | (with_reducible (repeat (first | exact Z0 | apply Z1)); done) | (repeat (first | exact Z0 | apply Z1))))); exact Z3) ?_
     refine s_vecF wb za zc (stL w.2.1 t.toNat (l.getD t.toNat 0)) (by (repeat ((with_reducible apply Z2); focus (first | (with_reducible (repeat (first | exact Z0 | apply Z1)); done) | (repeat (first | exact Z0 | apply Z1))))); exact Z3) ?_
     refine s_varF (some ⟨rb, 0, none⟩, some ⟨wb, 0, none⟩, fl, fg) (w.1, (stL w.2.1 t.toNat (l.getD t.toNat 0)), fl, fg) (by (repeat ((with_reducible apply Z2); focus (first | (with_reducible (repeat (first | exact Z0 | apply Z1)); done) | (repeat (first | exact Z0 | apply Z1))))); exact Z3) rfl ?_
     refine s_restL_put (res := varA) (V := V) (Y := x.vs) (S := []) o.toNat (some ⟨rb, 0, none⟩, some ⟨wb, 0, none⟩, fl, fg) (w.1, (stL w.2.1 t.toNat (l.getD t.toNat 0)), fl, fg) (by (repeat ((with_reducible apply Z2); focus (first | (with_reducible (repeat (first | exact Z0 | apply Z1)); done) | (repeat (first | exact Z0 | apply Z1))))); exact Z3) (by simp) (List.getElem?_eq_some_iff.1 hv).1 (by omega) ?_
     rw [set_same hv]
     refine s_keep [0, 3] (e' := [(0, _), (3, _)]) rfl ?_
     refine k_then_n ?_
     refine c_exit ?_
     refine k_blk_here ?_
     refine k_then_n ?_
     refine c_seq ?_
     refine s_vecF tb ta tc l (by (repeat ((with_reducible apply Z2); focus (first | (with_reducible (repeat (first | exact Z0 | apply Z1)); done) | (repeat (first | exact Z0 | apply Z1))))); exact Z3) ?_
     refine s_rest_put (F := F1) (T := x.v.th) (S := []) t F1 x.v.th (by (repeat ((with_reducible apply Z2); focus (first | (with_reducible (repeat (first | exact Z0 | apply Z1)); done) | (repeat (first | exact Z0 | apply Z1))))); exact Z3) (by simp) htF (fun _ _ _ => rfl) hth (fun _ _ _ => rfl) ?_
     refine vs_fold (b := vb) x.v (pa := pa) (pc := pc) (po := po) (poc := poc) (cb := cb) (m1 := m1) (m2 := m2) (m3 := m3) (m4 := m4) (by (repeat ((with_reducible apply Z2); focus (first | (with_reducible (repeat (first | exact Z0 | apply Z1)); done) | (repeat (first | exact Z0 | apply Z1))))); exact Z3) (by rfl) (by rfl) ?_
     refine c_draw rfl (.q 0 (.q 1 (.q 2 (.q 3 (.q 4 ((.l 5 [] (.done)))))))) (by kernel_rfl) ?_
     refine q_move rfl rfl rfl rfl ?_
     refine q_nil_p rfl rfl rfl rfl ?_
     refine q_field (k := 0) rfl rfl rfl rfl Try.underlying91 rfl Try.sizeOf88 rfl ?_
     refine q_load_c (j := 0) rfl rfl rfl rfl Try.isAgg88 (by with_reducible (repeat (first | exact Z0 | apply Z1))) (by first | rfl | exact (Nat.add_zero _).symm) (by rfl) ?_
     refine q_loadN_c rfl rfl rfl rfl Try.isAgg40 Try.sizeOf40 (by with_reducible (repeat (first | exact Z0 | apply Z1))) 0 (us := [_, _, _]) (by first | rfl | exact (Nat.add_zero _).symm) rfl rfl ?_
     have sp_21 := next_spec pa pc po poc vb x.v hx.v hn pl hpl k t o hvc
     refine l_call rfl rfl rfl rfl rfl rfl Try.call49 (sp_21) (by (repeat ((with_reducible apply Z2); focus (first | (with_reducible (repeat (first | exact Z0 | apply Z1)); done) | (repeat (first | exact Z0 | apply Z1))))); exact Z3) ?_
     rintro ⟨⟩ -
     try simp only [List.cons_append, List.nil_append]
     refine ag_nil ?_
     refine r_done ?_
     refine s_keep [] (e' := []) rfl ?_
     refine k_then_n ?_
     refine c_seq ?_
     refine c_plain (.q 0 (.done)) (by kernel_rfl) ?_
     refine q_assign rfl rfl rfl rfl ?_
     refine r_done ?_
     refine k_then_n ?_
     refine c_ret ?_
     have hrc : ¬ raceF k l w := by
       rintro (⟨h8, h9⟩ | h9)
       · first | exact h9 (Classical.byContradiction hr1) | exact absurd (k1.symm.trans h8) (by decide) | exact hr1 h9 | exact h9 hr1
       · first | exact h9 (Classical.byContradiction hr2) | exact hr2 h9 | exact h9 hr2
     have hacw : acW x.v.ck.n k t l w = (w.1, (stL w.2.1 t.toNat (l.getD t.toNat 0)), fl, fg) := by
       unfold acW
       rw [if_pos k2, if_pos k2]
       rw [if_neg (fun h => hrc h.1), e1, e2, decide_eq_false hrc, Bool.or_false]
     refine d_fold (b := b) (deF x k t o) (pa := pa) (pc := pc) (po := po) (poc := poc) (vb := vb) (va := va) (vc := vc) (V := V) (by (repeat ((with_reducible apply Z2); focus (first | (with_reducible (repeat (first | exact Z0 | apply Z1)); done) | (repeat (first | exact Z0 | apply Z1))))); exact Z3) (by rw [de_acc hvc (by omega) hw hth, hacw]; congr 1; omega) (by simp) (by first | exact (by simp [hV]) | simp) ?_
     refine ret1 rfl rfl (()) (by rw [show deE x k t o = 0 from if_pos hvc]) (by trivial) ?_
     (repeat ((with_reducible apply Z2); focus (first | (with_reducible (repeat (first | exact Z0 | apply Z1)); done) | (repeat (first | exact Z0 | apply Z1))))); (repeat (first | exact Z3 | exact Takes.self | refine takes_drop2 ?_))
  ·
   refine c_skip ?_
   refine k_then_n ?_
   refine c_seq ?_
   refine c_plain (.q 0 (.q 1 (.done))) (by kernel_rfl) ?_
   refine q_int rfl rfl rfl rfl rfl (b_eql _ _ _ _) ?_
   refine q_assign rfl rfl rfl rfl ?_
   refine r_done ?_
   refine s_keep [0, 3, 5, 6, 33] (e' := [(0, _), (3, _), (5, _), (6, _), (33, _)]) rfl ?_
   refine k_then_n ?_
   refine c_cond_p rfl (fun k1 => ?_) (fun k1 => ?_)
   ·
    refine c_exit ?_
    refine k_then_exit ?_
    refine k_blk_out rfl ?_
    refine k_then_exit ?_
    refine k_blk_here ?_
    refine k_then_n ?_
    refine c_seq ?_
    refine c_seq ?_
    refine c_plain (.q 0 (.q 1 (.q 2 (.q 3 (.q 4 (.q 5 (.q 6 ((.l 7 [] (.done)))))))))) (by kernel_rfl) ?_
    refine q_move rfl rfl rfl rfl ?_
    refine q_nil_p rfl rfl rfl rfl ?_
    refine q_field (k := 2) rfl rfl rfl rfl Try.underlying91 rfl Try.sizeOf3 rfl ?_
    refine q_load_c (j := 2) rfl rfl rfl rfl Try.isAgg3 (by with_reducible (repeat (first | exact Z0 | apply Z1))) (by first | rfl | exact (Nat.add_zero _).symm) (by rfl) ?_
    refine q_int rfl rfl rfl rfl rfl (b_add' _ (by exact fits_i64 (by omega) (by omega))) ?_
    refine q_nil_p rfl rfl rfl rfl ?_
    refine q_field (k := 2) rfl rfl rfl rfl Try.underlying91 rfl Try.sizeOf3 rfl ?_
    refine l_store (j := 2) rfl rfl rfl rfl Try.sizeOf3 (us := [_]) rfl rfl rfl (by with_reducible (repeat (first | exact Z0 | apply Z1))) (by first | rfl | exact (Nat.add_zero _).symm) (by first | decide | (simp; done) | omega) ?_
    simp only [setL, List.set]
    refine ag_nil ?_
    refine r_done ?_
    refine s_keep [0, 3, 5, 6] (e' := [(0, _), (3, _), (5, _), (6, _)]) rfl ?_
    refine k_then_n ?_
    refine c_seq ?_
    obtain ⟨p0, p1⟩ := acc_obj hvc.1 (by omega)
    obtain ⟨w, hw⟩ := get_lt (l := x.vs) (i := o.toNat) (by omega)
    obtain ⟨hwr, hww⟩ := hx.vs w (List.mem_of_getElem? hw)
    refine s_restL_take (res := varA) (V := V) (Y := x.vs) (S := []) o.toNat (by with_reducible (repeat (first | exact Z0 | apply Z1))) (by simp) hw fun v_ hv => ?_
    obtain ⟨va_, vb_, fl, fg⟩ := v_
    refine s_var (by with_reducible (repeat (first | exact Z0 | apply Z1))) fun hf => ?_
    refine s_vec (by with_reducible (repeat (first | exact Z0 | apply Z1))) fun rb ra rc hra_ => ?_
    simp only at hra_
    subst hra_
    refine s_vec (by first | (with_reducible (repeat (first | exact Z0 | apply Z1)); done) | (repeat (first | exact Z0 | apply Z1))) fun wb wa wc hwa_ => ?_
    simp only at hwa_
    subst hwa_
    simp only at hf
    have e1 : w.2.2.1 = fl := by rw [← hf]
    have e2 : w.2.2.2 = fg := by rw [← hf]
    have hgr := g_rng hlc.rng (by decide) t.toNat
    refine c_draw rfl (.q 0 (.q 1 (.q 2 (.q 3 (.q 4 (.q 5 (.q 6 (.q 7 (.done))))))))) (by kernel_rfl) ?_
    refine q_move rfl rfl rfl rfl ?_
    refine q_nil_p rfl rfl rfl rfl ?_
    refine q_field (k := 1) rfl rfl rfl rfl Try.underlying91 rfl Try.sizeOf89 rfl ?_
    refine q_load_c (j := 1) rfl rfl rfl rfl Try.isAgg89 (by with_reducible (repeat (first | exact Z0 | apply Z1))) (by first | rfl | exact (Nat.add_zero _).symm) (by rfl) ?_
    refine q_field (k := 2) rfl rfl rfl rfl Try.underlying40 rfl Try.sizeOf3 rfl ?_
    refine q_load_c (j := 2) rfl rfl rfl rfl Try.isAgg3 (by with_reducible (repeat (first | exact Z0 | apply Z1))) (by first | rfl | exact (Nat.add_zero _).symm) (by rfl) ?_
    refine q_idxO (sz := 3) (k := o.toNat) (enc := encV) (xs := V) rfl rfl rfl rfl rfl Try.underlying89 Try.sizeOf99 hv (by first | rfl | omega) (by omega) (by with_reducible (repeat (first | exact Z0 | apply Z1))) ?_
    intro ib67 io67 ha67 hl67 hc67
    refine q_assign rfl rfl rfl rfl ?_
    refine r_done ?_
    refine s_keep [0, 3, 5, 6, 7] (e' := [(0, _), (3, _), (5, _), (6, _), (7, _)]) rfl ?_
    refine k_then_n ?_
    refine c_seq ?_
    refine c_plain (.q 0 (.q 1 (.q 2 (.q 3 (.q 4 (.q 5 (.q 6 ((.l 7 [] (.q 8 (.q 9 (.q 10 (.done))))))))))))) (by kernel_rfl) ?_
    refine q_move rfl rfl rfl rfl ?_
    refine q_move rfl rfl rfl rfl ?_
    refine q_move rfl rfl rfl rfl ?_
    refine q_nil_p rfl rfl rfl rfl ?_
    refine q_field (k := 1) rfl rfl rfl rfl Try.underlying99 rfl Try.sizeOf82 rfl ?_
    refine q_load_O (v := (.pointer (some ⟨wb, 0, none⟩))) (j := 1) (k' := o.toNat) (enc := encV) (off := io67) rfl rfl rfl rfl Try.isAgg82 ha67 encV_len hv (by with_reducible (repeat (first | exact Z0 | apply Z1))) (by first | rfl | exact (Nat.add_zero _).symm | omega) (by rfl) ?_
    refine q_move rfl rfl rfl rfl ?_
    have sp_22 := Vc.leq_spec wb tb w.2.1 l wa ta w.2.1.length wc l.length tc (by rfl) (by rfl) hww hlc
    refine l_call rfl rfl rfl rfl rfl rfl Try.call45 (sp_22) (by (repeat ((with_reducible apply Z2); focus (first | (with_reducible (repeat (first | exact Z0 | apply Z1)); done) | (repeat (first | exact Z0 | apply Z1))))); exact Z3) ?_
    rintro ⟨⟩ -
    try simp only [List.cons_append, List.nil_append]
    refine ag_nil ?_
    refine q_not rfl rfl rfl rfl ?_
    refine q_pick_f rfl rfl rfl rfl rfl ?_
    refine q_assign rfl rfl rfl rfl ?_
    refine r_done ?_
    refine s_keep [0, 3, 5, 7] (e' := [(0, _), (3, _), (5, _), (7, _)]) rfl ?_
    refine k_then_n ?_
    refine c_seq ?_
    refine c_seq ?_
    refine c_plain (.q 0 (.q 1 (.q 2 (.q 3 (.q 4 (.q 5 (.q 6 (.q 7 (.done))))))))) (by kernel_rfl) ?_
    refine q_move rfl rfl rfl rfl ?_
    refine q_move rfl rfl rfl rfl ?_
    refine s_bool_np 79 rfl (fun hr2 => ?_) (fun hr2 => ?_)
    ·
     refine q_move rfl rfl rfl rfl ?_
     refine q_nil_p rfl rfl rfl rfl ?_
     refine q_field (k := 3) rfl rfl rfl rfl Try.underlying99 rfl Try.sizeOf4 rfl ?_
     refine q_load_O (v := (.bool fg)) (j := 3) (k' := o.toNat) (enc := encV) (off := io67) rfl rfl rfl rfl Try.isAgg4 ha67 encV_len hv (by with_reducible (repeat (first | exact Z0 | apply Z1))) (by first | rfl | exact (Nat.add_zero _).symm | omega) (by rfl) ?_
     refine q_not rfl rfl rfl rfl ?_
     refine q_pick_t rfl rfl rfl rfl rfl ?_
     refine r_done ?_
     refine s_keep [0, 3, 7, 85] (e' := [(0, _), (3, _), (7, _), (85, _)]) rfl ?_
     refine k_then_n ?_
     refine c_cond rfl (fun hfg => ?_) (fun hfg => ?_)
     ·
      try simp only [Bool.and_eq_true, Bool.or_eq_true, Bool.not_eq_true', Bool.not_eq_false', Bool.and_eq_false_iff, Bool.or_eq_false_iff, decide_eq_true_eq, decide_eq_false_iff_not] at hfg
      refine c_plain (.q 0 (.q 1 (.q 2 (.q 3 (.q 4 (.q 5 (.q 6 (.q 7 (.q 8 ((.l 9 [] (.q 10 (.q 11 ((.l 12 [] (.q 13 (.q 14 ((.l 15 [] (.done)))))))))))))))))))) (by kernel_rfl) ?_
      refine q_move rfl rfl rfl rfl ?_
      refine q_move rfl rfl rfl rfl ?_
      refine q_move rfl rfl rfl rfl ?_
      refine q_nil_p rfl rfl rfl rfl ?_
      refine q_field (k := 0) rfl rfl rfl rfl Try.underlying91 rfl Try.sizeOf88 rfl ?_
      refine q_load_c (j := 0) rfl rfl rfl rfl Try.isAgg88 (by with_reducible (repeat (first | exact Z0 | apply Z1))) (by first | rfl | exact (Nat.add_zero _).symm) (by rfl) ?_
      refine q_nil_p rfl rfl rfl rfl ?_
      refine q_field (k := 0) rfl rfl rfl rfl Try.underlying87 rfl Try.sizeOf83 rfl ?_
      refine q_load_c (j := 0) rfl rfl rfl rfl Try.isAgg83 (by with_reducible (repeat (first | exact Z0 | apply Z1))) (by first | rfl | exact (Nat.add_zero _).symm) (by rfl) ?_
      have sp_23 := Fe.len_spec pa pc cb x.v.ck
      refine l_call rfl rfl rfl rfl rfl rfl Try.call46 (sp_23) (by (repeat ((with_reducible apply Z2); focus (first | (with_reducible (repeat (first | exact Z0 | apply Z1)); done) | (repeat (first | exact Z0 | apply Z1))))); exact Z3) ?_
      rintro ⟨⟩ -
      try simp only [List.cons_append, List.nil_append]
      refine ag_nil ?_
      refine q_nil_p rfl rfl rfl rfl ?_
      refine q_field (k := 2) rfl rfl rfl rfl Try.underlying99 rfl Try.sizeOf3 rfl ?_
      refine l_store_O (j := 2) (k := o.toNat) (q := (some ⟨rb, 0, none⟩, some ⟨wb, 0, none⟩, x.v.ck.n, fg)) (enc := encV) (off := io67) rfl rfl rfl rfl Try.sizeOf3 (us := [_]) rfl rfl rfl ha67 encV_len hv (by with_reducible (repeat (first | exact Z0 | apply Z1))) (by first | rfl | exact (Nat.add_zero _).symm | omega) (by first | decide | exact Nat.le_of_ble_eq_true rfl) (by rfl) ?_
      refine ag_nil ?_
      have hq1 : (V.set o.toNat (some ⟨rb, 0, none⟩, some ⟨wb, 0, none⟩, x.v.ck.n, fg))[o.toNat]? = some (some ⟨rb, 0, none⟩, some ⟨wb, 0, none⟩, x.v.ck.n, fg) := List.getElem?_set_self (by omega)
      refine q_nil_p rfl rfl rfl rfl ?_
      refine q_field (k := 3) rfl rfl rfl rfl Try.underlying99 rfl Try.sizeOf4 rfl ?_
      refine l_store_O (j := 3) (k := o.toNat) (q := (some ⟨rb, 0, none⟩, some ⟨wb, 0, none⟩, x.v.ck.n, true)) (enc := encV) (off := io67) rfl rfl rfl rfl Try.sizeOf4 (us := [_]) rfl rfl rfl ha67 encV_len hq1 (by with_reducible (repeat (first | exact Z0 | apply Z1))) (by first | rfl | exact (Nat.add_zero _).symm | omega) (by first | decide | exact Nat.le_of_ble_eq_true rfl) (by rfl) ?_
      refine ag_nil ?_
      have hq2 : ((V.set o.toNat (some ⟨rb, 0, none⟩, some ⟨wb, 0, none⟩, x.v.ck.n, fg)).set o.toNat (some ⟨rb, 0, none⟩, some ⟨wb, 0, none⟩, x.v.ck.n, true))[o.toNat]? = some (some ⟨rb, 0, none⟩, some ⟨wb, 0, none⟩, x.v.ck.n, true) := List.getElem?_set_self (by simp; omega)
      refine r_done ?_
      refine s_keep [0, 3, 7] (e' := [(0, _), (3, _), (7, _)]) rfl ?_
      refine k_then_n ?_
      refine c_seq ?_
      refine c_plain (.q 0 (.q 1 (.q 2 (.q 3 (.q 4 (.done)))))) (by kernel_rfl) ?_
      refine q_move rfl rfl rfl rfl ?_
      refine q_nil_p rfl rfl rfl rfl ?_
      refine q_field (k := 0) rfl rfl rfl rfl Try.underlying99 rfl Try.sizeOf82 rfl ?_
      refine q_load_O (v := (.pointer (some ⟨rb, 0, none⟩))) (j := 0) (k' := o.toNat) (enc := encV) (off := io67) rfl rfl rfl rfl Try.isAgg82 ha67 encV_len hq2 (by with_reducible (repeat (first | exact Z0 | apply Z1))) (by first | rfl | exact (Nat.add_zero _).symm | omega) (by rfl) ?_
      refine q_assign rfl rfl rfl rfl ?_
      refine r_done ?_
      refine s_keep [0, 3, 7, 8] (e' := [(0, _), (3, _), (7, _), (8, _)]) rfl ?_
      refine k_then_n ?_
      refine c_seq ?_
      refine c_seq ?_
      refine c_plain (.q 0 (.q 1 (.q 2 (.done)))) (by kernel_rfl) ?_
      refine q_field (k := 0) rfl rfl rfl rfl Try.underlying40 rfl Try.sizeOf38 rfl ?_
      refine q_load_c (j := 0) rfl rfl rfl rfl Try.isAgg38 (by with_reducible (repeat (first | exact Z0 | apply Z1))) (by first | rfl | exact (Nat.add_zero _).symm) (by rfl) ?_
      refine q_int rfl rfl rfl rfl rfl (b_eql _ _ _ _) ?_
      refine r_done ?_
      refine k_then_n ?_
      refine c_cond_p rfl (fun h9 => by exfalso; omega) (fun h9 => ?_)
      refine c_skip ?_
      refine k_then_n ?_
      refine c_draw rfl (.q 0 (.q 1 (.q 2 (.q 3 (.q 4 (.q 5 (.q 6 (.q 7 (.q 8 ((.l 9 [2] ((.l 10 [] (.done)))))))))))))) (by kernel_rfl) ?_
      refine q_move rfl rfl rfl rfl ?_
      refine q_field (k := 1) rfl rfl rfl rfl Try.underlying40 rfl Try.sizeOf3 rfl ?_
      refine q_load_c (j := 1) rfl rfl rfl rfl Try.isAgg3 (by with_reducible (repeat (first | exact Z0 | apply Z1))) (by first | rfl | exact (Nat.add_zero _).symm) (by rfl) ?_
      refine q_move rfl rfl rfl rfl ?_
      refine q_nil_p rfl rfl rfl rfl ?_
      refine q_field (k := 0) rfl rfl rfl rfl Try.underlying91 rfl Try.sizeOf88 rfl ?_
      refine q_load_c (j := 0) rfl rfl rfl rfl Try.isAgg88 (by with_reducible (repeat (first | exact Z0 | apply Z1))) (by first | rfl | exact (Nat.add_zero _).symm) (by rfl) ?_
      refine q_field (k := 1) rfl rfl rfl rfl Try.underlying40 rfl Try.sizeOf3 rfl ?_
      refine q_load_c (j := 1) rfl rfl rfl rfl Try.isAgg3 (by with_reducible (repeat (first | exact Z0 | apply Z1))) (by first | rfl | exact (Nat.add_zero _).symm) (by rfl) ?_
      have sp_24 := clock_spec vb m1 (.pointer (some ⟨cb, 0, none⟩)) (.slice po x.v.ck.pa.length poc) (.map (some m2)) (.map (some m3)) (.map (some m4)) F1 tb (ta) (tc) l t (by omega) htF
      refine l_call rfl rfl rfl rfl rfl rfl Try.call48 (sp_24) (by (repeat ((with_reducible apply Z2); focus (first | (with_reducible (repeat (first | exact Z0 | apply Z1)); done) | (repeat (first | exact Z0 | apply Z1))))); exact Z3) ?_
      rintro ⟨⟩ -
      try simp only [List.cons_append, List.nil_append]
      refine ag_load_c (q := 1) rfl rfl rfl Try.isAgg3 (by with_reducible (repeat (first | exact Z0 | apply Z1))) (by first | rfl | exact (Nat.add_zero _).symm) (by rfl) ?_
      refine ag_nil ?_
      have sp_25 := set_z rb w.1 ra w.1.length rc (by first | rfl | assumption | omega | (simp; done) | (simp; omega)) hwr t (by omega) (by omega) (l.getD t.toNat 0) (by exact hgr.1) (by exact hgr.2)
      refine l_call rfl rfl rfl rfl rfl rfl Try.call47 (sp_25) (by (repeat ((with_reducible apply Z2); focus (first | (with_reducible (repeat (first | exact Z0 | apply Z1)); done) | (repeat (first | exact Z0 | apply Z1))))); exact Z3) ?_
      rintro ⟨za, zc⟩ -
      try simp only [List.cons_append, List.nil_append]
      refine ag_nil ?_
      refine r_done ?_
      refine s_vecF rb za zc (stL w.1 t.toNat (l.getD t.toNat 0)) (by (repeat ((with_reducible apply Z2); focus (first | (with_reducible (repeat (first | exact Z0 | apply Z1)); done) | (repeat (first | exact Z0 | apply Z1))))); exact Z3) ?_
      refine s_vecF wb wa wc w.2.1 (by (repeat ((with_reducible apply Z2); focus (first | (with_reducible (repeat (first | exact Z0 | apply Z1)); done) | (repeat (first | exact Z0 | apply Z1))))); exact Z3) ?_
      refine s_varF (some ⟨rb, 0, none⟩, some ⟨wb, 0, none⟩, x.v.ck.n, true) ((stL w.1 t.toNat (l.getD t.toNat 0)), w.2.1, x.v.ck.n, true) (by (repeat ((with_reducible apply Z2); focus (first | (with_reducible (repeat (first | exact Z0 | apply Z1)); done) | (repeat (first | exact Z0 | apply Z1))))); exact Z3) rfl ?_
      refine s_restL_put (res := varA) (V := V) (Y := x.vs) (S := []) o.toNat (some ⟨rb, 0, none⟩, some ⟨wb, 0, none⟩, x.v.ck.n, true) ((stL w.1 t.toNat (l.getD t.toNat 0)), w.2.1, x.v.ck.n, true) (by (repeat ((with_reducible apply Z2); focus (first | (with_reducible (repeat (first | exact Z0 | apply Z1)); done) | (repeat (first | exact Z0 | apply Z1))))); exact Z3) (by simp) (List.getElem?_eq_some_iff.1 hv).1 (by omega) ?_
      rw [set_set]
      refine s_keep [0, 3] (e' := [(0, _), (3, _)]) rfl ?_
      refine k_then_n ?_
      refine c_exit ?_
      refine k_blk_here ?_
      refine k_then_n ?_
      refine c_seq ?_
      refine s_vecF tb ta tc l (by (repeat ((with_reducible apply Z2); focus (first | (with_reducible (repeat (first | exact Z0 | apply Z1)); done) | (repeat (first | exact Z0 | apply Z1))))); exact Z3) ?_
      refine s_rest_put (F := F1) (T := x.v.th) (S := []) t F1 x.v.th (by (repeat ((with_reducible apply Z2); focus (first | (with_reducible (repeat (first | exact Z0 | apply Z1)); done) | (repeat (first | exact Z0 | apply Z1))))); exact Z3) (by simp) htF (fun _ _ _ => rfl) hth (fun _ _ _ => rfl) ?_
      refine vs_fold (b := vb) x.v (pa := pa) (pc := pc) (po := po) (poc := poc) (cb := cb) (m1 := m1) (m2 := m2) (m3 := m3) (m4 := m4) (by (repeat ((with_reducible apply Z2); focus (first | (with_reducible (repeat (first | exact Z0 | apply Z1)); done) | (repeat (first | exact Z0 | apply Z1))))); exact Z3) (by rfl) (by rfl) ?_
      refine c_draw rfl (.q 0 (.q 1 (.q 2 (.q 3 (.q 4 ((.l 5 [] (.done)))))))) (by kernel_rfl) ?_
      refine q_move rfl rfl rfl rfl ?_
      refine q_nil_p rfl rfl rfl rfl ?_
      refine q_field (k := 0) rfl rfl rfl rfl Try.underlying91 rfl Try.sizeOf88 rfl ?_
      refine q_load_c (j := 0) rfl rfl rfl rfl Try.isAgg88 (by with_reducible (repeat (first | exact Z0 | apply Z1))) (by first | rfl | exact (Nat.add_zero _).symm) (by rfl) ?_
      refine q_loadN_c rfl rfl rfl rfl Try.isAgg40 Try.sizeOf40 (by with_reducible (repeat (first | exact Z0 | apply Z1))) 0 (us := [_, _, _]) (by first | rfl | exact (Nat.add_zero _).symm) rfl rfl ?_
      have sp_26 := next_spec pa pc po poc vb x.v hx.v hn pl hpl k t o hvc
      refine l_call rfl rfl rfl rfl rfl rfl Try.call49 (sp_26) (by (repeat ((with_reducible apply Z2); focus (first | (with_reducible (repeat (first | exact Z0 | apply Z1)); done) | (repeat (first | exact Z0 | apply Z1))))); exact Z3) ?_
      rintro ⟨⟩ -
      try simp only [List.cons_append, List.nil_append]
      refine ag_nil ?_
      refine r_done ?_
      refine s_keep [] (e' := []) rfl ?_
      refine k_then_n ?_
      refine c_seq ?_
      refine c_plain (.q 0 (.done)) (by kernel_rfl) ?_
      refine q_assign rfl rfl rfl rfl ?_
      refine r_done ?_
      refine k_then_n ?_
      refine c_ret ?_
      have hrc : raceF k l w := .inr hr2
      have hacw : acW x.v.ck.n k t l w = ((stL w.1 t.toNat (l.getD t.toNat 0)), w.2.1, x.v.ck.n, true) := by
        unfold acW
        rw [if_neg (by omega), if_neg (by omega)]
        have hfg2 : fg = false := by simpa using hfg
        rw [if_pos ⟨hrc, e2.trans hfg2⟩, decide_eq_true hrc, Bool.or_true]
      refine d_fold (b := b) (deF x k t o) (pa := pa) (pc := pc) (po := po) (poc := poc) (vb := vb) (va := va) (vc := vc) (V := (V.set o.toNat (some ⟨rb, 0, none⟩, some ⟨wb, 0, none⟩, x.v.ck.n, true))) (by (repeat ((with_reducible apply Z2); focus (first | (with_reducible (repeat (first | exact Z0 | apply Z1)); done) | (repeat (first | exact Z0 | apply Z1))))); exact Z3) (by rw [de_acc hvc (by omega) hw hth, hacw]; congr 1; omega) (by simp) (by first | exact (by simp [hV]) | simp) ?_
      refine ret1 rfl rfl (()) (by rw [show deE x k t o = 0 from if_pos hvc]) (by trivial) ?_
      (repeat ((with_reducible apply Z2); focus (first | (with_reducible (repeat (first | exact Z0 | apply Z1)); done) | (repeat (first | exact Z0 | apply Z1))))); (repeat (first | exact Z3 | exact Takes.self | refine takes_drop2 ?_))
     ·
      try simp only [Bool.and_eq_true, Bool.or_eq_true, Bool.not_eq_true', Bool.not_eq_false', Bool.and_eq_false_iff, Bool.or_eq_false_iff, decide_eq_true_eq, decide_eq_false_iff_not] at hfg
      refine c_skip ?_
      refine k_then_n ?_
      refine c_seq ?_
      refine c_plain (.q 0 (.q 1 (.q 2 (.q 3 (.q 4 (.done)))))) (by kernel_rfl) ?_
      refine q_move rfl rfl rfl rfl ?_
      refine q_nil_p rfl rfl rfl rfl ?_
      refine q_field (k := 0) rfl rfl rfl rfl Try.underlying99 rfl Try.sizeOf82 rfl ?_
      refine q_load_O (v := (.pointer (some ⟨rb, 0, none⟩))) (j := 0) (k' := o.toNat) (enc := encV) (off := io67) rfl rfl rfl rfl Try.isAgg82 ha67 encV_len hv (by with_reducible (repeat (first | exact Z0 | apply Z1))) (by first | rfl | exact (Nat.add_zero _).symm | omega) (by rfl) ?_
      refine q_assign rfl rfl rfl rfl ?_
      refine r_done ?_
      refine s_keep [0, 3, 7, 8] (e' := [(0, _), (3, _), (7, _), (8, _)]) rfl ?_
      refine k_then_n ?_
      refine c_seq ?_
      refine c_seq ?_
      refine c_plain (.q 0 (.q 1 (.q 2 (.done)))) (by kernel_rfl) ?_
      refine q_field (k := 0) rfl rfl rfl rfl Try.underlying40 rfl Try.sizeOf38 rfl ?_
      refine q_load_c (j := 0) rfl rfl rfl rfl Try.isAgg38 (by with_reducible (repeat (first | exact Z0 | apply Z1))) (by first | rfl | exact (Nat.add_zero _).symm) (by rfl) ?_
      refine q_int rfl rfl rfl rfl rfl (b_eql _ _ _ _) ?_
      refine r_done ?_
      refine k_then_n ?_
      refine c_cond_p rfl (fun h9 => by exfalso; omega) (fun h9 => ?_)
      refine c_skip ?_
      refine k_then_n ?_
      refine c_draw rfl (.q 0 (.q 1 (.q 2 (.q 3 (.q 4 (.q 5 (.q 6 (.q 7 (.q 8 ((.l 9 [2] ((.l 10 [] (.done)))))))))))))) (by kernel_rfl) ?_
      refine q_move rfl rfl rfl rfl ?_
      refine q_field (k := 1) rfl rfl rfl rfl Try.underlying40 rfl Try.sizeOf3 rfl ?_
      refine q_load_c (j := 1) rfl rfl rfl rfl Try.isAgg3 (by with_reducible (repeat (first | exact Z0 | apply Z1))) (by first | rfl | exact (Nat.add_zero _).symm) (by rfl) ?_
      refine q_move rfl rfl rfl rfl ?_
      refine q_nil_p rfl rfl rfl rfl ?_
      refine q_field (k := 0) rfl rfl rfl rfl Try.underlying91 rfl Try.sizeOf88 rfl ?_
      refine q_load_c (j := 0) rfl rfl rfl rfl Try.isAgg88 (by with_reducible (repeat (first | exact Z0 | apply Z1))) (by first | rfl | exact (Nat.add_zero _).symm) (by rfl) ?_
      refine q_field (k := 1) rfl rfl rfl rfl Try.underlying40 rfl Try.sizeOf3 rfl ?_
      refine q_load_c (j := 1) rfl rfl rfl rfl Try.isAgg3 (by with_reducible (repeat (first | exact Z0 | apply Z1))) (by first | rfl | exact (Nat.add_zero _).symm) (by rfl) ?_
      have sp_27 := clock_spec vb m1 (.pointer (some ⟨cb, 0, none⟩)) (.slice po x.v.ck.pa.length poc) (.map (some m2)) (.map (some m3)) (.map (some m4)) F1 tb (ta) (tc) l t (by omega) htF
      refine l_call rfl rfl rfl rfl rfl rfl Try.call48 (sp_27) (by (repeat ((with_reducible apply Z2); focus (first | (with_reducible (repeat (first | exact Z0 | apply Z1)); done) | (repeat (first | exact Z0 | apply Z1))))); exact Z3) ?_
      rintro ⟨⟩ -
      try simp only [List.cons_append, List.nil_append]
      refine ag_load_c (q := 1) rfl rfl rfl Try.isAgg3 (by with_reducible (repeat (first | exact Z0 | apply Z1))) (by first | rfl | exact (Nat.add_zero _).symm) (by rfl) ?_
      refine ag_nil ?_
      have sp_28 := set_z rb w.1 ra w.1.length rc (by first | rfl | assumption | omega | (simp; done) | (simp; omega)) hwr t (by omega) (by omega) (l.getD t.toNat 0) (by exact hgr.1) (by exact hgr.2)
      refine l_call rfl rfl rfl rfl rfl rfl Try.call47 (sp_28) (by (repeat ((with_reducible apply Z2); focus (first | (with_reducible (repeat (first | exact Z0 | apply Z1)); done) | (repeat (first | exact Z0 | apply Z1))))); exact Z3) ?_
      rintro ⟨za, zc⟩ -
      try simp only [List.cons_append, List.nil_append]
      refine ag_nil ?_
      refine r_done ?_
      refine s_vecF rb za zc (stL w.1 t.toNat (l.getD t.toNat 0)) (by (repeat ((with_reducible apply Z2); focus (first | (with_reducible (repeat (first | exact Z0 | apply Z1)); done) | (repeat (first | exact Z0 | apply Z1))))); exact Z3) ?_
      refine s_vecF wb wa wc w.2.1 (by (repeat ((with_reducible apply Z2); focus (first | (with_reducible (repeat (first | exact Z0 | apply Z1)); done) | (repeat (first | exact Z0 | apply Z1))))); exact Z3) ?_
      refine s_varF (some ⟨rb, 0, none⟩, some ⟨wb, 0, none⟩, fl, fg) ((stL w.1 t.toNat (l.getD t.toNat 0)), w.2.1, fl, fg) (by (repeat ((with_reducible apply Z2); focus (first | (with_reducible (repeat (first | exact Z0 | apply Z1)); done) | (repeat (first | exact Z0 | apply Z1))))); exact Z3) rfl ?_
      refine s_restL_put (res := varA) (V := V) (Y := x.vs) (S := []) o.toNat (some ⟨rb, 0, none⟩, some ⟨wb, 0, none⟩, fl, fg) ((stL w.1 t.toNat (l.getD t.toNat 0)), w.2.1, fl, fg) (by (repeat ((with_reducible apply Z2); focus (first | (with_reducible (repeat (first | exact Z0 | apply Z1)); done) | (repeat (first | exact Z0 | apply Z1))))); exact Z3) (by simp) (List.getElem?_eq_some_iff.1 hv).1 (by omega) ?_
      rw [set_same hv]
      refine s_keep [0, 3] (e' := [(0, _), (3, _)]) rfl ?_
      refine k_then_n ?_
      refine c_exit ?_
      refine k_blk_here ?_
      refine k_then_n ?_
      refine c_seq ?_
      refine s_vecF tb ta tc l (by (repeat ((with_reducible apply Z2); focus (first | (with_reducible (repeat (first | exact Z0 | apply Z1)); done) | (repeat (first | exact Z0 | apply Z1))))); exact Z3) ?_
      refine s_rest_put (F := F1) (T := x.v.th) (S := []) t F1 x.v.th (by (repeat ((with_reducible apply Z2); focus (first | (with_reducible (repeat (first | exact Z0 | apply Z1)); done) | (repeat (first | exact Z0 | apply Z1))))); exact Z3) (by simp) htF (fun _ _ _ => rfl) hth (fun _ _ _ => rfl) ?_
      refine vs_fold (b := vb) x.v (pa := pa) (pc := pc) (po := po) (poc := poc) (cb := cb) (m1 := m1) (m2 := m2) (m3 := m3) (m4 := m4) (by (repeat ((with_reducible apply Z2); focus (first | (with_reducible (repeat (first | exact Z0 | apply Z1)); done) | (repeat (first | exact Z0 | apply Z1))))); exact Z3) (by rfl) (by rfl) ?_
      refine c_draw rfl (.q 0 (.q 1 (.q 2 (.q 3 (.q 4 ((.l 5 [] (.done)))))))) (by kernel_rfl) ?_
      refine q_move rfl rfl rfl rfl ?_
      refine q_nil_p rfl rfl rfl rfl ?_
      refine q_field (k := 0) rfl rfl rfl rfl Try.underlying91 rfl Try.sizeOf88 rfl ?_
      refine q_load_c (j := 0) rfl rfl rfl rfl Try.isAgg88 (by with_reducible (repeat (first | exact Z0 | apply Z1))) (by first | rfl | exact (Nat.add_zero _).symm) (by rfl) ?_
      refine q_loadN_c rfl rfl rfl rfl Try.isAgg40 Try.sizeOf40 (by with_reducible (repeat (first | exact Z0 | apply Z1))) 0 (us := [_, _, _]) (by first | rfl | exact (Nat.add_zero _).symm) rfl rfl ?_
      have sp_29 := next_spec pa pc po poc vb x.v hx.v hn pl hpl k t o hvc
      refine l_call rfl rfl rfl rfl rfl rfl Try.call49 (sp_29) (by (repeat ((with_reducible apply Z2); focus (first | (with_reducible (repeat (first | exact Z0 | apply Z1)); done) | (repeat (first | exact Z0 | apply Z1))))); exact Z3) ?_
      rintro ⟨⟩ -
      try simp only [List.cons_append, List.nil_append]
      refine ag_nil ?_
      refine r_done ?_
      refine s_keep [] (e' := []) rfl ?_
      refine k_then_n ?_
      refine c_seq ?_
      refine c_plain (.q 0 (.done)) (by kernel_rfl) ?_
      refine q_assign rfl rfl rfl rfl ?_
      refine r_done ?_
      refine k_then_n ?_
      refine c_ret ?_
      have hrc : raceF k l w := .inr hr2
      have hacw : acW x.v.ck.n k t l w = ((stL w.1 t.toNat (l.getD t.toNat 0)), w.2.1, fl, fg) := by
        unfold acW
        rw [if_neg (by omega), if_neg (by omega)]
        have hfg2 : fg = true := by simpa using hfg
        rw [if_neg (fun h => by rw [e2, hfg2] at h; exact absurd h.2 (by decide)), e1, e2, hfg2, Bool.true_or]
      refine d_fold (b := b) (deF x k t o) (pa := pa) (pc := pc) (po := po) (poc := poc) (vb := vb) (va := va) (vc := vc) (V := V) (by (repeat ((with_reducible apply Z2); focus (first | (with_reducible (repeat (first | exact Z0 | apply Z1)); done) | (repeat (first | exact Z0 | apply Z1))))); exact Z3) (by rw [de_acc hvc (by omega) hw hth, hacw]; congr 1; omega) (by simp) (by first | exact (by simp [hV]) | simp) ?_
      refine ret1 rfl rfl (()) (by rw [show deE x k t o = 0 from if_pos hvc]) (by trivial) ?_
      (repeat ((with_reducible apply Z2); focus (first | (with_reducible (repeat (first | exact Z0 | apply Z1)); done) | (repeat (first | exact Z0 | apply Z1))))); (repeat (first | exact Z3 | exact Takes.self | refine takes_drop2 ?_))
    ·
     refine q_skip rfl rfl rfl rfl ?_
     refine q_skip rfl rfl rfl rfl ?_
     refine q_skip rfl rfl rfl rfl ?_
     refine q_skip rfl rfl rfl rfl ?_
     refine q_skip rfl rfl rfl rfl ?_
     refine q_pick_f rfl rfl rfl rfl rfl ?_
     refine r_done ?_
     refine s_keep [0, 3, 7, 85] (e' := [(0, _), (3, _), (7, _), (85, _)]) rfl ?_
     refine k_then_n ?_
     refine c_cond_f rfl ?_
     refine c_skip ?_
     refine k_then_n ?_
     refine c_seq ?_
     refine c_plain (.q 0 (.q 1 (.q 2 (.q 3 (.q 4 (.done)))))) (by kernel_rfl) ?_
     refine q_move rfl rfl rfl rfl ?_
     refine q_nil_p rfl rfl rfl rfl ?_
     refine q_field (k := 0) rfl rfl rfl rfl Try.underlying99 rfl Try.sizeOf82 rfl ?_
     refine q_load_O (v := (.pointer (some ⟨rb, 0, none⟩))) (j := 0) (k' := o.toNat) (enc := encV) (off := io67) rfl rfl rfl rfl Try.isAgg82 ha67 encV_len hv (by with_reducible (repeat (first | exact Z0 | apply Z1))) (by first | rfl | exact (Nat.add_zero _).symm | omega) (by rfl) ?_
     refine q_assign rfl rfl rfl rfl ?_
     refine r_done ?_
     refine s_keep [0, 3, 7, 8] (e' := [(0, _), (3, _), (7, _), (8, _)]) rfl ?_
     refine k_then_n ?_
     refine c_seq ?_
     refine c_seq ?_
     refine c_plain (.q 0 (.q 1 (.q 2 (.done)))) (by kernel_rfl) ?_
     refine q_field (k := 0) rfl rfl rfl rfl Try.underlying40 rfl Try.sizeOf38 rfl ?_
     refine q_load_c (j := 0) rfl rfl rfl rfl Try.isAgg38 (by with_reducible (repeat (first | exact Z0 | apply Z1))) (by first | rfl | exact (Nat.add_zero _).symm) (by rfl) ?_
     refine q_int rfl rfl rfl rfl rfl (b_eql _ _ _ _) ?_
     refine r_done ?_
     refine k_then_n ?_
     refine c_cond_p rfl (fun h9 => by exfalso; omega) (fun h9 => ?_)
     refine c_skip ?_
     refine k_then_n ?_
     refine c_draw rfl (.q 0 (.q 1 (.q 2 (.q 3 (.q 4 (.q 5 (.q 6 (.q 7 (.q 8 ((.l 9 [2] ((.l 10 [] (.done)))))))))))))) (by kernel_rfl) ?_
     refine q_move rfl rfl rfl rfl ?_
     refine q_field (k := 1) rfl rfl rfl rfl Try.underlying40 rfl Try.sizeOf3 rfl ?_
     refine q_load_c (j := 1) rfl rfl rfl rfl Try.isAgg3 (by with_reducible (repeat (first | exact Z0 | apply Z1))) (by first | rfl | exact (Nat.add_zero _).symm) (by rfl) ?_
     refine q_move rfl rfl rfl rfl ?_
     refine q_nil_p rfl rfl rfl rfl ?_
     refine q_field (k := 0) rfl rfl rfl rfl Try.underlying91 rfl Try.sizeOf88 rfl ?_
     refine q_load_c (j := 0) rfl rfl rfl rfl Try.isAgg88 (by with_reducible (repeat (first | exact Z0 | apply Z1))) (by first | rfl | exact (Nat.add_zero _).symm) (by rfl) ?_
     refine q_field (k := 1) rfl rfl rfl rfl Try.underlying40 rfl Try.sizeOf3 rfl ?_
     refine q_load_c (j := 1) rfl rfl rfl rfl Try.isAgg3 (by with_reducible (repeat (first | exact Z0 | apply Z1))) (by first | rfl | exact (Nat.add_zero _).symm) (by rfl) ?_
     have sp_30 := clock_spec vb m1 (.pointer (some ⟨cb, 0, none⟩)) (.slice po x.v.ck.pa.length poc) (.map (some m2)) (.map (some m3)) (.map (some m4)) F1 tb (ta) (tc) l t (by omega) htF
     refine l_call rfl rfl rfl rfl rfl rfl Try.call48 (sp_30) (by (repeat ((with_reducible apply Z2); focus (first | (with_reducible (repeat (first | exact Z0 | apply Z1)); done) | (repeat (first | exact Z0 | apply Z1))))); exact Z3) ?_
     rintro ⟨⟩ -
     try simp only [List.cons_append, List.nil_append]
     refine ag_load_c (q := 1) rfl rfl rfl Try.isAgg3 (by with_reducible (repeat (first | exact Z0 | apply Z1))) (by first | rfl | exact (Nat.add_zero _).symm) (by rfl) ?_
     refine ag_nil ?_
     have sp_31 := set_z rb w.1 ra w.1.length rc (by first | rfl | assumption | omega | (simp; done) | (simp; omega)) hwr t (by omega) (by omega) (l.getD t.toNat 0) (by exact hgr.1) (by exact hgr.2)
     refine l_call rfl rfl rfl rfl rfl rfl Try.call47 (sp_31) (by (repeat ((with_reducible apply Z2); focus (first | (with_reducible (repeat (first | exact Z0 | apply Z1)); done) | (repeat (first | exact Z0 | apply Z1))))); exact Z3) ?_
     rintro ⟨za, zc⟩ -
     try simp only [List.cons_append, List.nil_append]
     refine ag_nil ?_
     refine r_done ?_
     refine s_vecF rb za zc (stL w.1 t.toNat (l.getD t.toNat 0)) (by (repeat ((with_reducible apply Z2); focus (first | (with_reducible (repeat (first | exact Z0 | apply Z1)); done) | (repeat (first | exact Z0 | apply Z1))))); exact Z3) ?_
     refine s_vecF wb wa wc w.2.1 (by (repeat ((with_reducible apply Z2); focus (first | (with_reducible (repeat (first | exact Z0 | apply Z1)); done) | (repeat (first | exact Z0 | apply Z1))))); exact Z3) ?_
     refine s_varF (some ⟨rb, 0, none⟩, some ⟨wb, 0, none⟩, fl, fg) ((stL w.1 t.toNat (l.getD t.toNat 0)), w.2.1, fl, fg) (by (repeat ((with_reducible apply Z2); focus (first | (with_reducible (repeat (first | exact Z0 | apply Z1)); done) | (repeat (first | exact Z0 | apply Z1))))); exact Z3) rfl ?_
     refine s_restL_put (res := varA) (V := V) (Y := x.vs) (S := []) o.toNat (some ⟨rb, 0, none⟩, some ⟨wb, 0, none⟩, fl, fg) ((stL w.1 t.toNat (l.getD t.toNat 0)), w.2.1, fl, fg) (by (repeat ((with_reducible apply Z2); focus (first | (with_reducible (repeat (first | exact Z0 | apply Z1)); done) | (repeat (first | exact Z0 | apply Z1))))); exact Z3) (by simp) (List.getElem?_eq_some_iff.1 hv).1 (by omega) ?_
     rw [set_same hv]
     refine s_keep [0, 3] (e' := [(0, _), (3, _)]) rfl ?_
     refine k_then_n ?_
     refine c_exit ?_
     refine k_blk_here ?_
     refine k_then_n ?_
     refine c_seq ?_
     refine s_vecF tb ta tc l (by (repeat ((with_reducible apply Z2); focus (first | (with_reducible (repeat (first | exact Z0 | apply Z1)); done) | (repeat (first | exact Z0 | apply Z1))))); exact Z3) ?_
     refine s_rest_put (F := F1) (T := x.v.th) (S := []) t F1 x.v.th (by (repeat ((with_reducible apply Z2); focus (first | (with_reducible (repeat (first | exact Z0 | apply Z1)); done) | (repeat (first | exact Z0 | apply Z1))))); exact Z3) (by simp) htF (fun _ _ _ => rfl) hth (fun _ _ _ => rfl) ?_
     refine vs_fold (b := vb) x.v (pa := pa) (pc := pc) (po := po) (poc := poc) (cb := cb) (m1 := m1) (m2 := m2) (m3 := m3) (m4 := m4) (by (repeat ((with_reducible apply Z2); focus (first | (with_reducible (repeat (first | exact Z0 | apply Z1)); done) | (repeat (first | exact Z0 | apply Z1))))); exact Z3) (by rfl) (by rfl) ?_
     refine c_draw rfl (.q 0 (.q 1 (.q 2 (.q 3 (.q 4 ((.l 5 [] (.done)))))))) (by kernel_rfl) ?_
     refine q_move rfl rfl rfl rfl ?_
     refine q_nil_p rfl rfl rfl rfl ?_
     refine q_field (k := 0) rfl rfl rfl rfl Try.underlying91 rfl Try.sizeOf88 rfl ?_
     refine q_load_c (j := 0) rfl rfl rfl rfl Try.isAgg88 (by with_reducible (repeat (first | exact Z0 | apply Z1))) (by first | rfl | exact (Nat.add_zero _).symm) (by rfl) ?_
     refine q_loadN_c rfl rfl rfl rfl Try.isAgg40 Try.sizeOf40 (by with_reducible (repeat (first | exact Z0 | apply Z1))) 0 (us := [_, _, _]) (by first | rfl | exact (Nat.add_zero _).symm) rfl rfl ?_
     have sp_32 := next_spec pa pc po poc vb x.v hx.v hn pl hpl k t o hvc
     refine l_call rfl rfl rfl rfl rfl rfl Try.call49 (sp_32) (by (repeat ((with_reducible apply Z2); focus (first | (with_reducible (repeat (first | exact Z0 | apply Z1)); done) | (repeat (first | exact Z0 | apply Z1))))); exact Z3) ?_
     rintro ⟨⟩ -
     try simp only [List.cons_append, List.nil_append]
     refine ag_nil ?_
     refine r_done ?_
     refine s_keep [] (e' := []) rfl ?_
     refine k_then_n ?_
     refine c_seq ?_
     refine c_plain (.q 0 (.done)) (by kernel_rfl) ?_
     refine q_assign rfl rfl rfl rfl ?_
     refine r_done ?_
     refine k_then_n ?_
     refine c_ret ?_
     have hrc : ¬ raceF k l w := by
       rintro (⟨h8, h9⟩ | h9)
       · first | exact h9 (Classical.byContradiction hr1) | exact absurd (k1.symm.trans h8) (by decide) | exact hr1 h9 | exact h9 hr1
       · first | exact h9 (Classical.byContradiction hr2) | exact hr2 h9 | exact h9 hr2
     have hacw : acW x.v.ck.n k t l w = ((stL w.1 t.toNat (l.getD t.toNat 0)), w.2.1, fl, fg) := by
       unfold acW
       rw [if_neg (by omega), if_neg (by omega)]
       rw [if_neg (fun h => hrc h.1), e1, e2, decide_eq_false hrc, Bool.or_false]
     refine d_fold (b := b) (deF x k t o) (pa := pa) (pc := pc) (po := po) (poc := poc) (vb := vb) (va := va) (vc := vc) (V := V) (by (repeat ((with_reducible apply Z2); focus (first | (with_reducible (repeat (first | exact Z0 | apply Z1)); done) | (repeat (first | exact Z0 | apply Z1))))); exact Z3) (by rw [de_acc hvc (by omega) hw hth, hacw]; congr 1; omega) (by simp) (by first | exact (by simp [hV]) | simp) ?_
     refine ret1 rfl rfl (()) (by rw [show deE x k t o = 0 from if_pos hvc]) (by trivial) ?_
     (repeat ((with_reducible apply Z2); focus (first | (with_reducible (repeat (first | exact Z0 | apply Z1)); done) | (repeat (first | exact Z0 | apply Z1))))); (repeat (first | exact Z3 | exact Takes.self | refine takes_drop2 ?_))
   ·
    refine c_skip ?_
    refine k_then_n ?_
    refine c_exit ?_
    refine k_blk_out rfl ?_
    refine k_then_exit ?_
    refine k_blk_out rfl ?_
    refine k_then_exit ?_
    refine k_blk_here ?_
    refine k_then_n ?_
    refine c_seq ?_
    refine s_vecF tb ta tc l (by (repeat ((with_reducible apply Z2); focus (first | (with_reducible (repeat (first | exact Z0 | apply Z1)); done) | (repeat (first | exact Z0 | apply Z1))))); exact Z3) ?_
    refine s_rest_put (F := F1) (T := x.v.th) (S := []) t F1 x.v.th (by (repeat ((with_reducible apply Z2); focus (first | (with_reducible (repeat (first | exact Z0 | apply Z1)); done) | (repeat (first | exact Z0 | apply Z1))))); exact Z3) (by simp) htF (fun _ _ _ => rfl) hth (fun _ _ _ => rfl) ?_
    refine vs_fold (b := vb) x.v (pa := pa) (pc := pc) (po := po) (poc := poc) (cb := cb) (m1 := m1) (m2 := m2) (m3 := m3) (m4 := m4) (by (repeat ((with_reducible apply Z2); focus (first | (with_reducible (repeat (first | exact Z0 | apply Z1)); done) | (repeat (first | exact Z0 | apply Z1))))); exact Z3) (by rfl) (by rfl) ?_
    refine c_draw rfl (.q 0 (.q 1 (.q 2 (.q 3 (.q 4 ((.l 5 [] (.done)))))))) (by kernel_rfl) ?_
    refine q_move rfl rfl rfl rfl ?_
    refine q_nil_p rfl rfl rfl rfl ?_
    refine q_field (k := 0) rfl rfl rfl rfl Try.underlying91 rfl Try.sizeOf88 rfl ?_
    refine q_load_c (j := 0) rfl rfl rfl rfl Try.isAgg88 (by with_reducible (repeat (first | exact Z0 | apply Z1))) (by first | rfl | exact (Nat.add_zero _).symm) (by rfl) ?_
    refine q_loadN_c rfl rfl rfl rfl Try.isAgg40 Try.sizeOf40 (by with_reducible (repeat (first | exact Z0 | apply Z1))) 0 (us := [_, _, _]) (by first | rfl | exact (Nat.add_zero _).symm) rfl rfl ?_
    have sp_33 := next_spec pa pc po poc vb x.v hx.v hn pl hpl k t o hvc
    refine l_call rfl rfl rfl rfl rfl rfl Try.call49 (sp_33) (by (repeat ((with_reducible apply Z2); focus (first | (with_reducible (repeat (first | exact Z0 | apply Z1)); done) | (repeat (first | exact Z0 | apply Z1))))); exact Z3) ?_
    rintro ⟨⟩ -
    try simp only [List.cons_append, List.nil_append]
    refine ag_nil ?_
    refine r_done ?_
    refine s_keep [] (e' := []) rfl ?_
    refine k_then_n ?_
    refine c_seq ?_
    refine c_plain (.q 0 (.done)) (by kernel_rfl) ?_
    refine q_assign rfl rfl rfl rfl ?_
    refine r_done ?_
    refine k_then_n ?_
    refine c_ret ?_
    refine d_fold (b := b) (deF x k t o) (pa := pa) (pc := pc) (po := po) (poc := poc) (vb := vb) (va := va) (vc := vc) (V := V) (by (repeat ((with_reducible apply Z2); focus (first | (with_reducible (repeat (first | exact Z0 | apply Z1)); done) | (repeat (first | exact Z0 | apply Z1))))); exact Z3) (by rw [de_no hvc k1 k2]) (by rfl) (by first | exact hV | simp) ?_
    refine ret1 rfl rfl (()) (by rw [show deE x k t o = 0 from if_pos hvc]) (by trivial) ?_
    (repeat ((with_reducible apply Z2); focus (first | (with_reducible (repeat (first | exact Z0 | apply Z1)); done) | (repeat (first | exact Z0 | apply Z1))))); (repeat (first | exact Z3 | exact Takes.self | refine takes_drop2 ?_))
end Go.Ab.Dj
