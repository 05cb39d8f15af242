/- A detector by full vectors: what it tells. -/
import Derived.Test.YtkoclbjiaofkhaaDj6
set_option linter.unusedVariables false
set_option linter.unusedSimpArgs false
set_option maxRecDepth 100000
namespace Go.Ab.Dj
open Go Go.Proofs Go.Ab Go.Ab.Fe Go.Ab.Vc
/-- What is kept of a variable, if there is one. -/
def wF (x : DS) (z : Int) : Option V4 := if 0 ≤ z then x.vs[z.toNat]? else none
theorem wF_nat {x : DS} (i : Nat) : wF x (i : Int) = x.vs[i]? := by rw [wF, if_pos (by omega), Int.toNat_natCast]
theorem wF_none {x : DS} {z : Int} (h : z < 0 ∨ (x.vs.length : Int) ≤ z) : wF x z = none := by
  unfold wF; split
  · exact List.getElem?_eq_none (by omega)
  · rfl
theorem wF_cases (x : DS) (z : Int) : (∃ (i : Nat) (w : V4), z = i ∧ x.vs[i]? = some w) ∨ (z < 0 ∨ (x.vs.length : Int) ≤ z) := by
  by_cases h : 0 ≤ z ∧ z < x.vs.length
  · obtain ⟨w, hw⟩ := get_lt (l := x.vs) (i := z.toNat) (by omega)
    exact .inl ⟨z.toNat, w, by omega, hw⟩
  · exact .inr (by omega)
/-- The flags, by rising variables. -/
def flF (vs : List V4) : List (Int × Int) := (vs.zipIdx.filter (fun p => p.1.2.2.2)).map fun p => ((p.2 : Int), p.1.2.2.1)
def fgF (w : Option V4) : Int := (w.map (·.2.2.1)).getD 0
def fdF (w : Option V4) : Bool := (w.map (·.2.2.2)).getD false
def rdsF (w : Option V4) : List Int := (w.map (·.1)).getD []
def wrsF (w : Option V4) : List Int := (w.map (·.2.1)).getD []
theorem flF_next {vs : List V4} {i : Nat} {w : V4} (h : vs[i]? = some w) : flF (vs.take (i + 1)) = flF (vs.take i) ++ (if w.2.2.2 then [((i : Int), w.2.2.1)] else []) := by
  have hi := (List.getElem?_eq_some_iff.1 h).1
  unfold flF
  rw [List.take_add_one, h, List.zipIdx_append, List.filter_append, List.map_append, List.length_take, Nat.min_eq_left (by omega)]
  congr 1
  cases hw : w.2.2.2 <;> simp [hw]
theorem flF_len (vs : List V4) : (flF vs).length ≤ vs.length := by
  unfold flF
  rw [List.length_map]
  exact Nat.le_trans (List.length_filter_le _ _) (by simp)
theorem flagged_some (pa : Option Addr) (pc : Nat) (po : Option Addr) (poc b : Nat) (x : DS) (hx : DInv x) (i : Nat) (w : V4) (hw : x.vs[i]? = some w) : Spec Try.prog 23 [.pointer (some ⟨b, 0, none⟩), .int .i64 ((i : Nat) : Int)] [dR pa pc po poc b x] (fun (_ : Unit) => .tuple #[.int .i64 (fgF (wF x (i : Int))), .bool (fdF (wF x (i : Int)))]) (fun _ => True) (fun _ => [dR pa pc po poc b x]) := by
 refine spec_mk (n := 20) Try.func23 rfl rfl rfl ?_
 intro Γ w0
 simp only [argE, List.cons_append, List.nil_append, Nat.zero_add, Nat.reduceAdd]
 refine c_seq ?_
 refine c_plain (.q 0 (.q 1 (.done))) (by kernel_rfl) ?_
 refine q_assign rfl rfl rfl rfl ?_
 refine q_assign rfl rfl rfl rfl ?_
 refine r_done ?_
 refine k_then_n ?_
 refine c_seq ?_
 refine s_take (A := dR pa pc po poc b x) (by with_reducible (repeat (first | exact Z0 | apply Z1))) ?_
 refine d_open fun vb va vc V hV => ?_
 refine s_restL_take (res := varA) (V := V) (Y := x.vs) (S := []) i (by with_reducible (repeat (first | exact Z0 | apply Z1))) (by simp) hw fun v_ hv => ?_
 obtain ⟨va_, vb_, fl, fg⟩ := v_
 refine s_var (by with_reducible (repeat (first | exact Z0 | apply Z1))) fun hf => ?_
 refine s_vec (by with_reducible (repeat (first | exact Z0 | apply Z1))) fun rb ra rc hra_ => ?_
 simp only at hra_
 subst hra_
 refine s_vec (by first | (with_reducible (repeat (first | exact Z0 | apply Z1)); done) | (repeat (first | exact Z0 | apply Z1))) fun wb wa wc hwa_ => ?_
 simp only at hwa_
 subst hwa_
 simp only at hf
 refine c_plain (.q 0 (.q 1 ((.l 2 [] (.q 3 (.done)))))) (by kernel_rfl) ?_
 refine q_move rfl rfl rfl rfl ?_
 refine q_move rfl rfl rfl rfl ?_
 have sp_1 := at_spec b vb x.vs.length vc va (.int .i64 x.cost) V (by exact hV) i (some ⟨rb, 0, none⟩, some ⟨wb, 0, none⟩, fl, fg) hv
 refine l_call rfl rfl rfl rfl rfl rfl Try.call50 (sp_1) (by (repeat ((with_reducible apply Z2); focus (first | (with_reducible (repeat (first | exact Z0 | apply Z1)); done) | (repeat (first | exact Z0 | apply Z1))))); exact Z3) ?_
 rintro ⟨ab, ao_⟩ haa
 try simp only [List.cons_append, List.nil_append]
 refine ag_nil ?_
 refine q_assign rfl rfl rfl rfl ?_
 refine r_done ?_
 refine s_keep [6] (e' := [(6, _)]) rfl ?_
 refine k_then_n ?_
 refine c_seq ?_
 refine c_seq ?_
 refine c_plain (.q 0 (.q 1 (.done))) (by kernel_rfl) ?_
 refine q_move rfl rfl rfl rfl ?_
 refine q_eq_nil rfl rfl rfl rfl Try.underlying105 ?_
 refine s_eq 11 rfl (v' := .bool false) rfl ?_
 refine r_done ?_
 refine k_then_n ?_
 refine c_cond_f rfl ?_
 refine c_skip ?_
 refine k_then_n ?_
 refine c_seq ?_
 refine c_draw rfl (.q 0 (.q 1 (.q 2 (.q 3 (.q 4 (.q 5 (.q 6 (.q 7 (.q 8 (.q 9 (.done))))))))))) (by kernel_rfl) ?_
 refine q_move rfl rfl rfl rfl ?_
 refine q_nil_p rfl rfl rfl rfl ?_
 refine q_field (k := 2) rfl rfl rfl rfl Try.underlying99 rfl Try.sizeOf3 rfl ?_
 refine q_load_O (v := (.int .i64 fl)) (j := 2) (k' := i) (enc := encV) (off := ao_) rfl rfl rfl rfl Try.isAgg3 haa encV_len hv (by with_reducible (repeat (first | exact Z0 | apply Z1))) (by first | rfl | exact (Nat.add_zero _).symm | omega) (by rfl) ?_
 refine q_move rfl rfl rfl rfl ?_
 refine q_nil_p rfl rfl rfl rfl ?_
 refine q_field (k := 3) rfl rfl rfl rfl Try.underlying99 rfl Try.sizeOf4 rfl ?_
 refine q_load_O (v := (.bool fg)) (j := 3) (k' := i) (enc := encV) (off := ao_) rfl rfl rfl rfl Try.isAgg4 haa encV_len hv (by with_reducible (repeat (first | exact Z0 | apply Z1))) (by first | rfl | exact (Nat.add_zero _).symm | omega) (by rfl) ?_
 refine q_assign rfl rfl rfl rfl ?_
 refine q_assign rfl rfl rfl rfl ?_
 refine r_done ?_
 refine s_keep [4, 5] (e' := [(4, _), (5, _)]) rfl ?_
 refine k_then_n ?_
 refine c_ret ?_
 refine s_vecF rb ra rc w.1 (by (repeat ((with_reducible apply Z2); focus (first | (with_reducible (repeat (first | exact Z0 | apply Z1)); done) | (repeat (first | exact Z0 | apply Z1))))); exact Z3) ?_
 refine s_vecF wb wa wc w.2.1 (by (repeat ((with_reducible apply Z2); focus (first | (with_reducible (repeat (first | exact Z0 | apply Z1)); done) | (repeat (first | exact Z0 | apply Z1))))); exact Z3) ?_
 refine s_varF (some ⟨rb, 0, none⟩, some ⟨wb, 0, none⟩, fl, fg) w (by (repeat ((with_reducible apply Z2); focus (first | (with_reducible (repeat (first | exact Z0 | apply Z1)); done) | (repeat (first | exact Z0 | apply Z1))))); exact Z3) hf ?_
 refine s_restL_back (res := varA) (V := V) (Y := x.vs) (S := []) i (by (repeat ((with_reducible apply Z2); focus (first | (with_reducible (repeat (first | exact Z0 | apply Z1)); done) | (repeat (first | exact Z0 | apply Z1))))); exact Z3) (by simp) hv hw ?_
 refine d_fold (b := b) x (pa := pa) (pc := pc) (po := po) (poc := poc) (vb := vb) (va := va) (vc := vc) (V := V) (by (repeat ((with_reducible apply Z2); focus (first | (with_reducible (repeat (first | exact Z0 | apply Z1)); done) | (repeat (first | exact Z0 | apply Z1))))); exact Z3) (by rfl) (by rfl) (by first | exact hV | simp) ?_
 refine ret2 rfl rfl rfl (()) (by rw [wF_nat, hw, fgF, fdF, Option.map_some, Option.map_some, Option.getD_some, Option.getD_some, ← hf]) (by trivial) ?_
 (repeat ((with_reducible apply Z2); focus (first | (with_reducible (repeat (first | exact Z0 | apply Z1)); done) | (repeat (first | exact Z0 | apply Z1))))); (repeat (first | exact Z3 | exact Takes.self | refine takes_drop2 ?_))

theorem flagged_none (pa : Option Addr) (pc : Nat) (po : Option Addr) (poc b : Nat) (x : DS) (hx : DInv x) (z : Int) (hz : z < 0 ∨ (x.vs.length : Int) ≤ z) : Spec Try.prog 23 [.pointer (some ⟨b, 0, none⟩), .int .i64 z] [dR pa pc po poc b x] (fun (_ : Unit) => .tuple #[.int .i64 (fgF (wF x z)), .bool (fdF (wF x z))]) (fun _ => True) (fun _ => [dR pa pc po poc b x]) := by
 refine spec_mk (n := 20) Try.func23 rfl rfl rfl ?_
 intro Γ w0
 simp only [argE, List.cons_append, List.nil_append, Nat.zero_add, Nat.reduceAdd]
 refine c_seq ?_
 refine c_plain (.q 0 (.q 1 (.done))) (by kernel_rfl) ?_
 refine q_assign rfl rfl rfl rfl ?_
 refine q_assign rfl rfl rfl rfl ?_
 refine r_done ?_
 refine k_then_n ?_
 refine c_seq ?_
 refine s_take (A := dR pa pc po poc b x) (by with_reducible (repeat (first | exact Z0 | apply Z1))) ?_
 refine d_open fun vb va vc V hV => ?_
 refine c_plain (.q 0 (.q 1 ((.l 2 [] (.q 3 (.done)))))) (by kernel_rfl) ?_
 refine q_move rfl rfl rfl rfl ?_
 refine q_move rfl rfl rfl rfl ?_
 have sp_1 := atno_spec b vb x.vs.length vc va (.int .i64 x.cost) V (by exact hV) z (by exact hz)
 refine l_call rfl rfl rfl rfl rfl rfl Try.call50 (sp_1) (by (repeat ((with_reducible apply Z2); focus (first | (with_reducible (repeat (first | exact Z0 | apply Z1)); done) | (repeat (first | exact Z0 | apply Z1))))); exact Z3) ?_
 rintro ⟨⟩ -
 try simp only [List.cons_append, List.nil_append]
 refine ag_nil ?_
 refine q_assign rfl rfl rfl rfl ?_
 refine r_done ?_
 refine s_keep [6] (e' := [(6, _)]) rfl ?_
 refine k_then_n ?_
 refine c_seq ?_
 refine c_seq ?_
 refine c_plain (.q 0 (.q 1 (.done))) (by kernel_rfl) ?_
 refine q_move rfl rfl rfl rfl ?_
 refine q_eq_nil rfl rfl rfl rfl Try.underlying105 ?_
 refine s_eq 11 rfl (v' := .bool true) rfl ?_
 refine r_done ?_
 refine k_then_n ?_
 refine c_cond_t rfl ?_
 refine c_seq ?_
 refine c_plain (.q 0 (.q 1 (.done))) (by kernel_rfl) ?_
 refine q_assign rfl rfl rfl rfl ?_
 refine q_assign rfl rfl rfl rfl ?_
 refine r_done ?_
 refine k_then_n ?_
 refine c_ret ?_
 refine k_then_ret ?_
 refine d_fold (b := b) x (pa := pa) (pc := pc) (po := po) (poc := poc) (vb := vb) (va := va) (vc := vc) (V := V) (by (repeat ((with_reducible apply Z2); focus (first | (with_reducible (repeat (first | exact Z0 | apply Z1)); done) | (repeat (first | exact Z0 | apply Z1))))); exact Z3) (by rfl) (by rfl) (by first | exact hV | simp) ?_
 refine ret2 rfl rfl rfl (()) (by rw [wF_none hz]; rfl) (by trivial) ?_
 (repeat ((with_reducible apply Z2); focus (first | (with_reducible (repeat (first | exact Z0 | apply Z1)); done) | (repeat (first | exact Z0 | apply Z1))))); (repeat (first | exact Z3 | exact Takes.self | refine takes_drop2 ?_))

theorem flagged_spec (pa : Option Addr) (pc : Nat) (po : Option Addr) (poc b : Nat) (x : DS) (hx : DInv x) (z : Int) : Spec Try.prog 23 [.pointer (some ⟨b, 0, none⟩), .int .i64 z] [dR pa pc po poc b x] (fun (_ : Unit) => .tuple #[.int .i64 (fgF (wF x z)), .bool (fdF (wF x z))]) (fun _ => True) (fun _ => [dR pa pc po poc b x]) := by
  rcases wF_cases x z with ⟨i, w, rfl, hw⟩ | hz
  · exact flagged_some pa pc po poc b x hx i w hw
  · exact flagged_none pa pc po poc b x hx z hz

theorem reads_some (pa : Option Addr) (pc : Nat) (po : Option Addr) (poc b : Nat) (x : DS) (hx : DInv x) (i : Nat) (w : V4) (hw : x.vs[i]? = some w) : Spec Try.prog 25 [.pointer (some ⟨b, 0, none⟩), .int .i64 ((i : Nat) : Int)] [dR pa pc po poc b x] (fun (r : Option Addr × Nat) => .tuple #[.slice r.1 (rdsF (wF x (i : Int))).length r.2, .bool (wF x (i : Int)).isSome]) (fun r => True) (fun r => [dR pa pc po poc b x, own 1 encU r.1 r.2 (rdsF (wF x (i : Int)))]) := by
 refine spec_mk (n := 17) Try.func25 rfl rfl rfl ?_
 intro Γ w0
 simp only [argE, List.cons_append, List.nil_append, Nat.zero_add, Nat.reduceAdd]
 have hwc := hx.vs w (List.mem_of_getElem? hw)
 have hl_ := hwc.1.len
 refine c_seq ?_
 refine c_plain (.q 0 (.q 1 (.done))) (by kernel_rfl) ?_
 refine q_assign rfl rfl rfl rfl ?_
 refine q_assign rfl rfl rfl rfl ?_
 refine r_done ?_
 refine k_then_n ?_
 refine c_seq ?_
 refine s_take (A := dR pa pc po poc b x) (by with_reducible (repeat (first | exact Z0 | apply Z1))) ?_
 refine d_open fun vb va vc V hV => ?_
 refine s_restL_take (res := varA) (V := V) (Y := x.vs) (S := []) i (by with_reducible (repeat (first | exact Z0 | apply Z1))) (by simp) hw fun v_ hv => ?_
 obtain ⟨va_, vb_, fl, fg⟩ := v_
 refine s_var (by with_reducible (repeat (first | exact Z0 | apply Z1))) fun hf => ?_
 refine s_vec (by with_reducible (repeat (first | exact Z0 | apply Z1))) fun rb ra rc hra_ => ?_
 simp only at hra_
 subst hra_
 refine s_vec (by first | (with_reducible (repeat (first | exact Z0 | apply Z1)); done) | (repeat (first | exact Z0 | apply Z1))) fun wb wa wc hwa_ => ?_
 simp only at hwa_
 subst hwa_
 simp only at hf
 refine c_plain (.q 0 (.q 1 ((.l 2 [] (.q 3 (.done)))))) (by kernel_rfl) ?_
 refine q_move rfl rfl rfl rfl ?_
 refine q_move rfl rfl rfl rfl ?_
 have sp_1 := at_spec b vb x.vs.length vc va (.int .i64 x.cost) V (by exact hV) i (some ⟨rb, 0, none⟩, some ⟨wb, 0, none⟩, fl, fg) hv
 refine l_call rfl rfl rfl rfl rfl rfl Try.call50 (sp_1) (by (repeat ((with_reducible apply Z2); focus (first | (with_reducible (repeat (first | exact Z0 | apply Z1)); done) | (repeat (first | exact Z0 | apply Z1))))); exact Z3) ?_
 rintro ⟨ab, ao_⟩ haa
 try simp only [List.cons_append, List.nil_append]
 refine ag_nil ?_
 refine q_assign rfl rfl rfl rfl ?_
 refine r_done ?_
 refine s_keep [6] (e' := [(6, _)]) rfl ?_
 refine k_then_n ?_
 refine c_seq ?_
 refine c_seq ?_
 refine c_plain (.q 0 (.q 1 (.done))) (by kernel_rfl) ?_
 refine q_move rfl rfl rfl rfl ?_
 refine q_eq_nil rfl rfl rfl rfl Try.underlying105 ?_
 refine s_eq 11 rfl (v' := .bool false) rfl ?_
 refine r_done ?_
 refine k_then_n ?_
 refine c_cond_f rfl ?_
 refine c_skip ?_
 refine k_then_n ?_
 refine c_seq ?_
 refine c_plain (.q 0 (.q 1 (.q 2 (.q 3 ((.l 4 [] (.q 5 (.q 6 (.done))))))))) (by kernel_rfl) ?_
 refine q_move rfl rfl rfl rfl ?_
 refine q_nil_p rfl rfl rfl rfl ?_
 refine q_field (k := 0) rfl rfl rfl rfl Try.underlying99 rfl Try.sizeOf82 rfl ?_
 refine q_load_O (v := (.pointer (some ⟨rb, 0, none⟩))) (j := 0) (k' := i) (enc := encV) (off := ao_) rfl rfl rfl rfl Try.isAgg82 haa encV_len hv (by with_reducible (repeat (first | exact Z0 | apply Z1))) (by first | rfl | exact (Nat.add_zero _).symm | omega) (by rfl) ?_
 have sp_2 := Vc.list_spec rb w.1 ra w.1.length rc (by rfl) (by omega)
 refine l_call rfl rfl rfl rfl rfl rfl Try.call39 (sp_2) (by (repeat ((with_reducible apply Z2); focus (first | (with_reducible (repeat (first | exact Z0 | apply Z1)); done) | (repeat (first | exact Z0 | apply Z1))))); exact Z3) ?_
 rintro ⟨qa, qc⟩ -
 try simp only [List.cons_append, List.nil_append]
 refine ag_nil ?_
 refine q_assign rfl rfl rfl rfl ?_
 refine q_assign rfl rfl rfl rfl ?_
 refine r_done ?_
 refine s_keep [4, 5] (e' := [(4, _), (5, _)]) rfl ?_
 refine k_then_n ?_
 refine c_ret ?_
 refine s_vecF rb ra rc w.1 (by (repeat ((with_reducible apply Z2); focus (first | (with_reducible (repeat (first | exact Z0 | apply Z1)); done) | (repeat (first | exact Z0 | apply Z1))))); exact Z3) ?_
 refine s_vecF wb wa wc w.2.1 (by (repeat ((with_reducible apply Z2); focus (first | (with_reducible (repeat (first | exact Z0 | apply Z1)); done) | (repeat (first | exact Z0 | apply Z1))))); exact Z3) ?_
 refine s_varF (some ⟨rb, 0, none⟩, some ⟨wb, 0, none⟩, fl, fg) w (by (repeat ((with_reducible apply Z2); focus (first | (with_reducible (repeat (first | exact Z0 | apply Z1)); done) | (repeat (first | exact Z0 | apply Z1))))); exact Z3) hf ?_
 refine s_restL_back (res := varA) (V := V) (Y := x.vs) (S := []) i (by (repeat ((with_reducible apply Z2); focus (first | (with_reducible (repeat (first | exact Z0 | apply Z1)); done) | (repeat (first | exact Z0 | apply Z1))))); exact Z3) (by simp) hv hw ?_
 refine d_fold (b := b) x (pa := pa) (pc := pc) (po := po) (poc := poc) (vb := vb) (va := va) (vc := vc) (V := V) (by (repeat ((with_reducible apply Z2); focus (first | (with_reducible (repeat (first | exact Z0 | apply Z1)); done) | (repeat (first | exact Z0 | apply Z1))))); exact Z3) (by rfl) (by rfl) (by first | exact hV | simp) ?_
 refine ret2 rfl rfl rfl ((qa, qc)) (by rw [wF_nat, hw]; rfl) (by trivial) ?_
 simp only [wF_nat, hw, rdsF, Option.map_some, Option.getD_some]
 (repeat ((with_reducible apply Z2); focus (first | (with_reducible (repeat (first | exact Z0 | apply Z1)); done) | (repeat (first | exact Z0 | apply Z1))))); (repeat (first | exact Z3 | exact Takes.self | refine takes_drop2 ?_))

theorem reads_none (pa : Option Addr) (pc : Nat) (po : Option Addr) (poc b : Nat) (x : DS) (hx : DInv x) (z : Int) (hz : z < 0 ∨ (x.vs.length : Int) ≤ z) : Spec Try.prog 25 [.pointer (some ⟨b, 0, none⟩), .int .i64 z] [dR pa pc po poc b x] (fun (r : Option Addr × Nat) => .tuple #[.slice r.1 (rdsF (wF x z)).length r.2, .bool (wF x z).isSome]) (fun r => True) (fun r => [dR pa pc po poc b x, own 1 encU r.1 r.2 (rdsF (wF x z))]) := by
 refine spec_mk (n := 17) Try.func25 rfl rfl rfl ?_
 intro Γ w0
 simp only [argE, List.cons_append, List.nil_append, Nat.zero_add, Nat.reduceAdd]
 refine c_seq ?_
 refine c_plain (.q 0 (.q 1 (.done))) (by kernel_rfl) ?_
 refine q_assign rfl rfl rfl rfl ?_
 refine q_assign rfl rfl rfl rfl ?_
 refine r_done ?_
 refine k_then_n ?_
 refine c_seq ?_
 refine s_take (A := dR pa pc po poc b x) (by with_reducible (repeat (first | exact Z0 | apply Z1))) ?_
 refine d_open fun vb va vc V hV => ?_
 refine c_plain (.q 0 (.q 1 ((.l 2 [] (.q 3 (.done)))))) (by kernel_rfl) ?_
 refine q_move rfl rfl rfl rfl ?_
 refine q_move rfl rfl rfl rfl ?_
 have sp_1 := atno_spec b vb x.vs.length vc va (.int .i64 x.cost) V (by exact hV) z (by exact hz)
 refine l_call rfl rfl rfl rfl rfl rfl Try.call50 (sp_1) (by (repeat ((with_reducible apply Z2); focus (first | (with_reducible (repeat (first | exact Z0 | apply Z1)); done) | (repeat (first | exact Z0 | apply Z1))))); exact Z3) ?_
 rintro ⟨⟩ -
 try simp only [List.cons_append, List.nil_append]
 refine ag_nil ?_
 refine q_assign rfl rfl rfl rfl ?_
 refine r_done ?_
 refine s_keep [6] (e' := [(6, _)]) rfl ?_
 refine k_then_n ?_
 refine c_seq ?_
 refine c_seq ?_
 refine c_plain (.q 0 (.q 1 (.done))) (by kernel_rfl) ?_
 refine q_move rfl rfl rfl rfl ?_
 refine q_eq_nil rfl rfl rfl rfl Try.underlying105 ?_
 refine s_eq 11 rfl (v' := .bool true) rfl ?_
 refine r_done ?_
 refine k_then_n ?_
 refine c_cond_t rfl ?_
 refine c_seq ?_
 refine c_plain (.q 0 (.q 1 (.done))) (by kernel_rfl) ?_
 refine q_assign rfl rfl rfl rfl ?_
 refine q_assign rfl rfl rfl rfl ?_
 refine r_done ?_
 refine k_then_n ?_
 refine c_ret ?_
 refine k_then_ret ?_
 refine d_fold (b := b) x (pa := pa) (pc := pc) (po := po) (poc := poc) (vb := vb) (va := va) (vc := vc) (V := V) (by (repeat ((with_reducible apply Z2); focus (first | (with_reducible (repeat (first | exact Z0 | apply Z1)); done) | (repeat (first | exact Z0 | apply Z1))))); exact Z3) (by rfl) (by rfl) (by first | exact hV | simp) ?_
 refine s_heap (fun _ h => own_nil (sz := 1) (enc := encU) h) ?_
 refine ret2 rfl rfl rfl ((none, 0)) (by rw [wF_none hz]; rfl) (by trivial) ?_
 simp only [wF_none hz, rdsF, Option.map_none, Option.getD_none]
 (repeat ((with_reducible apply Z2); focus (first | (with_reducible (repeat (first | exact Z0 | apply Z1)); done) | (repeat (first | exact Z0 | apply Z1))))); (repeat (first | exact Z3 | exact Takes.self | refine takes_drop2 ?_))

theorem reads_spec (pa : Option Addr) (pc : Nat) (po : Option Addr) (poc b : Nat) (x : DS) (hx : DInv x) (z : Int) : Spec Try.prog 25 [.pointer (some ⟨b, 0, none⟩), .int .i64 z] [dR pa pc po poc b x] (fun (r : Option Addr × Nat) => .tuple #[.slice r.1 (rdsF (wF x z)).length r.2, .bool (wF x z).isSome]) (fun r => True) (fun r => [dR pa pc po poc b x, own 1 encU r.1 r.2 (rdsF (wF x z))]) := by
  rcases wF_cases x z with ⟨i, w, rfl, hw⟩ | hz
  · exact reads_some pa pc po poc b x hx i w hw
  · exact reads_none pa pc po poc b x hx z hz

theorem writes_some (pa : Option Addr) (pc : Nat) (po : Option Addr) (poc b : Nat) (x : DS) (hx : DInv x) (i : Nat) (w : V4) (hw : x.vs[i]? = some w) : Spec Try.prog 26 [.pointer (some ⟨b, 0, none⟩), .int .i64 ((i : Nat) : Int)] [dR pa pc po poc b x] (fun (r : Option Addr × Nat) => .tuple #[.slice r.1 (wrsF (wF x (i : Int))).length r.2, .bool (wF x (i : Int)).isSome]) (fun r => True) (fun r => [dR pa pc po poc b x, own 1 encU r.1 r.2 (wrsF (wF x (i : Int)))]) := by
 refine spec_mk (n := 17) Try.func26 rfl rfl rfl ?_
 intro Γ w0
 simp only [argE, List.cons_append, List.nil_append, Nat.zero_add, Nat.reduceAdd]
 have hwc := hx.vs w (List.mem_of_getElem? hw)
 have hl_ := hwc.2.len
 refine c_seq ?_
 refine c_plain (.q 0 (.q 1 (.done))) (by kernel_rfl) ?_
 refine q_assign rfl rfl rfl rfl ?_
 refine q_assign rfl rfl rfl rfl ?_
 refine r_done ?_
 refine k_then_n ?_
 refine c_seq ?_
 refine s_take (A := dR pa pc po poc b x) (by with_reducible (repeat (first | exact Z0 | apply Z1))) ?_
 refine d_open fun vb va vc V hV => ?_
 refine s_restL_take (res := varA) (V := V) (Y := x.vs) (S := []) i (by with_reducible (repeat (first | exact Z0 | apply Z1))) (by simp) hw fun v_ hv => ?_
 obtain ⟨va_, vb_, fl, fg⟩ := v_
 refine s_var (by with_reducible (repeat (first | exact Z0 | apply Z1))) fun hf => ?_
 refine s_vec (by with_reducible (repeat (first | exact Z0 | apply Z1))) fun rb ra rc hra_ => ?_
 simp only at hra_
 subst hra_
 refine s_vec (by first | (with_reducible (repeat (first | exact Z0 | apply Z1)); done) | (repeat (first | exact Z0 | apply Z1))) fun wb wa wc hwa_ => ?_
 simp only at hwa_
 subst hwa_
 simp only at hf
 refine c_plain (.q 0 (.q 1 ((.l 2 [] (.q 3 (.done)))))) (by kernel_rfl) ?_
 refine q_move rfl rfl rfl rfl ?_
 refine q_move rfl rfl rfl rfl ?_
 have sp_1 := at_spec b vb x.vs.length vc va (.int .i64 x.cost) V (by exact hV) i (some ⟨rb, 0, none⟩, some ⟨wb, 0, none⟩, fl, fg) hv
 refine l_call rfl rfl rfl rfl rfl rfl Try.call50 (sp_1) (by (repeat ((with_reducible apply Z2); focus (first | (with_reducible (repeat (first | exact Z0 | apply Z1)); done) | (repeat (first | exact Z0 | apply Z1))))); exact Z3) ?_
 rintro ⟨ab, ao_⟩ haa
 try simp only [List.cons_append, List.nil_append]
 refine ag_nil ?_
 refine q_assign rfl rfl rfl rfl ?_
 refine r_done ?_
 refine s_keep [6] (e' := [(6, _)]) rfl ?_
 refine k_then_n ?_
 refine c_seq ?_
 refine c_seq ?_
 refine c_plain (.q 0 (.q 1 (.done))) (by kernel_rfl) ?_
 refine q_move rfl rfl rfl rfl ?_
 refine q_eq_nil rfl rfl rfl rfl Try.underlying105 ?_
 refine s_eq 11 rfl (v' := .bool false) rfl ?_
 refine r_done ?_
 refine k_then_n ?_
 refine c_cond_f rfl ?_
 refine c_skip ?_
 refine k_then_n ?_
 refine c_seq ?_
 refine c_plain (.q 0 (.q 1 (.q 2 (.q 3 ((.l 4 [] (.q 5 (.q 6 (.done))))))))) (by kernel_rfl) ?_
 refine q_move rfl rfl rfl rfl ?_
 refine q_nil_p rfl rfl rfl rfl ?_
 refine q_field (k := 1) rfl rfl rfl rfl Try.underlying99 rfl Try.sizeOf82 rfl ?_
 refine q_load_O (v := (.pointer (some ⟨wb, 0, none⟩))) (j := 1) (k' := i) (enc := encV) (off := ao_) rfl rfl rfl rfl Try.isAgg82 haa encV_len hv (by with_reducible (repeat (first | exact Z0 | apply Z1))) (by first | rfl | exact (Nat.add_zero _).symm | omega) (by rfl) ?_
 have sp_2 := Vc.list_spec wb w.2.1 wa w.2.1.length wc (by rfl) (by omega)
 refine l_call rfl rfl rfl rfl rfl rfl Try.call39 (sp_2) (by (repeat ((with_reducible apply Z2); focus (first | (with_reducible (repeat (first | exact Z0 | apply Z1)); done) | (repeat (first | exact Z0 | apply Z1))))); exact Z3) ?_
 rintro ⟨qa, qc⟩ -
 try simp only [List.cons_append, List.nil_append]
 refine ag_nil ?_
 refine q_assign rfl rfl rfl rfl ?_
 refine q_assign rfl rfl rfl rfl ?_
 refine r_done ?_
 refine s_keep [4, 5] (e' := [(4, _), (5, _)]) rfl ?_
 refine k_then_n ?_
 refine c_ret ?_
 refine s_vecF rb ra rc w.1 (by (repeat ((with_reducible apply Z2); focus (first | (with_reducible (repeat (first | exact Z0 | apply Z1)); done) | (repeat (first | exact Z0 | apply Z1))))); exact Z3) ?_
 refine s_vecF wb wa wc w.2.1 (by (repeat ((with_reducible apply Z2); focus (first | (with_reducible (repeat (first | exact Z0 | apply Z1)); done) | (repeat (first | exact Z0 | apply Z1))))); exact Z3) ?_
 refine s_varF (some ⟨rb, 0, none⟩, some ⟨wb, 0, none⟩, fl, fg) w (by (repeat ((with_reducible apply Z2); focus (first | (with_reducible (repeat (first | exact Z0 | apply Z1)); done) | (repeat (first | exact Z0 | apply Z1))))); exact Z3) hf ?_
 refine s_restL_back (res := varA) (V := V) (Y := x.vs) (S := []) i (by (repeat ((with_reducible apply Z2); focus (first | (with_reducible (repeat (first | exact Z0 | apply Z1)); done) | (repeat (first | exact Z0 | apply Z1))))); exact Z3) (by simp) hv hw ?_
 refine d_fold (b := b) x (pa := pa) (pc := pc) (po := po) (poc := poc) (vb := vb) (va := va) (vc := vc) (V := V) (by (repeat ((with_reducible apply Z2); focus (first | (with_reducible (repeat (first | exact Z0 | apply Z1)); done) | (repeat (first | exact Z0 | apply Z1))))); exact Z3) (by rfl) (by rfl) (by first | exact hV | simp) ?_
 refine ret2 rfl rfl rfl ((qa, qc)) (by rw [wF_nat, hw]; rfl) (by trivial) ?_
 simp only [wF_nat, hw, wrsF, Option.map_some, Option.getD_some]
 (repeat ((with_reducible apply Z2); focus (first | (with_reducible (repeat (first | exact Z0 | apply Z1)); done) | (repeat (first | exact Z0 | apply Z1))))); (repeat (first | exact Z3 | exact Takes.self | refine takes_drop2 ?_))

theorem writes_none (pa : Option Addr) (pc : Nat) (po : Option Addr) (poc b : Nat) (x : DS) (hx : DInv x) (z : Int) (hz : z < 0 ∨ (x.vs.length : Int) ≤ z) : Spec Try.prog 26 [.pointer (some ⟨b, 0, none⟩), .int .i64 z] [dR pa pc po poc b x] (fun (r : Option Addr × Nat) => .tuple #[.slice r.1 (wrsF (wF x z)).length r.2, .bool (wF x z).isSome]) (fun r => True) (fun r => [dR pa pc po poc b x, own 1 encU r.1 r.2 (wrsF (wF x z))]) := by
 refine spec_mk (n := 17) Try.func26 rfl rfl rfl ?_
 intro Γ w0
 simp only [argE, List.cons_append, List.nil_append, Nat.zero_add, Nat.reduceAdd]
 refine c_seq ?_
 refine c_plain (.q 0 (.q 1 (.done))) (by kernel_rfl) ?_
 refine q_assign rfl rfl rfl rfl ?_
 refine q_assign rfl rfl rfl rfl ?_
 refine r_done ?_
 refine k_then_n ?_
 refine c_seq ?_
 refine s_take (A := dR pa pc po poc b x) (by with_reducible (repeat (first | exact Z0 | apply Z1))) ?_
 refine d_open fun vb va vc V hV => ?_
 refine c_plain (.q 0 (.q 1 ((.l 2 [] (.q 3 (.done)))))) (by kernel_rfl) ?_
 refine q_move rfl rfl rfl rfl ?_
 refine q_move rfl rfl rfl rfl ?_
 have sp_1 := atno_spec b vb x.vs.length vc va (.int .i64 x.cost) V (by exact hV) z (by exact hz)
 refine l_call rfl rfl rfl rfl rfl rfl Try.call50 (sp_1) (by (repeat ((with_reducible apply Z2); focus (first | (with_reducible (repeat (first | exact Z0 | apply Z1)); done) | (repeat (first | exact Z0 | apply Z1))))); exact Z3) ?_
 rintro ⟨⟩ -
 try simp only [List.cons_append, List.nil_append]
 refine ag_nil ?_
 refine q_assign rfl rfl rfl rfl ?_
 refine r_done ?_
 refine s_keep [6] (e' := [(6, _)]) rfl ?_
 refine k_then_n ?_
 refine c_seq ?_
 refine c_seq ?_
 refine c_plain (.q 0 (.q 1 (.done))) (by kernel_rfl) ?_
 refine q_move rfl rfl rfl rfl ?_
 refine q_eq_nil rfl rfl rfl rfl Try.underlying105 ?_
 refine s_eq 11 rfl (v' := .bool true) rfl ?_
 refine r_done ?_
 refine k_then_n ?_
 refine c_cond_t rfl ?_
 refine c_seq ?_
 refine c_plain (.q 0 (.q 1 (.done))) (by kernel_rfl) ?_
 refine q_assign rfl rfl rfl rfl ?_
 refine q_assign rfl rfl rfl rfl ?_
 refine r_done ?_
 refine k_then_n ?_
 refine c_ret ?_
 refine k_then_ret ?_
 refine d_fold (b := b) x (pa := pa) (pc := pc) (po := po) (poc := poc) (vb := vb) (va := va) (vc := vc) (V := V) (by (repeat ((with_reducible apply Z2); focus (first | (with_reducible (repeat (first | exact Z0 | apply Z1)); done) | (repeat (first | exact Z0 | apply Z1))))); exact Z3) (by rfl) (by rfl) (by first | exact hV | simp) ?_
 refine s_heap (fun _ h => own_nil (sz := 1) (enc := encU) h) ?_
 refine ret2 rfl rfl rfl ((none, 0)) (by rw [wF_none hz]; rfl) (by trivial) ?_
 simp only [wF_none hz, wrsF, Option.map_none, Option.getD_none]
 (repeat ((with_reducible apply Z2); focus (first | (with_reducible (repeat (first | exact Z0 | apply Z1)); done) | (repeat (first | exact Z0 | apply Z1))))); (repeat (first | exact Z3 | exact Takes.self | refine takes_drop2 ?_))

theorem writes_spec (pa : Option Addr) (pc : Nat) (po : Option Addr) (poc b : Nat) (x : DS) (hx : DInv x) (z : Int) : Spec Try.prog 26 [.pointer (some ⟨b, 0, none⟩), .int .i64 z] [dR pa pc po poc b x] (fun (r : Option Addr × Nat) => .tuple #[.slice r.1 (wrsF (wF x z)).length r.2, .bool (wF x z).isSome]) (fun r => True) (fun r => [dR pa pc po poc b x, own 1 encU r.1 r.2 (wrsF (wF x z))]) := by
  rcases wF_cases x z with ⟨i, w, rfl, hw⟩ | hz
  · exact writes_some pa pc po poc b x hx i w hw
  · exact writes_none pa pc po poc b x hx z hz

theorem flags_spec (pa : Option Addr) (pc : Nat) (po : Option Addr) (poc b : Nat) (x : DS) (hx : DInv x) : Spec Try.prog 18 [.pointer (some ⟨b, 0, none⟩)] [dR pa pc po poc b x] (fun (r : Option Addr × Nat) => .slice r.1 (flF x.vs).length r.2) (fun r => True) (fun r => [dR pa pc po poc b x, own 2 enc2 r.1 r.2 (flF x.vs)]) := by
 refine spec_mk (n := 29) Try.func18 rfl rfl rfl ?_
 intro Γ w0
 simp only [argE, List.cons_append, List.nil_append, Nat.zero_add, Nat.reduceAdd]
 have hva := hx.v.ck.sh.va
 have hvl := hx.len
 refine c_seq ?_
 refine c_plain (.q 0 (.done)) (by kernel_rfl) ?_
 refine q_assign rfl rfl rfl rfl ?_
 refine r_done ?_
 refine k_then_n ?_
 refine c_seq ?_
 refine c_plain (.q 0 (.done)) (by kernel_rfl) ?_
 refine q_assign rfl rfl rfl rfl ?_
 refine r_done ?_
 refine k_then_n ?_
 refine c_seq ?_
 refine c_seq ?_
 refine s_take (A := dR pa pc po poc b x) (by with_reducible (repeat (first | exact Z0 | apply Z1))) ?_
 refine d_open fun vb va vc V hV => ?_
 refine c_plain (.q 0 ((.l 1 [] (.done)))) (by kernel_rfl) ?_
 refine q_move rfl rfl rfl rfl ?_
 have sp_1 := there_spec b vb (.slice va x.vs.length vc) (.int .i64 x.cost)
 refine l_call rfl rfl rfl rfl rfl rfl Try.call38 (sp_1) (by (repeat ((with_reducible apply Z2); focus (first | (with_reducible (repeat (first | exact Z0 | apply Z1)); done) | (repeat (first | exact Z0 | apply Z1))))); exact Z3) ?_
 rintro ⟨⟩ -
 try simp only [List.cons_append, List.nil_append]
 refine ag_nil ?_
 refine r_done ?_
 refine k_then_n ?_
 refine c_cond_t rfl ?_
 refine c_seq ?_
 refine c_plain (.q 0 (.q 1 (.q 2 (.q 3 (.q 4 (.q 5 (.done))))))) (by kernel_rfl) ?_
 refine q_move rfl rfl rfl rfl ?_
 refine q_nil_p rfl rfl rfl rfl ?_
 refine q_field (k := 1) rfl rfl rfl rfl Try.underlying91 rfl Try.sizeOf89 rfl ?_
 refine q_load_c (j := 1) rfl rfl rfl rfl Try.isAgg89 (by with_reducible (repeat (first | exact Z0 | apply Z1))) (by first | rfl | exact (Nat.add_zero _).symm) (by rfl) ?_
 refine q_len rfl rfl rfl rfl Try.underlying89 ?_
 refine q_move rfl rfl rfl rfl ?_
 refine r_done ?_
 refine s_keep [3, 11, 12, 13] (e' := [(3, _), (11, _), (12, _), (13, _)]) rfl ?_
 refine k_then_n ?_
 refine c_block ?_
 refine s_heap (fun _ h => own_nil (sz := 2) (enc := enc2) h) ?_
 refine c_loop2 (α := Nat × Option Addr × Nat) (fun (x_ : Nat × Option Addr × Nat) => match x_ with | (k, ga, gc) => k ≤ x.vs.length) (fun (x_ : Nat × Option Addr × Nat) => match x_ with | (k, ga, gc) => [(3, .slice ga ((flF (x.vs.take k)).length) gc), (13, .int .i64 ((k : Nat) : Int))]) (fun (x_ : Nat × Option Addr × Nat) => match x_ with | (k, ga, gc) => [restL varA V x.vs [], own 2 enc2 ga gc (flF (x.vs.take k))]) (fun (x_ : Nat × Option Addr × Nat) => match x_ with | (k, ga, gc) => x.vs.length - k) [11, 12] (er := [(11, _), (12, _)]) rfl (0, none, 0) ?_ (by exact ⟨rfl, rfl, trivial⟩) (by (try dsimp only); (try simp only [Nat.add_zero, Nat.zero_add]); rw [List.take_zero, show flF ([] : List V4) = [] from rfl]; (repeat ((with_reducible apply Z2); focus (first | (with_reducible (repeat (first | exact Z0 | apply Z1)); done) | (repeat (first | exact Z0 | apply Z1))))); exact Z3) ?_
 · exact Nat.zero_le _
 rintro ⟨k, ga, gc⟩ hle_k
 try simp only [List.cons_append, List.nil_append]
 have hfl := flF_len (x.vs.take k)
 rw [List.length_take] at hfl
 refine c_seq ?_
 refine c_plain (.q 0 (.done)) (by kernel_rfl) ?_
 refine q_int rfl rfl rfl rfl rfl (b_lss _ _ _ _) ?_
 refine r_done ?_
 refine k_then_n ?_
 refine c_seq ?_
 refine c_cond_p rfl (fun hlt => ?_) (fun hlt => ?_)
 ·
  obtain ⟨w, hw⟩ := get_lt (l := x.vs) (i := k) (by omega)
  refine s_restL_take (res := varA) (V := V) (Y := x.vs) (S := []) k (by with_reducible (repeat (first | exact Z0 | apply Z1))) (by simp) hw fun v_ hv => ?_
  obtain ⟨va_, vb_, fl, fg⟩ := v_
  refine s_var (by with_reducible (repeat (first | exact Z0 | apply Z1))) fun hf => ?_
  refine s_vec (by with_reducible (repeat (first | exact Z0 | apply Z1))) fun rb ra rc hra_ => ?_
  simp only at hra_
  subst hra_
  refine s_vec (by first | (with_reducible (repeat (first | exact Z0 | apply Z1)); done) | (repeat (first | exact Z0 | apply Z1))) fun wb wa wc hwa_ => ?_
  simp only at hwa_
  subst hwa_
  simp only at hf
  refine c_skip ?_
  refine k_then_n ?_
  refine c_seq ?_
  refine c_block ?_
  refine c_seq ?_
  refine c_plain (.q 0 (.q 1 (.q 2 ((.l 3 [] (.q 4 ((.l 5 [] (.done))))))))) (by kernel_rfl) ?_
  refine q_move rfl rfl rfl rfl ?_
  refine q_idxO (sz := 3) (k := k) (enc := encV) (xs := V) rfl rfl rfl rfl rfl Try.underlying89 Try.sizeOf99 hv (by first | rfl | omega) (by omega) (by with_reducible (repeat (first | exact Z0 | apply Z1))) ?_
  intro ib16 io16 ha16 hl16 hc16
  refine q_loadN_O (j := 0) (k' := k) (us := [_, _, _, _]) (enc := encV) (off := io16) rfl rfl rfl rfl Try.isAgg99 Try.sizeOf99 ha16 encV_len hv (by with_reducible (repeat (first | exact Z0 | apply Z1))) (by first | rfl | exact (Nat.add_zero _).symm | omega) (by rfl) rfl ?_
  refine l_alloc rfl rfl rfl Try.zeroValue99 (zs := [.pointer none, .pointer none, .int .i64 0, .bool false]) rfl ?_
  intro b5
  refine ag_nil ?_
  refine q_assign rfl rfl rfl rfl ?_
  refine l_store (j := 0) rfl rfl rfl rfl Try.sizeOf99 (us := [_, _, _, _]) rfl rfl rfl (by with_reducible (repeat (first | exact Z0 | apply Z1))) (by first | rfl | exact (Nat.add_zero _).symm) (by first | decide | (simp; done) | omega) ?_
  simp only [setL, List.set]
  refine ag_nil ?_
  refine r_done ?_
  refine s_keep [3, 4, 5, 11, 12, 13] (e' := [(3, _), (4, _), (5, _), (11, _), (12, _), (13, _)]) rfl ?_
  refine k_then_n ?_
  refine c_seq ?_
  refine c_plain (.q 0 (.q 1 (.done))) (by kernel_rfl) ?_
  refine q_field (k := 3) rfl rfl rfl rfl Try.underlying99 rfl Try.sizeOf4 rfl ?_
  refine q_load_c (j := 3) rfl rfl rfl rfl Try.isAgg4 (by with_reducible (repeat (first | exact Z0 | apply Z1))) (by first | rfl | exact (Nat.add_zero _).symm) (by rfl) ?_
  refine r_done ?_
  refine k_then_n ?_
  refine c_cond rfl (fun hfg => ?_) (fun hfg => ?_)
  ·
   try simp only [Bool.and_eq_true, Bool.or_eq_true, Bool.not_eq_true', Bool.not_eq_false', Bool.and_eq_false_iff, Bool.or_eq_false_iff, decide_eq_true_eq, decide_eq_false_iff_not] at hfg
   refine c_plain (.q 0 (.q 1 (.q 2 (.q 3 (.q 4 ((.l 5 [] ((.l 6 [] (.q 7 (.done))))))))))) (by kernel_rfl) ?_
   refine q_move rfl rfl rfl rfl ?_
   refine q_move rfl rfl rfl rfl ?_
   refine q_field (k := 2) rfl rfl rfl rfl Try.underlying99 rfl Try.sizeOf3 rfl ?_
   refine q_load_c (j := 2) rfl rfl rfl rfl Try.isAgg3 (by with_reducible (repeat (first | exact Z0 | apply Z1))) (by first | rfl | exact (Nat.add_zero _).symm) (by rfl) ?_
   refine q_build rfl rfl rfl rfl (vs := [_, _]) (run_buildS Try.underlying67 Try.zeroValue67 (ps := [(0, 1), (1, 1)]) ⟨rfl, Try.sizeOf3, rfl, Try.sizeOf3, trivial⟩ rfl) ?_
   refine l_buildSlice rfl rfl rfl rfl (run_build1 (us := [_, _]) Try.underlying48 Try.sizeOf67 rfl Try.zeroValue67 rfl rfl rfl) ?_
   intro b25
   refine ag_nil ?_
   refine l_append (sz := 2) (enc := enc2) (xs := (flF (x.vs.take k))) rfl rfl rfl rfl rfl Try.underlying48 Try.typeInfo67 rfl rfl rfl (by decide) (by with_reducible (repeat (first | exact Z0 | apply Z1))) (by with_reducible (repeat (first | exact Z0 | apply Z1))) (by first | rfl | omega | (simp; done) | (simp; omega)) (ys := [(((k : Nat) : Int), fl)]) (rds_some rdn_cells) (by rfl) (by first | rfl | omega) (enc2_len) (enc2_one) (by omega) (by show _ * 16 ≤ _; omega) ?_
   intro ao26 cp26
   refine ag_nil ?_
   refine q_assign rfl rfl rfl rfl ?_
   refine r_done ?_
   refine s_keep [3, 11, 12, 13] (e' := [(3, _), (11, _), (12, _), (13, _)]) rfl ?_
   refine k_blk_n ?_
   refine k_then_n ?_
   refine c_plain (.q 0 (.q 1 (.done))) (by kernel_rfl) ?_
   refine q_int rfl rfl rfl rfl rfl (b_add' _ (by exact fits_i64 (by omega) (by omega))) ?_
   refine q_move rfl rfl rfl rfl ?_
   refine r_done ?_
   refine k_then_n ?_
   have hnx := flF_next hw
   rw [if_pos (by rw [← hf]; exact hfg)] at hnx
   rw [show ((k : Int), w.2.2.1) = ((k : Int), fl) from by rw [← hf]] at hnx
   rw [← hnx]
   refine s_vecF rb ra rc w.1 (by (repeat ((with_reducible apply Z2); focus (first | (with_reducible (repeat (first | exact Z0 | apply Z1)); done) | (repeat (first | exact Z0 | apply Z1))))); exact Z3) ?_
   refine s_vecF wb wa wc w.2.1 (by (repeat ((with_reducible apply Z2); focus (first | (with_reducible (repeat (first | exact Z0 | apply Z1)); done) | (repeat (first | exact Z0 | apply Z1))))); exact Z3) ?_
   refine s_varF (some ⟨rb, 0, none⟩, some ⟨wb, 0, none⟩, fl, fg) w (by (repeat ((with_reducible apply Z2); focus (first | (with_reducible (repeat (first | exact Z0 | apply Z1)); done) | (repeat (first | exact Z0 | apply Z1))))); exact Z3) hf ?_
   refine s_restL_back (res := varA) (V := V) (Y := x.vs) (S := []) k (by (repeat ((with_reducible apply Z2); focus (first | (with_reducible (repeat (first | exact Z0 | apply Z1)); done) | (repeat (first | exact Z0 | apply Z1))))); exact Z3) (by simp) hv hw ?_
   refine s_eq 3 rfl (v' := .slice ao26 (flF (x.vs.take (k + 1))).length cp26) (by rw [hnx, List.length_append]; rfl) ?_
   refine s_eq 3 rfl (v' := .slice ao26 ((flF (x.vs.take (k + 1))).length) cp26) (by first | rfl | (congr 1; done) | (congr 1 <;> first | rfl | omega | (simp; done) | (simp; omega))) ?_
   refine loop_next (x := (k, ga, gc)) ((k + 1, ao26, cp26)) ?_ ?_ ?_ ?_
   · try dsimp only
     omega
   · show x.vs.length - (k + 1) < x.vs.length - k; omega
   · exact ⟨rfl, rfl, rfl, rfl, trivial⟩
   · (try simp only [List.cons_append, List.nil_append]); (repeat ((with_reducible apply Z2); focus (first | (with_reducible (repeat (first | exact Z0 | apply Z1)); done) | (repeat (first | exact Z0 | apply Z1))))); (repeat (first | exact Z3 | exact Takes.self | refine takes_drop2 ?_))
  ·
   try simp only [Bool.and_eq_true, Bool.or_eq_true, Bool.not_eq_true', Bool.not_eq_false', Bool.and_eq_false_iff, Bool.or_eq_false_iff, decide_eq_true_eq, decide_eq_false_iff_not] at hfg
   refine c_skip ?_
   refine k_blk_n ?_
   refine k_then_n ?_
   refine c_plain (.q 0 (.q 1 (.done))) (by kernel_rfl) ?_
   refine q_int rfl rfl rfl rfl rfl (b_add' _ (by exact fits_i64 (by omega) (by omega))) ?_
   refine q_move rfl rfl rfl rfl ?_
   refine r_done ?_
   refine s_keep [3, 11, 12, 13] (e' := [(3, _), (11, _), (12, _), (13, _)]) rfl ?_
   refine k_then_n ?_
   have hnx := flF_next hw
   rw [if_neg (by rw [← hf]; simpa using hfg), List.append_nil] at hnx
   rw [← hnx]
   refine s_vecF rb ra rc w.1 (by (repeat ((with_reducible apply Z2); focus (first | (with_reducible (repeat (first | exact Z0 | apply Z1)); done) | (repeat (first | exact Z0 | apply Z1))))); exact Z3) ?_
   refine s_vecF wb wa wc w.2.1 (by (repeat ((with_reducible apply Z2); focus (first | (with_reducible (repeat (first | exact Z0 | apply Z1)); done) | (repeat (first | exact Z0 | apply Z1))))); exact Z3) ?_
   refine s_varF (some ⟨rb, 0, none⟩, some ⟨wb, 0, none⟩, fl, fg) w (by (repeat ((with_reducible apply Z2); focus (first | (with_reducible (repeat (first | exact Z0 | apply Z1)); done) | (repeat (first | exact Z0 | apply Z1))))); exact Z3) hf ?_
   refine s_restL_back (res := varA) (V := V) (Y := x.vs) (S := []) k (by (repeat ((with_reducible apply Z2); focus (first | (with_reducible (repeat (first | exact Z0 | apply Z1)); done) | (repeat (first | exact Z0 | apply Z1))))); exact Z3) (by simp) hv hw ?_
   refine s_eq 3 rfl (v' := .slice ga ((flF (x.vs.take (k + 1))).length) gc) (by first | rfl | (congr 1; done) | (congr 1 <;> first | rfl | omega | (simp; done) | (simp; omega))) ?_
   refine loop_next (x := (k, ga, gc)) ((k + 1, ga, gc)) ?_ ?_ ?_ ?_
   · try dsimp only
     omega
   · show x.vs.length - (k + 1) < x.vs.length - k; omega
   · exact ⟨rfl, rfl, rfl, rfl, trivial⟩
   · (try simp only [List.cons_append, List.nil_append]); (repeat ((with_reducible apply Z2); focus (first | (with_reducible (repeat (first | exact Z0 | apply Z1)); done) | (repeat (first | exact Z0 | apply Z1))))); (repeat (first | exact Z3 | exact Takes.self | refine takes_drop2 ?_))
 ·
  refine c_exit ?_
  refine k_then_exit ?_
  refine k_then_exit ?_
  refine k_blk_here ?_
  refine k_then_n ?_
  refine c_seq ?_
  refine c_plain (.q 0 (.q 1 (.done))) (by kernel_rfl) ?_
  refine q_move rfl rfl rfl rfl ?_
  refine q_assign rfl rfl rfl rfl ?_
  refine r_done ?_
  refine s_keep [2] (e' := [(2, _)]) rfl ?_
  refine k_then_n ?_
  refine c_ret ?_
  obtain rfl : k = x.vs.length := by omega
  rw [List.take_length]
  refine d_fold (b := b) x (pa := pa) (pc := pc) (po := po) (poc := poc) (vb := vb) (va := va) (vc := vc) (V := V) (by (repeat ((with_reducible apply Z2); focus (first | (with_reducible (repeat (first | exact Z0 | apply Z1)); done) | (repeat (first | exact Z0 | apply Z1))))); exact Z3) (by rfl) (by rfl) (by first | exact hV | simp) ?_
  refine ret1 rfl rfl ((ga, gc)) (by first | rfl | (first | rfl | (congr 1; done) | (congr 1 <;> first | rfl | omega | (simp; done) | (simp; omega)))) (by trivial) ?_
  (repeat ((with_reducible apply Z2); focus (first | (with_reducible (repeat (first | exact Z0 | apply Z1)); done) | (repeat (first | exact Z0 | apply Z1))))); (repeat (first | exact Z3 | exact Takes.self | refine takes_drop2 ?_))
end Go.Ab.Dj
