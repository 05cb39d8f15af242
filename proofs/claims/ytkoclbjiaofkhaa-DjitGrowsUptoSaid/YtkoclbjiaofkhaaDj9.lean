/- A detector by full vectors: events. -/
import Derived.Test.YtkoclbjiaofkhaaDj8
set_option linter.unusedVariables false
set_option linter.unusedSimpArgs false
set_option maxRecDepth 100000
namespace Go.Ab.Dj
open Go Go.Proofs Go.Ab Go.Ab.Fe Go.Ab.Vc
def dEv (x : DS) (e : T3) : DS := deF x e.1 e.2.1 e.2.2
def dAll (x : DS) (es : List T3) : DS := es.foldl dEv x
def canE (x : DS) (e : T3) : Prop := vcanF x.v e.1 e.2.1 e.2.2
instance (x : DS) (e : T3) : Decidable (canE x e) := by unfold canE; infer_instance
/-- All events of a list can be, one behind the other. -/
def okAll (x : DS) (es : List T3) : Prop := ∀ (i : Nat) e, es[i]? = some e → canE (dAll x (es.take i)) e
theorem dAll_next {x : DS} {es : List T3} {i : Nat} {e : T3} (h : es[i]? = some e) : dAll x (es.take (i + 1)) = dEv (dAll x (es.take i)) e := by
  rw [List.take_add_one, h, dAll, dAll, List.foldl_append]; rfl
theorem dAll_inv {x : DS} (hx : DInv x) : ∀ es, DInv (dAll x es)
  | [] => hx
  | e :: es => dAll_inv (de_inv hx _ _ _) es
theorem dAll_n : ∀ (es : List T3) (x : DS), (dAll x es).v.ck.n ≤ x.v.ck.n + es.length ∧ (dAll x es).v.ck.pa = x.v.ck.pa ∧ (dAll x es).v.ck.th = x.v.ck.th ∧ (dAll x es).v.ck.va = x.v.ck.va
  | [], x => ⟨by simp [dAll], rfl, rfl, rfl⟩
  | e :: es, x => by
    have h := dAll_n es (dEv x e)
    have h2 := de_n (x := x) e.1 e.2.1 e.2.2
    refine ⟨?_, h.2.1.trans h2.2.1, h.2.2.1.trans h2.2.2.1, h.2.2.2.trans h2.2.2.2⟩
    have h3 := h.1
    have h4 := h2.1
    simp only [List.length_cons]
    show (dAll (dEv x e) es).v.ck.n ≤ _
    have : (dEv x e).v.ck.n ≤ x.v.ck.n + 1 := h4
    omega
theorem okAll_next {x : DS} {es : List T3} {i : Nat} {e : T3} (h : es[i]? = some e) (ho : okAll x (es.take i)) (hc : canE (dAll x (es.take i)) e) : okAll x (es.take (i + 1)) := by
  intro j q hj
  have hi := (List.getElem?_eq_some_iff.1 h).1
  have hj2 := (List.getElem?_eq_some_iff.1 hj).1
  rw [List.length_take] at hj2
  rw [List.getElem?_take_of_lt (by omega)] at hj
  rw [List.take_take, Nat.min_eq_left (by omega)]
  rcases Nat.lt_or_ge j i with h1 | h1
  · have := ho j q (by rw [List.getElem?_take_of_lt h1]; exact hj)
    rwa [List.take_take, Nat.min_eq_left (by omega)] at this
  · obtain rfl : j = i := by omega
    rw [h] at hj; cases hj; exact hc
theorem wF_acc {x : DS} {k t o : Int} {l : List Int} (hv : vcanF x.v k t o) (hk : k = 1 ∨ k = 2) (hl : x.v.th t = some l) (h0 : 0 ≤ o) (h1 : o < x.vs.length) (z : Int) :
    wF (deF x k t o) z = if z = o then (wF x z).map (acW x.v.ck.n k t l) else wF x z := by
  obtain ⟨w, hw⟩ := get_lt (l := x.vs) (i := o.toNat) (by omega)
  rw [de_acc hv hk hw hl]
  unfold wF
  show (if 0 ≤ z then (x.vs.set o.toNat _)[z.toNat]? else none) = _
  by_cases e : z = o
  · subst e; rw [if_pos h0, if_pos rfl, if_pos h0, List.getElem?_set_self (by omega), hw]; rfl
  · rw [if_neg e]
    split
    · rw [List.getElem?_set_ne (by omega)]
    · rfl
theorem wF_no {x : DS} {k t o : Int} (hv : vcanF x.v k t o) (hk : ¬ (k = 1 ∨ k = 2)) (z : Int) : wF (deF x k t o) z = wF x z := by
  rw [de_no hv (by omega) (by omega)]; rfl
theorem de_v {x : DS} {k t o : Int} (hv : vcanF x.v k t o) : (deF x k t o).v = vnF x.v k t o := by rw [deF, if_pos hv]
theorem de_len {x : DS} {k t o : Int} : (deF x k t o).vs.length = x.vs.length := by
  unfold deF
  split
  · unfold acF
    split
    · rw [List.length_set]
    · rfl
  · rfl
theorem events_spec (pa : Option Addr) (pc : Nat) (po : Option Addr) (poc b : Nat) (x : DS) (hx : DInv x) (hn : x.v.ck.n ≤ 100000000000000) (pl : List Int) (hpl : x.v.ck.pa = pl) (xs : List T3) (ao : Option Addr) (n c : Nat) (A : HProp) (hr : RdS A ao (xs.flatMap enc3)) (hxn : xs.length = n) (hb : n ≤ 4000000) : Spec Try.prog 22 [.pointer (some ⟨b, 0, none⟩), .slice ao n c] [A, dR pa pc po poc b x, own 1 encZ pa pc pl, own 1 encZ po poc pl] (fun (i : Nat) => .tuple #[.int .i64 ((i : Nat) : Int), .int .i64 (if i = n then 0 else 6)]) (fun i => i ≤ n ∧ okAll x (xs.take i) ∧ (i < n → ∀ e, xs[i]? = some e → ¬ canE (dAll x (xs.take i)) e)) (fun i => [A, dR pa pc po poc b (dAll x (xs.take i)), own 1 encZ pa pc pl, own 1 encZ po poc pl]) := by
 refine spec_mk (n := 29) Try.func22 rfl rfl rfl ?_
 intro Γ w0
 simp only [argE, List.cons_append, List.nil_append, Nat.zero_add, Nat.reduceAdd]
 refine c_seq ?_
 refine c_plain (.q 0 (.q 1 (.done))) (by kernel_rfl) ?_
 refine q_assign rfl rfl rfl rfl ?_
 refine q_assign rfl rfl rfl rfl ?_
 refine r_done ?_
 refine k_then_n ?_
 refine c_seq ?_
 refine c_seq ?_
 refine c_plain (.q 0 ((.l 1 [] (.q 2 (.done))))) (by kernel_rfl) ?_
 refine q_move rfl rfl rfl rfl ?_
 refine s_take (A := dR pa pc po poc b x) (by with_reducible (repeat (first | exact Z0 | apply Z1))) ?_
 refine d_open fun vb va vc V hV => ?_
 have sp_1 := there_spec b vb (.slice va x.vs.length vc) (.int .i64 x.cost)
 refine l_call rfl rfl rfl rfl rfl rfl Try.call38 (sp_1) (by (repeat ((with_reducible apply Z2); focus (first | (with_reducible (repeat (first | exact Z0 | apply Z1)); done) | (repeat (first | exact Z0 | apply Z1))))); exact Z3) ?_
 rintro ⟨⟩ -
 try simp only [List.cons_append, List.nil_append]
 refine ag_nil ?_
 refine d_fold (b := b) x (pa := pa) (pc := pc) (po := po) (poc := poc) (vb := vb) (va := va) (vc := vc) (V := V) (by (repeat ((with_reducible apply Z2); focus (first | (with_reducible (repeat (first | exact Z0 | apply Z1)); done) | (repeat (first | exact Z0 | apply Z1))))); exact Z3) (by rfl) (by rfl) (by first | exact hV | simp) ?_
 refine q_not rfl rfl rfl rfl ?_
 refine s_eq 11 rfl (v' := .bool false) rfl ?_
 refine r_done ?_
 refine s_keep [0, 1, 11] (e' := [(0, _), (1, _), (11, _)]) rfl ?_
 refine k_then_n ?_
 refine c_cond_f rfl ?_
 refine c_skip ?_
 refine k_then_n ?_
 refine c_seq ?_
 refine c_seq ?_
 refine c_plain (.q 0 (.q 1 (.q 2 (.done)))) (by kernel_rfl) ?_
 refine q_move rfl rfl rfl rfl ?_
 refine q_len rfl rfl rfl rfl Try.underlying25 ?_
 refine q_move rfl rfl rfl rfl ?_
 refine r_done ?_
 refine k_then_n ?_
 refine c_block ?_
 refine c_loop2 (α := Nat) (fun (i : Nat) => i ≤ n ∧ (okAll x (xs.take i))) (fun (i : Nat) => [(14, .int .i64 ((i : Nat) : Int))]) (fun (i : Nat) => [dR pa pc po poc b (dAll x (xs.take i)), own 1 encZ pa pc pl, own 1 encZ po poc pl]) (fun (i : Nat) => n - i) [0, 1, 12, 13] (er := [(0, _), (1, _), (12, _), (13, _)]) rfl (0) ?_ (by exact ⟨rfl, trivial⟩) (by (try dsimp only); (try simp only [Nat.add_zero, Nat.zero_add]); (repeat ((with_reducible apply Z2); focus (first | (with_reducible (repeat (first | exact Z0 | apply Z1)); done) | (repeat (first | exact Z0 | apply Z1))))); exact Z3) ?_
 · exact ⟨Nat.zero_le _, fun j e h => by simp at h⟩
 rintro i ⟨hle_i, ho⟩
 try simp only [List.cons_append, List.nil_append]
 obtain ⟨hdn, hdp, hdt, hdv⟩ := dAll_n (xs.take i) x
 rw [List.length_take] at hdn
 refine c_seq ?_
 refine c_plain (.q 0 (.done)) (by kernel_rfl) ?_
 refine q_int rfl rfl rfl rfl rfl (b_lss _ _ _ _) ?_
 refine r_done ?_
 refine k_then_n ?_
 refine c_seq ?_
 refine c_cond_p rfl (fun hlt => ?_) (fun hlt => ?_)
 ·
  refine c_skip ?_
  refine k_then_n ?_
  refine c_seq ?_
  refine c_block ?_
  refine c_seq ?_
  refine c_plain (.q 0 (.q 1 (.q 2 ((.l 3 [] (.q 4 ((.l 5 [] (.done))))))))) (by kernel_rfl) ?_
  refine q_move rfl rfl rfl rfl ?_
  obtain ⟨e, he⟩ := get_lt (l := xs) (i := i) (by first | omega | (simp; done) | (simp; omega))
  refine q_idxR (sz := 2) (k := i) rfl rfl rfl rfl rfl Try.underlying25 Try.sizeOf40 (hr) he enc3_len (by first | rfl | omega) (by omega) ?_
  intro ib17 io17 _ hd17
  refine q_loadN (vs := [_, _, _]) rfl rfl rfl rfl Try.isAgg40 Try.sizeOf40 (by with_reducible (repeat (first | exact Z0 | apply Z1))) (hd17) rfl ?_
  refine l_alloc rfl rfl rfl Try.zeroValue40 (zs := [.int .i64 0, .int .i64 0, .int .i64 0]) rfl ?_
  intro b7
  refine ag_nil ?_
  refine q_assign rfl rfl rfl rfl ?_
  refine l_store (j := 0) rfl rfl rfl rfl Try.sizeOf40 (us := [_, _, _]) rfl rfl rfl (by with_reducible (repeat (first | exact Z0 | apply Z1))) (by first | rfl | exact (Nat.add_zero _).symm) (by first | decide | (simp; done) | omega) ?_
  simp only [setL, List.set]
  refine ag_nil ?_
  refine r_done ?_
  refine s_keep [0, 1, 6, 7, 12, 13, 14] (e' := [(0, _), (1, _), (6, _), (7, _), (12, _), (13, _), (14, _)]) rfl ?_
  refine k_then_n ?_
  refine c_seq ?_
  refine c_plain (.q 0 (.q 1 ((.l 2 [] (.q 3 (.done)))))) (by kernel_rfl) ?_
  refine q_move rfl rfl rfl rfl ?_
  refine q_loadN_c rfl rfl rfl rfl Try.isAgg40 Try.sizeOf40 (by with_reducible (repeat (first | exact Z0 | apply Z1))) 0 (us := [_, _, _]) (by first | rfl | exact (Nat.add_zero _).symm) rfl rfl ?_
  have sp_2 := event_spec pa pc po poc b (dAll x (xs.take i)) (dAll_inv hx _) (by omega) pl (hdp.trans hpl) e.1 e.2.1 e.2.2
  refine l_call rfl rfl rfl rfl rfl rfl Try.call20 (sp_2) (by (repeat ((with_reducible apply Z2); focus (first | (with_reducible (repeat (first | exact Z0 | apply Z1)); done) | (repeat (first | exact Z0 | apply Z1))))); exact Z3) ?_
  rintro ⟨⟩ -
  try simp only [List.cons_append, List.nil_append]
  refine ag_nil ?_
  refine q_assign rfl rfl rfl rfl ?_
  refine r_done ?_
  refine s_keep [0, 1, 6, 8, 12, 13, 14] (e' := [(0, _), (1, _), (6, _), (8, _), (12, _), (13, _), (14, _)]) rfl ?_
  refine k_then_n ?_
  refine c_seq ?_
  refine c_plain (.q 0 (.q 1 (.done))) (by kernel_rfl) ?_
  refine q_move rfl rfl rfl rfl ?_
  refine q_int rfl rfl rfl rfl rfl (b_neq _ _ _ _) ?_
  refine r_done ?_
  refine k_then_n ?_
  refine c_cond_p rfl (fun hne => ?_) (fun hne => ?_)
  ·
   have hncan : ¬ canE (dAll x (xs.take i)) e := fun h => hne (if_pos h)
   rw [show deF (dAll x (xs.take i)) e.1 e.2.1 e.2.2 = dAll x (xs.take i) from if_neg hncan]
   refine c_seq ?_
   refine c_plain (.q 0 (.q 1 (.q 2 (.q 3 (.done))))) (by kernel_rfl) ?_
   refine q_move rfl rfl rfl rfl ?_
   refine q_move rfl rfl rfl rfl ?_
   refine q_assign rfl rfl rfl rfl ?_
   refine q_assign rfl rfl rfl rfl ?_
   refine r_done ?_
   refine s_keep [4, 5] (e' := [(4, _), (5, _)]) rfl ?_
   refine k_then_n ?_
   refine c_ret ?_
   refine k_blk_ret ?_
   refine k_then_ret ?_
   refine k_then_ret ?_
   refine k_blk_ret ?_
   refine k_then_ret ?_
   refine ret2 rfl rfl rfl (i) (by rw [if_neg (by omega), show deE (dAll x (xs.take i)) e.1 e.2.1 e.2.2 = 6 from if_neg hncan]) (by exact ⟨by omega, ho, fun _ e2 h2 => by rw [he] at h2; cases h2; exact hncan⟩) ?_
   (repeat ((with_reducible apply Z2); focus (first | (with_reducible (repeat (first | exact Z0 | apply Z1)); done) | (repeat (first | exact Z0 | apply Z1))))); (repeat (first | exact Z3 | exact Takes.self | refine takes_drop2 ?_))
  ·
   have hcan : canE (dAll x (xs.take i)) e := Classical.byContradiction fun h => hne (by rw [show deE (dAll x (xs.take i)) e.1 e.2.1 e.2.2 = 6 from if_neg h]; decide)
   refine c_skip ?_
   refine k_blk_n ?_
   refine k_then_n ?_
   refine c_plain (.q 0 (.q 1 (.done))) (by kernel_rfl) ?_
   refine q_int rfl rfl rfl rfl rfl (b_add' _ (by exact fits_i64 (by omega) (by omega))) ?_
   refine q_move rfl rfl rfl rfl ?_
   refine r_done ?_
   refine s_keep [0, 1, 12, 13, 14] (e' := [(0, _), (1, _), (12, _), (13, _), (14, _)]) rfl ?_
   refine k_then_n ?_
   rw [show deF (dAll x (xs.take i)) e.1 e.2.1 e.2.2 = dAll x (xs.take (i + 1)) from (dAll_next he).symm]
   refine loop_next (x := i) (i + 1) ?_ ?_ ?_ ?_
   · exact ⟨by omega, okAll_next he ho hcan⟩
   · show n - (i + 1) < n - i; omega
   · exact ⟨rfl, rfl, rfl, rfl, rfl, trivial⟩
   · (try simp only [List.cons_append, List.nil_append]); (repeat ((with_reducible apply Z2); focus (first | (with_reducible (repeat (first | exact Z0 | apply Z1)); done) | (repeat (first | exact Z0 | apply Z1))))); (repeat (first | exact Z3 | exact Takes.self | refine takes_drop2 ?_))
 ·
  refine c_exit ?_
  refine k_then_exit ?_
  refine k_then_exit ?_
  refine k_blk_here ?_
  refine k_then_n ?_
  refine c_seq ?_
  refine c_plain (.q 0 (.q 1 (.q 2 (.q 3 (.done))))) (by kernel_rfl) ?_
  refine q_move rfl rfl rfl rfl ?_
  refine q_len rfl rfl rfl rfl Try.underlying25 ?_
  refine q_assign rfl rfl rfl rfl ?_
  refine q_assign rfl rfl rfl rfl ?_
  refine r_done ?_
  refine s_keep [4, 5] (e' := [(4, _), (5, _)]) rfl ?_
  refine k_then_n ?_
  refine c_ret ?_
  obtain rfl : i = n := by omega
  refine ret2 rfl rfl rfl (i) (by rw [if_pos rfl]) (by exact ⟨Nat.le_refl _, ho, fun h => absurd h (Nat.lt_irrefl _)⟩) ?_
  (repeat ((with_reducible apply Z2); focus (first | (with_reducible (repeat (first | exact Z0 | apply Z1)); done) | (repeat (first | exact Z0 | apply Z1))))); (repeat (first | exact Z3 | exact Takes.self | refine takes_drop2 ?_))
end Go.Ab.Dj
