/- What the law Twice rests on, part 5 of 5. -/
import Derived.Test.YtjibehgfiljbgaaTwiceD
import Derived.Test.YtjibehgfiljbgaaRows
import Derived.WalkKit
import Derived.ProofKit
import Derived.OpenShut
import Derived.JoinedCond
import Derived.Carry
set_option linter.unusedVariables false
set_option linter.unusedSimpArgs false
set_option maxRecDepth 100000
namespace Go.Ab.Fa
open Go Go.Proofs Go.Ab Go.Ab.Fe Go.Ab.Vc Go.Ab.Dj Go.Ab.DjB
theorem vnew_b {th va vo lk : Int} {pl : List Int} (hok : OkS th va vo lk pl) : BInv (vNew th va vo lk pl) := by
  refine ⟨new_vinv hok (new_inv hok), fun t l h i => ?_, fun t l h => (by cases h), fun t l h => (by cases h), fun r p h => (by cases h)⟩
  rcases upd_some (show upd noF 0 (some [1]) t = some l from h) with ⟨-, h⟩ | ⟨-, h⟩
  · cases h
    show ([1] : List Int).getD i 0 ≤ 0 + 1
    rcases i with _ | i <;> simp
  · cases h
theorem fAll_ck {x : FS} (hb : BInv x.v) (hn : x.v.ck.n = 0) {L : List T3} (hl : L.length ≤ 4000000) (hall : allC x.v.ck L L.length) : ∀ i, i ≤ L.length → BInv (fAll x (L.take i)).v ∧ (fAll x (L.take i)).v.ck = sN x.v.ck L i := by
  intro i
  induction i with
  | zero => intro _; exact ⟨hb, rfl⟩
  | succ i ih =>
    intro hi
    obtain ⟨e, he⟩ := get_lt (l := L) (i := i) (by omega)
    obtain ⟨h1, h2⟩ := ih (by omega)
    have hc := hall i e (by omega) he
    have hsn := (sN_n x.v.ck L i).2
    have hv : vcanF (fAll x (L.take i)).v e.1 e.2.1 e.2.2 := (b_can h1 (by rw [h2]; omega)).2 (by rw [h2]; exact hc)
    have hf : (fEv (fAll x (L.take i)) e).v = vnF (fAll x (L.take i)).v e.1 e.2.1 e.2.2 := by
      show (feF _ _ _ _).v = _
      rw [feF, if_pos hv]
    rw [fAll_next he, hf]
    exact ⟨b_next h1 hv, by rw [vn_ck, h2, sN_next he]⟩
theorem fAll_can {x : FS} (hb : BInv x.v) (hn : x.v.ck.n = 0) {L : List T3} (hl : L.length ≤ 4000000) (hall : allC x.v.ck L L.length) {i : Nat} {e : T3} (he : L[i]? = some e) : canFE (fAll x (L.take i)) e := by
  have hi := (List.getElem?_eq_some_iff.1 he).1
  obtain ⟨h1, h2⟩ := fAll_ck hb hn hl hall i (by omega)
  have hsn := (sN_n x.v.ck L i).2
  exact (b_can h1 (by rw [h2]; omega)).2 (by rw [h2]; exact hall i e hi he)
theorem run_can {th va vo lk : Int} {pl : List Int} (hok : OkS th va vo lk pl) (es : List T3) (hl : es.length ≤ 4000000) {i : Nat} {e : T3} (he : (runE (newF th va vo lk pl) es)[i]? = some e) : canFE (fAll (fNew th va vo lk pl) ((runE (newF th va vo lk pl) es).take i)) e :=
  fAll_can (x := fNew th va vo lk pl) (vnew_b hok) rfl (Nat.le_trans (runE_len _ _) hl) (runE_all es _) he
theorem run_ok (th va vo lk : Int) (pl : List Int) (ao : Option Addr) (n c : Nat) (A : HProp) (hr : RdS A ao (pl.flatMap encZ)) (hn : pl.length = n) (hb : n ≤ 4000000) (es : List T3) (eo : Option Addr) (m ec : Nat) (he : RdS A eo (es.flatMap enc3)) (hm : es.length = m) (hmb : m ≤ 4000000) (hok : OkS th va vo lk pl) : Spec Try.prog 16 [.agg #[.int .i64 th, .int .i64 va, .int .i64 vo, .int .i64 lk, .slice ao n c], .slice eo m ec] [A] (fun (r : (Option Addr × Nat) × (Option Addr × Nat) × List Int) => .tuple #[.agg #[.int .i64 th, .int .i64 va, .int .i64 vo, .int .i64 lk, .slice ao n c, .slice r.1.1 (runE (newF th va vo lk pl) es).length r.1.2, .slice r.2.1.1 r.2.2.length r.2.1.2], .bool true]) (fun r => r.2.2.length ≤ m) (fun r => [A, own 3 enc3 r.1.1 r.1.2 (runE (newF th va vo lk pl) es), own 1 encZ r.2.1.1 r.2.1.2 r.2.2]) := by
 refine spec_mk (n := 90) Try.func16 rfl rfl rfl ?_
 intro Γ w0
 simp only [argE, List.cons_append, List.nil_append, Nat.zero_add, Nat.reduceAdd]
 have h1_ := hok.th
 have h2_ := hok.lk
 have h3_ := hok.pl
 refine c_seq ?_
 refine c_plain ((.l 0 [] ((.l 1 [] (.q 2 (.done)))))) (by kernel_rfl) ?_
 refine l_box rfl rfl rfl rfl (us := [_, _, _, _, _]) rfl ?_
 intro b2
 refine ag_nil ?_
 refine l_alloc rfl rfl rfl Try.zeroValue44 (zs := [.int .i64 0, .int .i64 0, .int .i64 0, .int .i64 0, .slice none 0 0, .slice none 0 0, .slice none 0 0]) rfl ?_
 intro b4
 refine ag_nil ?_
 refine q_assign rfl rfl rfl rfl ?_
 refine r_done ?_
 refine k_then_n ?_
 refine c_seq ?_
 refine c_plain (.q 0 ((.l 1 [] (.q 2 (.q 3 (.q 4 (.q 5 (.q 6 (.done))))))))) (by kernel_rfl) ?_
 refine q_loadN_c rfl rfl rfl rfl Try.isAgg25 Try.sizeOf25 Tk 0 (us := [_, _, _, _, _]) (by first | rfl | exact (Nat.add_zero _).symm) rfl rfl ?_
 have sp_1 := rnew_spec th va vo lk pl ao n c A (hr) (by first | rfl | assumption | omega | (simp; done) | (simp; omega)) (by omega) hok
 refine l_call rfl rfl rfl rfl rfl rfl Try.call31 (sp_1) Ts ?_
 rintro ⟨nq, nqp, nqc⟩ -
 try simp only [List.cons_append, List.nil_append]
 refine ag_nil ?_
 refine q_move rfl rfl rfl rfl ?_
 refine q_extract rfl rfl rfl rfl rfl ?_
 refine q_extract rfl rfl rfl rfl rfl ?_
 refine q_assign rfl rfl rfl rfl ?_
 refine q_assign rfl rfl rfl rfl ?_
 refine r_done ?_
 refine s_keep [1, 2, 4, 6, 7] (e' := [(1, _), (2, _), (4, _), (6, _), (7, _)]) rfl ?_
 refine k_then_n ?_
 refine c_seq ?_
 refine c_plain (.q 0 (.q 1 ((.l 2 [] ((.l 3 [] (.done))))))) (by kernel_rfl) ?_
 refine q_loadN_c rfl rfl rfl rfl Try.isAgg25 Try.sizeOf25 Tk 0 (us := [_, _, _, _, _]) (by first | rfl | exact (Nat.add_zero _).symm) rfl rfl ?_
 refine q_build rfl rfl rfl rfl (vs := [_, _, _, _, _, _, _]) (run_buildS Try.underlying44 Try.zeroValue44 (ps := [(0, 5), (5, 1), (6, 1)]) ⟨rfl, Try.sizeOf25, rfl, Try.sizeOf26, rfl, Try.sizeOf23, trivial⟩ rfl) ?_
 refine l_alloc rfl rfl rfl Try.zeroValue44 (zs := [.int .i64 0, .int .i64 0, .int .i64 0, .int .i64 0, .slice none 0 0, .slice none 0 0, .slice none 0 0]) rfl ?_
 intro b8
 refine ag_nil ?_
 refine l_store (j := 0) rfl rfl rfl rfl Try.sizeOf44 (us := [_, _, _, _, _, _, _]) rfl rfl rfl Tk (by first | rfl | exact (Nat.add_zero _).symm) (by first | decide | (simp; done) | omega) ?_
 simp only [setL, List.set]
 refine ag_nil ?_
 refine r_done ?_
 refine k_then_n ?_
 refine c_seq ?_
 refine c_seq ?_
 refine c_plain (.q 0 (.q 1 (.done))) (by kernel_rfl) ?_
 refine q_move rfl rfl rfl rfl ?_
 refine q_int rfl rfl rfl rfl rfl (b_neq _ _ _ _) ?_
 refine s_eq 23 rfl (v' := .bool false) (by first | rfl | simp) ?_
 refine r_done ?_
 refine s_keep [1, 4, 6, 8, 23] (e' := [(1, _), (4, _), (6, _), (8, _), (23, _)]) rfl ?_
 refine k_then_n ?_
 refine c_cond_f rfl ?_
 refine c_skip ?_
 refine k_then_n ?_
 refine c_seq ?_
 refine c_seq ?_
 refine s_heap (fun _ h => own_nil (sz := 3) (enc := enc3) h) ?_
 refine s_heap (fun _ h => own_nil (sz := 1) (enc := encZ) h) ?_
 refine c_plain (.q 0 (.done)) (by kernel_rfl) ?_
 refine q_assign rfl rfl rfl rfl ?_
 refine r_done ?_
 refine k_then_n ?_
 refine c_block ?_
 refine c_loop2 (α := Nat × List T3 × Option Addr × Nat × List Int × Option Addr × Nat) (fun (x_ : Nat × List T3 × Option Addr × Nat × List Int × Option Addr × Nat) => match x_ with | (i, g, ea, ed, RL, ra, rd) => i ≤ m ∧ (g = runE (newF th va vo lk pl) (es.take i)) ∧ (g.length ≤ i) ∧ (RL.length ≤ i)) (fun (x_ : Nat × List T3 × Option Addr × Nat × List Int × Option Addr × Nat) => match x_ with | (i, g, ea, ed, RL, ra, rd) => [(9, .int .i64 ((i : Nat) : Int))]) (fun (x_ : Nat × List T3 × Option Addr × Nat × List Int × Option Addr × Nat) => match x_ with | (i, g, ea, ed, RL, ra, rd) => [rk nqp nqc nq (sN (newF th va vo lk pl) es i), own 1 encZ nqp nqc pl, cells b8 0 [.int .i64 th, .int .i64 va, .int .i64 vo, .int .i64 lk, .slice ao n c, .slice ea g.length ed, .slice ra RL.length rd], own 3 enc3 ea ed g, own 1 encZ ra rd RL]) (fun (x_ : Nat × List T3 × Option Addr × Nat × List Int × Option Addr × Nat) => match x_ with | (i, g, ea, ed, RL, ra, rd) => m - i) [1, 4, 6, 8] (er := [(1, _), (4, _), (6, _), (8, _)]) rfl (0, [], none, 0, [], none, 0) ?_ (by exact ⟨rfl, trivial⟩) (by (try dsimp only); rw [sN_zero]; (repeat ((with_reducible apply Z2); focus (first | (with_reducible (repeat (first | exact Z0 | apply Z1)); done) | (repeat (first | exact Z0 | apply Z1))))); exact Z3) ?_
 · exact ⟨Nat.zero_le _, rfl, Nat.le_refl _, Nat.le_refl _⟩
 rintro ⟨i, g, ea, ed, RL, ra, rd⟩ ⟨hle_i, hg, hgl, hrl⟩
 try simp only [List.cons_append, List.nil_append]
 have hsn := (sN_n (newF th va vo lk pl) es i).2
 have hz0 : (newF th va vo lk pl).n = 0 := rfl
 refine c_seq ?_
 refine c_seq ?_
 refine c_plain (.q 0 (.q 1 (.q 2 (.q 3 (.done))))) (by kernel_rfl) ?_
 refine q_move rfl rfl rfl rfl ?_
 refine q_move rfl rfl rfl rfl ?_
 refine q_len rfl rfl rfl rfl Try.underlying26 ?_
 refine q_int rfl rfl rfl rfl rfl (b_lss _ _ _ _) ?_
 refine r_done ?_
 refine k_then_n ?_
 refine c_cond_p rfl (fun hlt => ?_) (fun hlt => ?_)
 ·
  refine c_skip ?_
  refine k_then_n ?_
  refine c_seq ?_
  refine c_block ?_
  refine c_seq ?_
  refine c_seq ?_
  refine c_plain (.q 0 (.q 1 (.q 2 (.q 3 (.q 4 ((.l 5 [] (.q 6 (.done))))))))) (by kernel_rfl) ?_
  refine q_move rfl rfl rfl rfl ?_
  refine q_move rfl rfl rfl rfl ?_
  refine q_move rfl rfl rfl rfl ?_
  obtain ⟨ev, hev⟩ := get_lt (l := es) (i := i) (by first | omega | (simp; done) | (simp; omega))
  refine q_idxR (sz := 2) (k := i) rfl rfl rfl rfl rfl Try.underlying26 Try.sizeOf36 (he) hev enc3_len (by first | rfl | omega) (by omega) ?_
  intro ib34 io34 _ hd34
  refine q_loadN (vs := [_, _, _]) rfl rfl rfl rfl Try.isAgg36 Try.sizeOf36 Tk (hd34) rfl ?_
  have sp_2 := rcan_spec nqp nqc nq (sN (newF th va vo lk pl) es i) (sN_inv (new_inv hok) es i) ev.1 ev.2.1 ev.2.2
  refine l_call rfl rfl rfl rfl rfl rfl Try.call33 (sp_2) Ts ?_
  rintro ⟨⟩ -
  try simp only [List.cons_append, List.nil_append]
  refine ag_nil ?_
  refine q_not rfl rfl rfl rfl ?_
  refine r_done ?_
  refine s_keep [1, 4, 6, 8, 9, 37] (e' := [(1, _), (4, _), (6, _), (8, _), (9, _), (37, _)]) rfl ?_
  refine k_then_n ?_
  refine c_cond_np rfl (fun hc => ?_) (fun hc => ?_)
  ·
   refine c_exit ?_
   refine k_then_exit ?_
   refine k_blk_here ?_
   refine k_then_n ?_
   refine c_plain (.q 0 (.q 1 (.q 2 (.done)))) (by kernel_rfl) ?_
   refine q_move rfl rfl rfl rfl ?_
   refine q_int rfl rfl rfl rfl rfl (b_add' _ (by exact fits_i64 (by omega) (by omega))) ?_
   refine q_assign rfl rfl rfl rfl ?_
   refine r_done ?_
   refine k_then_n ?_
   rw [← sN_skip hev hc]
   refine loop_next (x := (i, g, ea, ed, RL, ra, rd)) ((i + 1, g, ea, ed, RL, ra, rd)) ?_ ?_ ?_ ?_
   · try dsimp only
     exact ⟨by omega, by rw [hg, runE_no hev hc], by omega, by omega⟩
   · show m - (i + 1) < m - i; omega
   · exact ⟨rfl, rfl, rfl, rfl, rfl, trivial⟩
   · (try simp only [List.cons_append, List.nil_append]); exact Tf
  ·
   refine c_skip ?_
   refine k_then_n ?_
   refine c_seq ?_
   refine c_plain (.q 0 (.q 1 (.q 2 (.q 3 (.q 4 (.q 5 ((.l 6 [] (.q 7 (.q 8 (.q 9 ((.l 10 [] ((.l 11 [] (.q 12 (.done))))))))))))))))) (by kernel_rfl) ?_
   refine q_move rfl rfl rfl rfl ?_
   refine q_move rfl rfl rfl rfl ?_
   refine q_move rfl rfl rfl rfl ?_
   refine q_idxR (sz := 2) (k := i) rfl rfl rfl rfl rfl Try.underlying26 Try.sizeOf36 (he) hev enc3_len (by first | rfl | omega) (by omega) ?_
   intro ib42 io42 _ hd42
   refine q_field (k := 1) rfl rfl rfl rfl Try.underlying36 rfl Try.sizeOf3 rfl ?_
   refine q_load rfl rfl rfl rfl Try.isAgg3 Tk (hd42 1 (.int .i64 ev.2.1) rfl) ?_
   have sp_3 := rstand_spec nqp nqc nq (sN (newF th va vo lk pl) es i) (sN_inv (new_inv hok) es i) ev.2.1
   refine l_call rfl rfl rfl rfl rfl rfl Try.call36 (sp_3) Ts ?_
   rintro ⟨⟩ -
   try simp only [List.cons_append, List.nil_append]
   refine ag_nil ?_
   refine q_move rfl rfl rfl rfl ?_
   refine q_extract rfl rfl rfl rfl rfl ?_
   refine q_extract rfl rfl rfl rfl rfl ?_
   refine l_alloc rfl rfl rfl Try.zeroValue107 (zs := [.int .i64 0, .int .i64 0, .int .i64 0]) rfl ?_
   intro b10
   refine ag_nil ?_
   refine l_store (j := 0) rfl rfl rfl rfl Try.sizeOf107 (us := [_, _, _]) rfl rfl rfl Tk (by first | rfl | exact (Nat.add_zero _).symm) (by first | decide | (simp; done) | omega) ?_
   simp only [setL, List.set]
   refine ag_nil ?_
   refine q_assign rfl rfl rfl rfl ?_
   refine r_done ?_
   refine s_keep [1, 4, 6, 8, 9, 10] (e' := [(1, _), (4, _), (6, _), (8, _), (9, _), (10, _)]) rfl ?_
   refine k_then_n ?_
   refine c_seq ?_
   refine c_plain (.q 0 (.q 1 (.q 2 (.q 3 (.q 4 ((.l 5 [] (.done)))))))) (by kernel_rfl) ?_
   refine q_move rfl rfl rfl rfl ?_
   refine q_move rfl rfl rfl rfl ?_
   refine q_move rfl rfl rfl rfl ?_
   refine q_idxR (sz := 2) (k := i) rfl rfl rfl rfl rfl Try.underlying26 Try.sizeOf36 (he) hev enc3_len (by first | rfl | omega) (by omega) ?_
   intro ib51 io51 _ hd51
   refine q_loadN (vs := [_, _, _]) rfl rfl rfl rfl Try.isAgg36 Try.sizeOf36 Tk (hd51) rfl ?_
   have sp_4 := Fe.rnext_spec nqp nqc nq (sN (newF th va vo lk pl) es i) (sN_inv (new_inv hok) es i) (by omega) pl (((sN_sh _ _ _).1)) ev.1 ev.2.1 ev.2.2
   refine l_call rfl rfl rfl rfl rfl rfl Try.call38 (sp_4) Ts ?_
   rintro ⟨⟩ -
   try simp only [List.cons_append, List.nil_append]
   refine ag_nil ?_
   refine r_done ?_
   refine s_keep [1, 4, 6, 8, 9, 10] (e' := [(1, _), (4, _), (6, _), (8, _), (9, _), (10, _)]) rfl ?_
   refine k_then_n ?_
   refine c_seq ?_
   refine c_plain (.q 0 (.q 1 (.q 2 (.q 3 (.q 4 (.q 5 ((.l 6 [] (.q 7 (.q 8 (.q 9 ((.l 10 [] ((.l 11 [] (.q 12 (.done))))))))))))))))) (by kernel_rfl) ?_
   refine q_move rfl rfl rfl rfl ?_
   refine q_move rfl rfl rfl rfl ?_
   refine q_move rfl rfl rfl rfl ?_
   refine q_idxR (sz := 2) (k := i) rfl rfl rfl rfl rfl Try.underlying26 Try.sizeOf36 (he) hev enc3_len (by first | rfl | omega) (by omega) ?_
   intro ib58 io58 _ hd58
   refine q_field (k := 1) rfl rfl rfl rfl Try.underlying36 rfl Try.sizeOf3 rfl ?_
   refine q_load rfl rfl rfl rfl Try.isAgg3 Tk (hd58 1 (.int .i64 ev.2.1) rfl) ?_
   have sp_5 := rstand_spec nqp nqc nq (nxF (sN (newF th va vo lk pl) es i) ev.1 ev.2.1 ev.2.2) (next_inv (sN_inv (new_inv hok) es i) _ _ _) ev.2.1
   refine l_call rfl rfl rfl rfl rfl rfl Try.call36 (sp_5) Ts ?_
   rintro ⟨⟩ -
   try simp only [List.cons_append, List.nil_append]
   refine ag_nil ?_
   refine q_move rfl rfl rfl rfl ?_
   refine q_extract rfl rfl rfl rfl rfl ?_
   refine q_extract rfl rfl rfl rfl rfl ?_
   refine l_alloc rfl rfl rfl Try.zeroValue107 (zs := [.int .i64 0, .int .i64 0, .int .i64 0]) rfl ?_
   intro b12
   refine ag_nil ?_
   refine l_store (j := 0) rfl rfl rfl rfl Try.sizeOf107 (us := [_, _, _]) rfl rfl rfl Tk (by first | rfl | exact (Nat.add_zero _).symm) (by first | decide | (simp; done) | omega) ?_
   simp only [setL, List.set]
   refine ag_nil ?_
   refine q_assign rfl rfl rfl rfl ?_
   refine r_done ?_
   refine s_keep [1, 4, 6, 8, 9, 10, 12] (e' := [(1, _), (4, _), (6, _), (8, _), (9, _), (10, _), (12, _)]) rfl ?_
   refine k_then_n ?_
   refine c_seq ?_
   refine c_plain (.q 0 (.q 1 (.q 2 (.done)))) (by kernel_rfl) ?_
   refine q_field (k := 2) rfl rfl rfl rfl Try.underlying107 rfl Try.sizeOf3 rfl ?_
   refine q_load_c (j := 2) rfl rfl rfl rfl Try.isAgg3 Tk (by first | rfl | exact (Nat.add_zero _).symm) (by rfl) ?_
   refine q_assign rfl rfl rfl rfl ?_
   refine r_done ?_
   refine k_then_n ?_
   refine c_seq ?_
   refine c_seq ?_
   refine c_plain (.q 0 (.q 1 (.q 2 (.q 3 (.q 4 (.q 5 (.done))))))) (by kernel_rfl) ?_
   refine q_move rfl rfl rfl rfl ?_
   refine q_move rfl rfl rfl rfl ?_
   refine q_idxR (sz := 2) (k := i) rfl rfl rfl rfl rfl Try.underlying26 Try.sizeOf36 (he) hev enc3_len (by first | rfl | omega) (by omega) ?_
   intro ib68 io68 _ hd68
   refine q_field (k := 0) rfl rfl rfl rfl Try.underlying36 rfl Try.sizeOf34 rfl ?_
   refine q_load rfl rfl rfl rfl Try.isAgg34 Tk (hd68 0 (.int .i64 ev.1) rfl) ?_
   refine q_int rfl rfl rfl rfl rfl (b_eql _ _ _ _) ?_
   refine r_done ?_
   refine s_keep [1, 4, 6, 8, 9, 10, 14, 71] (e' := [(1, _), (4, _), (6, _), (8, _), (9, _), (10, _), (14, _), (71, _)]) rfl ?_
   refine k_then_n ?_
   refine c_cond_p rfl (fun h10 => ?_) (fun h10 => ?_)
   ·
    refine c_plain (.q 0 (.q 1 (.q 2 (.done)))) (by kernel_rfl) ?_
    refine q_field (k := 2) rfl rfl rfl rfl Try.underlying107 rfl Try.sizeOf3 rfl ?_
    refine q_load_c (j := 2) rfl rfl rfl rfl Try.isAgg3 Tk (by first | rfl | exact (Nat.add_zero _).symm) (by rfl) ?_
    refine q_assign rfl rfl rfl rfl ?_
    refine r_done ?_
    refine s_keep [1, 4, 6, 8, 9, 14] (e' := [(1, _), (4, _), (6, _), (8, _), (9, _), (14, _)]) rfl ?_
    refine k_then_n ?_
    refine c_seq ?_
    refine c_draw rfl (.q 0 (.q 1 (.q 2 (.q 3 (.q 4 (.q 5 ((.l 6 [1] ((.l 7 [] (.q 8 ((.l 9 [] (.done)))))))))))))) (by kernel_rfl) ?_
    refine q_field (k := 5) rfl rfl rfl rfl Try.underlying44 rfl Try.sizeOf26 rfl ?_
    refine q_load_c (j := 5) rfl rfl rfl rfl Try.isAgg26 Tk (by first | rfl | exact (Nat.add_zero _).symm) (by rfl) ?_
    refine q_move rfl rfl rfl rfl ?_
    refine q_move rfl rfl rfl rfl ?_
    refine q_idxR (sz := 2) (k := i) rfl rfl rfl rfl rfl Try.underlying26 Try.sizeOf36 (he) hev enc3_len (by first | rfl | omega) (by omega) ?_
    intro ib78 io78 _ hd78
    refine q_loadN (vs := [_, _, _]) rfl rfl rfl rfl Try.isAgg36 Try.sizeOf36 Tk (hd78) rfl ?_
    refine l_buildSlice rfl rfl rfl rfl (run_build1 (us := [_, _, _]) Try.underlying26 Try.sizeOf36 rfl Try.zeroValue36 rfl rfl rfl) ?_
    intro b80
    refine ag_load_c (q := 5) rfl rfl rfl Try.isAgg26 Tk (by first | rfl | exact (Nat.add_zero _).symm) (by rfl) ?_
    refine ag_nil ?_
    refine l_append (sz := 3) (enc := enc3) (xs := g) rfl rfl rfl rfl rfl Try.underlying26 Try.typeInfo36 rfl rfl rfl (by decide) Tk Tk (by first | rfl | omega | (simp; done) | (simp; omega)) (ys := [ev]) (rds_some rdn_cells) (by rfl) (by first | rfl | omega) (enc3_len) (enc3_one) (by omega) (by show _ * 24 ≤ _; omega) ?_
    intro ao81 cp81
    refine ag_nil ?_
    refine q_field (k := 5) rfl rfl rfl rfl Try.underlying44 rfl Try.sizeOf26 rfl ?_
    refine l_store (j := 5) rfl rfl rfl rfl Try.sizeOf26 (us := [_]) rfl rfl rfl Tk (by first | rfl | exact (Nat.add_zero _).symm) (by first | decide | (simp; done) | omega) ?_
    simp only [setL, List.set]
    refine ag_nil ?_
    refine r_done ?_
    refine s_keep [1, 4, 6, 8, 9, 14] (e' := [(1, _), (4, _), (6, _), (8, _), (9, _), (14, _)]) rfl ?_
    refine k_then_n ?_
    refine c_plain (.q 0 (.q 1 (.q 2 ((.l 3 [] ((.l 4 [] (.q 5 ((.l 6 [] (.done))))))))))) (by kernel_rfl) ?_
    refine q_field (k := 6) rfl rfl rfl rfl Try.underlying44 rfl Try.sizeOf23 rfl ?_
    refine q_load_c (j := 6) rfl rfl rfl rfl Try.isAgg23 Tk (by first | rfl | exact (Nat.add_zero _).symm) (by rfl) ?_
    refine q_move rfl rfl rfl rfl ?_
    refine l_buildSlice rfl rfl rfl rfl (run_build1 (us := [_]) Try.underlying23 Try.sizeOf3 rfl Try.zeroValue3 rfl rfl rfl) ?_
    intro b86
    refine ag_nil ?_
    refine l_append (sz := 1) (enc := encZ) (xs := RL) rfl rfl rfl rfl rfl Try.underlying23 Try.typeInfo3 rfl rfl rfl (by decide) Tk Tk (by first | rfl | omega | (simp; done) | (simp; omega)) (ys := [((stF (sN (newF th va vo lk pl) es i) ev.2.1).2.2)]) (rds_some rdn_cells) (by rfl) (by first | rfl | omega) (encZ_len) (encZ_one) (by omega) (by show _ * 8 ≤ _; omega) ?_
    intro ao87 cp87
    refine ag_nil ?_
    refine q_field (k := 6) rfl rfl rfl rfl Try.underlying44 rfl Try.sizeOf23 rfl ?_
    refine l_store (j := 6) rfl rfl rfl rfl Try.sizeOf23 (us := [_]) rfl rfl rfl Tk (by first | rfl | exact (Nat.add_zero _).symm) (by first | decide | (simp; done) | omega) ?_
    simp only [setL, List.set]
    refine ag_nil ?_
    refine r_done ?_
    refine s_keep [1, 4, 6, 8, 9] (e' := [(1, _), (4, _), (6, _), (8, _), (9, _)]) rfl ?_
    refine k_blk_n ?_
    refine k_then_n ?_
    refine c_plain (.q 0 (.q 1 (.q 2 (.done)))) (by kernel_rfl) ?_
    refine q_move rfl rfl rfl rfl ?_
    refine q_int rfl rfl rfl rfl rfl (b_add' _ (by exact fits_i64 (by omega) (by omega))) ?_
    refine q_assign rfl rfl rfl rfl ?_
    refine r_done ?_
    refine k_then_n ?_
    rw [← sN_next hev]
    have hq1 : (g ++ [ev]).length = g.length + 1 := by simp
    have hq2 : (RL ++ ([((stF (sN (newF th va vo lk pl) es i) ev.2.1).2.2)])).length = RL.length + 1 := by simp
    refine s_take (A := cells b8 0 [.int .i64 th, .int .i64 va, .int .i64 vo, .int .i64 lk, .slice ao n c, .slice ao81 (g.length + 1) cp81, .slice ao87 (RL.length + 1) cp87]) Td ?_
    refine s_heap (Γ' := cells b8 0 [.int .i64 th, .int .i64 va, .int .i64 vo, .int .i64 lk, .slice ao n c, .slice ao81 (g ++ [ev]).length cp81, .slice ao87 (RL ++ ([((stF (sN (newF th va vo lk pl) es i) ev.2.1).2.2)])).length cp87] :: _) (fun _ h => (by rw [hq1, hq2]; exact h)) ?_
    refine loop_next (x := (i, g, ea, ed, RL, ra, rd)) ((i + 1, g ++ [ev], ao81, cp81, (RL ++ ([((stF (sN (newF th va vo lk pl) es i) ev.2.1).2.2)])), ao87, cp87)) ?_ ?_ ?_ ?_
    · try dsimp only
      exact ⟨by omega, by rw [hg, runE_yes hev hc], by omega, by omega⟩
    · show m - (i + 1) < m - i; omega
    · exact ⟨rfl, rfl, rfl, rfl, rfl, trivial⟩
    · (try simp only [List.cons_append, List.nil_append]); exact Tf
   ·
    refine c_skip ?_
    refine k_then_n ?_
    refine c_seq ?_
    refine c_draw rfl (.q 0 (.q 1 (.q 2 (.q 3 (.q 4 (.q 5 ((.l 6 [1] ((.l 7 [] (.q 8 ((.l 9 [] (.done)))))))))))))) (by kernel_rfl) ?_
    refine q_field (k := 5) rfl rfl rfl rfl Try.underlying44 rfl Try.sizeOf26 rfl ?_
    refine q_load_c (j := 5) rfl rfl rfl rfl Try.isAgg26 Tk (by first | rfl | exact (Nat.add_zero _).symm) (by rfl) ?_
    refine q_move rfl rfl rfl rfl ?_
    refine q_move rfl rfl rfl rfl ?_
    refine q_idxR (sz := 2) (k := i) rfl rfl rfl rfl rfl Try.underlying26 Try.sizeOf36 (he) hev enc3_len (by first | rfl | omega) (by omega) ?_
    intro ib78 io78 _ hd78
    refine q_loadN (vs := [_, _, _]) rfl rfl rfl rfl Try.isAgg36 Try.sizeOf36 Tk (hd78) rfl ?_
    refine l_buildSlice rfl rfl rfl rfl (run_build1 (us := [_, _, _]) Try.underlying26 Try.sizeOf36 rfl Try.zeroValue36 rfl rfl rfl) ?_
    intro b80
    refine ag_load_c (q := 5) rfl rfl rfl Try.isAgg26 Tk (by first | rfl | exact (Nat.add_zero _).symm) (by rfl) ?_
    refine ag_nil ?_
    refine l_append (sz := 3) (enc := enc3) (xs := g) rfl rfl rfl rfl rfl Try.underlying26 Try.typeInfo36 rfl rfl rfl (by decide) Tk Tk (by first | rfl | omega | (simp; done) | (simp; omega)) (ys := [ev]) (rds_some rdn_cells) (by rfl) (by first | rfl | omega) (enc3_len) (enc3_one) (by omega) (by show _ * 24 ≤ _; omega) ?_
    intro ao81 cp81
    refine ag_nil ?_
    refine q_field (k := 5) rfl rfl rfl rfl Try.underlying44 rfl Try.sizeOf26 rfl ?_
    refine l_store (j := 5) rfl rfl rfl rfl Try.sizeOf26 (us := [_]) rfl rfl rfl Tk (by first | rfl | exact (Nat.add_zero _).symm) (by first | decide | (simp; done) | omega) ?_
    simp only [setL, List.set]
    refine ag_nil ?_
    refine r_done ?_
    refine s_keep [1, 4, 6, 8, 9, 14] (e' := [(1, _), (4, _), (6, _), (8, _), (9, _), (14, _)]) rfl ?_
    refine k_then_n ?_
    refine c_plain (.q 0 (.q 1 (.q 2 ((.l 3 [] ((.l 4 [] (.q 5 ((.l 6 [] (.done))))))))))) (by kernel_rfl) ?_
    refine q_field (k := 6) rfl rfl rfl rfl Try.underlying44 rfl Try.sizeOf23 rfl ?_
    refine q_load_c (j := 6) rfl rfl rfl rfl Try.isAgg23 Tk (by first | rfl | exact (Nat.add_zero _).symm) (by rfl) ?_
    refine q_move rfl rfl rfl rfl ?_
    refine l_buildSlice rfl rfl rfl rfl (run_build1 (us := [_]) Try.underlying23 Try.sizeOf3 rfl Try.zeroValue3 rfl rfl rfl) ?_
    intro b86
    refine ag_nil ?_
    refine l_append (sz := 1) (enc := encZ) (xs := RL) rfl rfl rfl rfl rfl Try.underlying23 Try.typeInfo3 rfl rfl rfl (by decide) Tk Tk (by first | rfl | omega | (simp; done) | (simp; omega)) (ys := [((stF (nxF (sN (newF th va vo lk pl) es i) ev.1 ev.2.1 ev.2.2) ev.2.1).2.2)]) (rds_some rdn_cells) (by rfl) (by first | rfl | omega) (encZ_len) (encZ_one) (by omega) (by show _ * 8 ≤ _; omega) ?_
    intro ao87 cp87
    refine ag_nil ?_
    refine q_field (k := 6) rfl rfl rfl rfl Try.underlying44 rfl Try.sizeOf23 rfl ?_
    refine l_store (j := 6) rfl rfl rfl rfl Try.sizeOf23 (us := [_]) rfl rfl rfl Tk (by first | rfl | exact (Nat.add_zero _).symm) (by first | decide | (simp; done) | omega) ?_
    simp only [setL, List.set]
    refine ag_nil ?_
    refine r_done ?_
    refine s_keep [1, 4, 6, 8, 9] (e' := [(1, _), (4, _), (6, _), (8, _), (9, _)]) rfl ?_
    refine k_blk_n ?_
    refine k_then_n ?_
    refine c_plain (.q 0 (.q 1 (.q 2 (.done)))) (by kernel_rfl) ?_
    refine q_move rfl rfl rfl rfl ?_
    refine q_int rfl rfl rfl rfl rfl (b_add' _ (by exact fits_i64 (by omega) (by omega))) ?_
    refine q_assign rfl rfl rfl rfl ?_
    refine r_done ?_
    refine k_then_n ?_
    rw [← sN_next hev]
    have hq1 : (g ++ [ev]).length = g.length + 1 := by simp
    have hq2 : (RL ++ ([((stF (sN (newF th va vo lk pl) es (i + 1)) ev.2.1).2.2)])).length = RL.length + 1 := by simp
    refine s_take (A := cells b8 0 [.int .i64 th, .int .i64 va, .int .i64 vo, .int .i64 lk, .slice ao n c, .slice ao81 (g.length + 1) cp81, .slice ao87 (RL.length + 1) cp87]) Td ?_
    refine s_heap (Γ' := cells b8 0 [.int .i64 th, .int .i64 va, .int .i64 vo, .int .i64 lk, .slice ao n c, .slice ao81 (g ++ [ev]).length cp81, .slice ao87 (RL ++ ([((stF (sN (newF th va vo lk pl) es (i + 1)) ev.2.1).2.2)])).length cp87] :: _) (fun _ h => (by rw [hq1, hq2]; exact h)) ?_
    refine loop_next (x := (i, g, ea, ed, RL, ra, rd)) ((i + 1, g ++ [ev], ao81, cp81, (RL ++ ([((stF (sN (newF th va vo lk pl) es (i + 1)) ev.2.1).2.2)])), ao87, cp87)) ?_ ?_ ?_ ?_
    · try dsimp only
      exact ⟨by omega, by rw [hg, runE_yes hev hc], by omega, by omega⟩
    · show m - (i + 1) < m - i; omega
    · exact ⟨rfl, rfl, rfl, rfl, rfl, trivial⟩
    · (try simp only [List.cons_append, List.nil_append]); exact Tf
 ·
  refine c_exit ?_
  refine k_then_exit ?_
  refine k_then_exit ?_
  refine k_blk_here ?_
  refine k_then_n ?_
  refine c_seq ?_
  refine c_plain (.q 0 ((.l 1 [] (.q 2 (.done))))) (by kernel_rfl) ?_
  refine q_loadN_c rfl rfl rfl rfl Try.isAgg44 Try.sizeOf44 Tk 0 (us := [_, _, _, _, _, _, _]) (by first | rfl | exact (Nat.add_zero _).symm) rfl rfl ?_
  refine l_store (j := 0) rfl rfl rfl rfl Try.sizeOf44 (us := [_, _, _, _, _, _, _]) rfl rfl rfl Tk (by first | rfl | exact (Nat.add_zero _).symm) (by first | decide | (simp; done) | omega) ?_
  simp only [setL, List.set]
  refine ag_nil ?_
  refine q_assign rfl rfl rfl rfl ?_
  refine r_done ?_
  refine s_keep [4, 5] (e' := [(4, _), (5, _)]) rfl ?_
  refine k_then_n ?_
  refine c_ret ?_
  obtain rfl : i = m := by omega
  rw [List.take_of_length_le (by omega)] at hg
  subst hg
  refine retL (us := [_, _]) rfl ⟨rv_cellN rfl Try.isAgg44 Try.sizeOf44 Tk 0 rfl (us := [_, _, _, _, _, _, _]) rfl rfl, rv_tmp rfl, trivial⟩ (((ea, ed), (ra, rd), RL)) (by first | rfl | (first | rfl | (congr 1; done) | (congr 1 <;> first | rfl | omega | (simp; done) | (simp; omega)))) (by omega) ?_
  exact Tf
theorem run_bad (th va vo lk : Int) (pl : List Int) (ao : Option Addr) (n c : Nat) (A : HProp) (hr : RdS A ao (pl.flatMap encZ)) (hn : pl.length = n) (hb : n ≤ 4000000) (es : List T3) (eo : Option Addr) (m ec : Nat) (he : RdS A eo (es.flatMap enc3)) (hm : es.length = m) (hmb : m ≤ 4000000) (hok : ¬ OkS th va vo lk pl) : Spec Try.prog 16 [.agg #[.int .i64 th, .int .i64 va, .int .i64 vo, .int .i64 lk, .slice ao n c], .slice eo m ec] [A] (fun (_ : Unit) => .tuple #[.agg #[.int .i64 th, .int .i64 va, .int .i64 vo, .int .i64 lk, .slice ao n c, .slice none 0 0, .slice none 0 0], .bool false]) (fun _ => True) (fun _ => [A]) := by
 refine spec_mk (n := 90) Try.func16 rfl rfl rfl ?_
 intro Γ w0
 simp only [argE, List.cons_append, List.nil_append, Nat.zero_add, Nat.reduceAdd]
 refine c_seq ?_
 refine c_plain ((.l 0 [] ((.l 1 [] (.q 2 (.done)))))) (by kernel_rfl) ?_
 refine l_box rfl rfl rfl rfl (us := [_, _, _, _, _]) rfl ?_
 intro b2
 refine ag_nil ?_
 refine l_alloc rfl rfl rfl Try.zeroValue44 (zs := [.int .i64 0, .int .i64 0, .int .i64 0, .int .i64 0, .slice none 0 0, .slice none 0 0, .slice none 0 0]) rfl ?_
 intro b4
 refine ag_nil ?_
 refine q_assign rfl rfl rfl rfl ?_
 refine r_done ?_
 refine k_then_n ?_
 refine c_seq ?_
 refine c_plain (.q 0 ((.l 1 [] (.q 2 (.q 3 (.q 4 (.q 5 (.q 6 (.done))))))))) (by kernel_rfl) ?_
 refine q_loadN_c rfl rfl rfl rfl Try.isAgg25 Try.sizeOf25 Tk 0 (us := [_, _, _, _, _]) (by first | rfl | exact (Nat.add_zero _).symm) rfl rfl ?_
 have sp_2 := rnewbad_spec th va vo lk pl ao n c A (hr) (by first | rfl | assumption | omega | (simp; done) | (simp; omega)) (by omega) hok
 refine l_call rfl rfl rfl rfl rfl rfl Try.call31 (sp_2) Ts ?_
 rintro ⟨⟩ -
 try simp only [List.cons_append, List.nil_append]
 refine ag_nil ?_
 refine q_move rfl rfl rfl rfl ?_
 refine q_extract rfl rfl rfl rfl rfl ?_
 refine q_extract rfl rfl rfl rfl rfl ?_
 refine q_assign rfl rfl rfl rfl ?_
 refine q_assign rfl rfl rfl rfl ?_
 refine r_done ?_
 refine s_keep [1, 2, 4, 6, 7] (e' := [(1, _), (2, _), (4, _), (6, _), (7, _)]) rfl ?_
 refine k_then_n ?_
 refine c_seq ?_
 refine c_plain (.q 0 (.q 1 ((.l 2 [] ((.l 3 [] (.done))))))) (by kernel_rfl) ?_
 refine q_loadN_c rfl rfl rfl rfl Try.isAgg25 Try.sizeOf25 Tk 0 (us := [_, _, _, _, _]) (by first | rfl | exact (Nat.add_zero _).symm) rfl rfl ?_
 refine q_build rfl rfl rfl rfl (vs := [_, _, _, _, _, _, _]) (run_buildS Try.underlying44 Try.zeroValue44 (ps := [(0, 5), (5, 1), (6, 1)]) ⟨rfl, Try.sizeOf25, rfl, Try.sizeOf26, rfl, Try.sizeOf23, trivial⟩ rfl) ?_
 refine l_alloc rfl rfl rfl Try.zeroValue44 (zs := [.int .i64 0, .int .i64 0, .int .i64 0, .int .i64 0, .slice none 0 0, .slice none 0 0, .slice none 0 0]) rfl ?_
 intro b8
 refine ag_nil ?_
 refine l_store (j := 0) rfl rfl rfl rfl Try.sizeOf44 (us := [_, _, _, _, _, _, _]) rfl rfl rfl Tk (by first | rfl | exact (Nat.add_zero _).symm) (by first | decide | (simp; done) | omega) ?_
 simp only [setL, List.set]
 refine ag_nil ?_
 refine r_done ?_
 refine k_then_n ?_
 refine c_seq ?_
 refine c_seq ?_
 refine c_plain (.q 0 (.q 1 (.done))) (by kernel_rfl) ?_
 refine q_move rfl rfl rfl rfl ?_
 refine q_int rfl rfl rfl rfl rfl (b_neq _ _ _ _) ?_
 refine s_eq 23 rfl (v' := .bool true) (by first | rfl | simp) ?_
 refine r_done ?_
 refine s_keep [1, 4, 6, 8, 23] (e' := [(1, _), (4, _), (6, _), (8, _), (23, _)]) rfl ?_
 refine k_then_n ?_
 refine c_cond_t rfl ?_
 refine c_seq ?_
 refine c_plain (.q 0 ((.l 1 [] (.q 2 (.done))))) (by kernel_rfl) ?_
 refine q_loadN_c rfl rfl rfl rfl Try.isAgg44 Try.sizeOf44 Tk 0 (us := [_, _, _, _, _, _, _]) (by first | rfl | exact (Nat.add_zero _).symm) rfl rfl ?_
 refine l_store (j := 0) rfl rfl rfl rfl Try.sizeOf44 (us := [_, _, _, _, _, _, _]) rfl rfl rfl Tk (by first | rfl | exact (Nat.add_zero _).symm) (by first | decide | (simp; done) | omega) ?_
 simp only [setL, List.set]
 refine ag_nil ?_
 refine q_assign rfl rfl rfl rfl ?_
 refine r_done ?_
 refine s_keep [4, 5] (e' := [(4, _), (5, _)]) rfl ?_
 refine k_then_n ?_
 refine c_ret ?_
 refine k_then_ret ?_
 refine retL (us := [_, _]) rfl ⟨rv_cellN rfl Try.isAgg44 Try.sizeOf44 Tk 0 rfl (us := [_, _, _, _, _, _, _]) rfl rfl, rv_tmp rfl, trivial⟩ (()) (by first | rfl | (first | rfl | (congr 1; done) | (congr 1 <;> first | rfl | omega | (simp; done) | (simp; omega)))) (by trivial) ?_
 exact Tf
end Go.Ab.Fa
set_option linter.unusedVariables false
set_option linter.unusedSimpArgs false
set_option maxRecDepth 100000
namespace Go.Ab.Fa
open Go Go.Proofs Go.Ab Go.Ab.Fe Go.Ab.Vc Go.Ab.Dj
theorem nodup_snoc {κ : Type} {S : List κ} {k : κ} (h : S.Nodup) (hk : k ∉ S) : (S ++ [k]).Nodup := List.nodup_append.2 ⟨h, by simp, fun a ha b hb => by simp at hb; subst hb; intro e; exact hk (e ▸ ha)⟩
section
variable {κ ν τ : Type} [DecidableEq κ]
/-- A table, only where S is. -/
def rs {τ : Type} (S : List κ) (T : κ → Option τ) : κ → Option τ := fun k => if k ∈ S then T k else none
/-- A table that is G where S is. -/
def ov {τ : Type} (S : List κ) (G F : κ → Option τ) : κ → Option τ := fun k => if k ∈ S then G k else F k
theorem ov_nil (G F : κ → Option τ) : ov [] G F = F := by funext k; simp [ov]
theorem rs_nil (T : κ → Option τ) : rs ([] : List κ) T = fun _ => none := by funext k; simp [rs]
theorem ov_next {S : List κ} {G F : κ → Option τ} {k : κ} {v : Option τ} : upd (ov S G F) k v = ov (S ++ [k]) (upd G k v) F := by
  funext q
  by_cases h : q = k
  · subst h; simp [ov, upd]
  · simp [ov, upd, h]
theorem rs_next {S : List κ} {G : κ → Option τ} {k : κ} {v : Option τ} : upd (rs S G) k v = rs (S ++ [k]) (upd G k v) := by
  funext q
  by_cases h : q = k
  · subst h; simp [rs, upd]
  · simp [rs, upd, h]
theorem ov_all {S : List κ} {G F : κ → Option τ} (h : ∀ k v, F k = some v → k ∈ S) : ov S G F = rs S G := by
  funext k
  unfold ov rs
  split
  · rfl
  · rename_i hk
    cases hF : F k with
    | none => rfl
    | some v => exact absurd (h k v hF) hk
theorem rs_all {S : List κ} {F : κ → Option ν} {T : κ → Option τ} (h : ∀ k v, F k = some v → k ∈ S) (hd : ∀ k, (T k).isSome = (F k).isSome) : rs S T = T := by
  funext k
  unfold rs
  split
  · rfl
  · rename_i hk
    cases hT : T k with
    | none => rfl
    | some v =>
      have := hd k
      rw [hT] at this
      obtain ⟨u, hu⟩ := Option.isSome_iff_exists.1 this.symm
      exact absurd (h k u hu) hk
variable {res : ν → τ → HProp} {F G : κ → Option ν} {T : κ → Option τ} {S : List κ}
variable {w0 : World} {ds : List Deferred} {n : Nat} {e : Env} {Γ Γ' : List HProp} {X : Act → World → Prop}
theorem s_rest_takeF (k : κ) {v : ν} (tk : Take Γ (rest res F T S) Γ') (hk : k ∉ S) (hF : F k = some v) (k1 : ∀ t, T k = some t → Le (St w0 ds n e (res v t :: rest res F T (k :: S) :: Γ')) X) : Le (St w0 ds n e Γ) X := fun a w s => by
  cases hT : T k with
  | none =>
    obtain ⟨hv, -⟩ := rest_miss hk hT (tk _ s.heap)
    rw [hF] at hv; cases hv
  | some t =>
    obtain ⟨v', hv, s1⟩ := rest_take hk hT (tk _ s.heap)
    rw [hF] at hv; cases hv
    exact k1 t hT a w ⟨s.defers, s.size, s.env, s1, s.amb⟩
theorem s_rest_dom (tk : Take Γ (rest res F T []) Γ') (k1 : (∀ k, (T k).isSome = (F k).isSome) → Le (St w0 ds n e (rest res F T [] :: Γ')) X) : Le (St w0 ds n e Γ) X := fun a w s => by
  have s0 := tk _ s.heap
  refine k1 (fun k => ?_) a w ⟨s.defers, s.size, s.env, s0, s.amb⟩
  cases hT : T k with
  | none => obtain ⟨hv, -⟩ := rest_miss (k := k) (by simp) hT s0; rw [hv]; rfl
  | some t => obtain ⟨v, hv, -⟩ := rest_take (k := k) (by simp) hT s0; rw [hv]; rfl
theorem s_rest_next (k : κ) {v : ν} {t : τ} (tk : Takes Γ [res v t, rest res (rs S G) (rs S T) []] Γ') (hk : k ∉ S) (ht : T k = some t) (k1 : Le (St w0 ds n e (rest res (rs (S ++ [k]) (upd G k (some v))) (rs (S ++ [k]) T) [] :: Γ')) X) : Le (St w0 ds n e Γ) X := s_heap (fun h s => by
  obtain ⟨h1, l1, a1, s1⟩ := tk h s
  obtain ⟨-, s2⟩ := rest_miss (k := k) (by simp) (by simp [rs, hk]) s1
  refine rest_put (k := k) (by simp) ?_ (fun q hq _ => ?_) ?_ (fun q hq _ => ?_) ⟨h1, l1, a1, s2⟩
  · simp [rs, upd]
  · simp [rs, upd, hq]
  · simp [rs, ht]
  · simp [rs, hq]) k1
end
theorem rs_noF {κ τ : Type} [DecidableEq κ] (T : κ → Option τ) : ∀ k, rs ([] : List κ) T k = none := fun k => by simp [rs]
theorem app_set {α : Type} {A B : List α} {k : Nat} (q : α) (h : A.length = k) (hk : k < B.length) : (A ++ B.drop k).set k q = (A ++ [q]) ++ B.drop (k + 1) := by
  subst h
  rw [List.set_append_right _ _ (Nat.le_refl _), Nat.sub_self, List.drop_eq_getElem_cons hk, List.set_cons_zero, List.append_assoc]
  rfl
theorem take_snoc {α : Type} {l : List α} {i : Nat} {a : α} (h : l[i]? = some a) : l.take (i + 1) = l.take i ++ [a] := by rw [List.take_add_one, h]; rfl
theorem app_get {α : Type} {A B : List α} {k : Nat} (h : A.length = k) : (A ++ B.drop k)[k]? = B[k]? := by
  subst h
  rw [List.getElem?_append_right (Nat.le_refl _), Nat.sub_self, List.getElem?_drop]; rfl
theorem mclone_spec (m : Nat) (F : Int → Option (Option Addr)) : Spec Try.prog 97 [.map (some m)] [mapO ekZ evA m F] (fun (r : Nat) => .map (some r)) (fun r => True) (fun r => [mapO ekZ evA r F, mapO ekZ evA m F]) := by
 refine spec_mk (n := 9) Try.func97 rfl rfl rfl ?_
 intro Γ w0
 simp only [argE, List.cons_append, List.nil_append, Nat.zero_add, Nat.reduceAdd]
 refine c_seq ?_
 refine c_plain (.q 0 (.done)) (by kernel_rfl) ?_
 refine q_assign rfl rfl rfl rfl ?_
 refine r_done ?_
 refine k_then_n ?_
 refine c_seq ?_
 refine c_seq ?_
 refine c_plain (.q 0 (.q 1 (.done))) (by kernel_rfl) ?_
 refine q_move rfl rfl rfl rfl ?_
 refine q_eq_nilm rfl rfl rfl rfl Try.underlying77 ?_
 refine s_eq 4 rfl (v' := .bool false) rfl ?_
 refine r_done ?_
 refine k_then_n ?_
 refine c_cond_f rfl ?_
 refine c_skip ?_
 refine k_then_n ?_
 refine c_seq ?_
 refine c_plain (.q 0 (.q 1 ((.l 2 [] ((.l 3 [] (.q 4 (.done)))))))) (by kernel_rfl) ?_
 refine q_move rfl rfl rfl rfl ?_
 refine q_iface rfl rfl rfl rfl Try.underlying77 ?_
 refine l_mapClone (ek := ekZ) (ev1 := evA) (F := F) (m := m) rfl rfl rfl rfl Try.func104 rfl rfl (by kernel_rfl) (by kernel_rfl) Tk ?_
 intro mq
 refine ag_nil ?_
 refine l_assert rfl rfl rfl rfl Try.underlying77 ?_
 refine ag_nil ?_
 refine q_assign rfl rfl rfl rfl ?_
 refine r_done ?_
 refine s_keep [2] (e' := [(2, _)]) rfl ?_
 refine k_then_n ?_
 refine c_ret ?_
 refine ret1 rfl rfl (mq) (by first | rfl | (first | rfl | (congr 1; done) | (congr 1 <;> first | rfl | omega | (simp; done) | (simp; omega)))) (by trivial) ?_
 exact Tf
theorem clonef_spec (xs : List P4F) (ao : Option Addr) (n c : Nat) (A : HProp) (hn : xs.length = n) (hr : RdS A ao (xs.flatMap encF)) (hb : xs.length ≤ 4000000000) : Spec Try.prog 66 [.slice ao n c] [A] (fun (r : Option Addr × Nat) => .slice r.1 n r.2) (fun r => True) (fun r => [A, own 4 encF r.1 r.2 xs]) := by
 refine spec_mk (n := 8) Try.func66 rfl rfl rfl ?_
 intro Γ w0
 simp only [argE, List.cons_append, List.nil_append, Nat.zero_add, Nat.reduceAdd]
 refine c_seq ?_
 refine c_plain (.q 0 (.done)) (by kernel_rfl) ?_
 refine q_assign rfl rfl rfl rfl ?_
 refine r_done ?_
 refine k_then_n ?_
 refine c_seq ?_
 refine c_seq ?_
 refine c_plain (.q 0 (.q 1 (.done))) (by kernel_rfl) ?_
 refine q_move rfl rfl rfl rfl ?_
 refine q_eq_nils rfl rfl rfl rfl Try.underlying79 ?_
 refine r_done ?_
 refine k_then_n ?_
 refine c_cond rfl (fun hno => ?_) (fun hno => ?_)
 ·
  try simp only [Bool.and_eq_true, Bool.or_eq_true, Bool.not_eq_true', Bool.not_eq_false', Bool.and_eq_false_iff, Bool.or_eq_false_iff, decide_eq_true_eq, decide_eq_false_iff_not] at hno
  have hx := Vc.rds_nil hr encF_len (by simpa using hno)
  subst hx
  obtain rfl : n = 0 := by simpa using hn.symm
  refine s_heap (fun _ h => own_nil (sz := 4) (enc := encF) h) ?_
  refine c_seq ?_
  refine c_plain (.q 0 (.done)) (by kernel_rfl) ?_
  refine q_assign rfl rfl rfl rfl ?_
  refine r_done ?_
  refine k_then_n ?_
  refine c_ret ?_
  refine k_then_ret ?_
  refine ret1 rfl rfl ((none, 0)) (by first | rfl | (first | rfl | (congr 1; done) | (congr 1 <;> first | rfl | omega | (simp; done) | (simp; omega)))) (by trivial) ?_
  exact Tf
 ·
  try simp only [Bool.and_eq_true, Bool.or_eq_true, Bool.not_eq_true', Bool.not_eq_false', Bool.and_eq_false_iff, Bool.or_eq_false_iff, decide_eq_true_eq, decide_eq_false_iff_not] at hno
  refine c_skip ?_
  refine k_then_n ?_
  refine c_seq ?_
  refine c_plain ((.l 0 [] (.q 1 ((.l 2 [] (.q 3 (.done))))))) (by kernel_rfl) ?_
  refine l_buildSlice0 rfl rfl rfl rfl Try.underlying79 Try.sizeOf88 ?_
  intro b5
  refine ag_nil ?_
  refine q_move rfl rfl rfl rfl ?_
  refine s_take (A := cells b5 0 []) Tk ?_
  refine s_heap (fun _ h => own_mk (sz := 4) (enc := encF) (xs := []) (sp := []) (cap := 0) (Nat.le_refl _) rfl h) ?_
  refine l_append (sz := 4) (enc := encF) (xs := []) rfl rfl rfl rfl rfl Try.underlying79 Try.typeInfo88 rfl rfl rfl (by decide) Tk Tk (by first | rfl | omega | (simp; done) | (simp; omega)) (ys := xs) (hr) (by rfl) (by exact hn) (encF_len) (encF_one) (by omega) (by show _ * 32 ≤ _; omega) ?_
  intro ao7 cp7
  try simp only [List.nil_append]
  refine ag_nil ?_
  refine q_assign rfl rfl rfl rfl ?_
  refine r_done ?_
  refine s_keep [2] (e' := [(2, _)]) rfl ?_
  refine k_then_n ?_
  refine c_ret ?_
  refine ret1 rfl rfl ((ao7, cp7)) (by rw [Nat.zero_add]) (by trivial) ?_
  exact Tf
theorem ccopyn : Spec Try.prog 65 [.pointer none] [] (fun (_ : Unit) => .pointer none) (fun _ => True) (fun _ => []) := by
 refine spec_mk (n := 21) Try.func65 rfl rfl rfl ?_
 intro Γ w0
 simp only [argE, List.cons_append, List.nil_append, Nat.zero_add, Nat.reduceAdd]
 refine c_seq ?_
 refine c_plain (.q 0 (.done)) (by kernel_rfl) ?_
 refine q_assign rfl rfl rfl rfl ?_
 refine r_done ?_
 refine k_then_n ?_
 refine c_seq ?_
 refine c_seq ?_
 refine c_plain (.q 0 (.q 1 (.done))) (by kernel_rfl) ?_
 refine q_move rfl rfl rfl rfl ?_
 refine q_eq_nil rfl rfl rfl rfl Try.underlying86 ?_
 refine s_eq 5 rfl (v' := .bool true) rfl ?_
 refine r_done ?_
 refine k_then_n ?_
 refine c_cond_t rfl ?_
 refine c_seq ?_
 refine c_plain (.q 0 (.done)) (by kernel_rfl) ?_
 refine q_assign rfl rfl rfl rfl ?_
 refine r_done ?_
 refine k_then_n ?_
 refine c_ret ?_
 refine k_then_ret ?_
 refine ret1 rfl rfl (()) (by first | rfl | (first | rfl | (congr 1; done) | (congr 1 <;> first | rfl | omega | (simp; done) | (simp; omega)))) (by trivial) ?_
 exact Tf
theorem copyk_spec (b : Nat) (l : List Int) (ao : Option Addr) (n c : Nat) (hn : l.length = n) (hb : n ≤ 4000000000) (v : Value) : Spec Try.prog 65 [.pointer (some ⟨b, 0, none⟩)] [cells b 0 [.slice ao n c, v], own 1 encU ao c l] (fun (r : Nat × Option Addr × Nat) => .pointer (some ⟨r.1, 0, none⟩)) (fun r => True) (fun r => [cells b 0 [.slice ao n c, v], own 1 encU ao c l, cells r.1 0 [.slice r.2.1 n r.2.2], own 1 encU r.2.1 r.2.2 l]) := fun Γ w s => by
  obtain ⟨h1, l1, a1, s1⟩ := cells_part s
  refine (Vc.copy_spec b l ao n c hn hb (cells b (0 + 1) [v] :: Γ) w ⟨h1, l1, a1, s1.swap⟩).mono fun e w' ⟨x, e1, hx, s', a⟩ => ⟨x, e1, hx, ?_, a⟩
  simp only [List.cons_append, List.nil_append] at s' ⊢
  have s2 := (by (repeat ((with_reducible apply Z2); focus (first | (with_reducible (repeat (first | exact Z0 | apply Z1)); done) | (repeat (first | exact Z0 | apply Z1))))); exact Z3 : Takes _ [cells b 0 [.slice ao n c], cells b (0 + 1) [v]] _) _ s'
  exact cells_whole s2
theorem copied_spec (m : Nat) (F : Int → Option (Option Addr)) (T : Int → Option (List Int)) (hT : ∀ k l, T k = some l → CV l) : Spec Try.prog 64 [.map (some m)] [mapO ekZ evA m F, rest vecA F T []] (fun (r : Nat × (Int → Option (Option Addr))) => .map (some r.1)) (fun r => True) (fun r => [mapO ekZ evA m F, rest vecA F T [], mapO ekZ evA r.1 r.2, rest vecA r.2 T []]) := by
 refine spec_mk (n := 20) Try.func64 rfl rfl rfl ?_
 intro Γ w0
 simp only [argE, List.cons_append, List.nil_append, Nat.zero_add, Nat.reduceAdd]
 refine c_seq ?_
 refine c_plain (.q 0 (.done)) (by kernel_rfl) ?_
 refine q_assign rfl rfl rfl rfl ?_
 refine r_done ?_
 refine k_then_n ?_
 refine c_seq ?_
 refine c_plain (.q 0 ((.l 1 [] (.q 2 (.done))))) (by kernel_rfl) ?_
 refine q_move rfl rfl rfl rfl ?_
 have sp_1 := mclone_spec m F
 refine l_call rfl rfl rfl rfl rfl rfl Try.call97 (sp_1) Ts ?_
 rintro mq -
 try simp only [List.cons_append, List.nil_append]
 refine ag_nil ?_
 refine q_assign rfl rfl rfl rfl ?_
 refine r_done ?_
 refine k_then_n ?_
 refine c_seq ?_
 refine c_seq ?_
 refine c_plain (.q 0 ((.l 1 [] (.done)))) (by kernel_rfl) ?_
 refine q_move rfl rfl rfl rfl ?_
 refine l_range (ek := ekZ) (ev1 := evA) (F := F) (m := m) rfl rfl rfl rfl Try.underlying77 Tk ?_
 intro rr N_rr
 refine ag_nil ?_
 refine r_done ?_
 refine s_keep [3, 9] (e' := [(3, _), (9, _)]) rfl ?_
 refine k_then_n ?_
 refine c_block ?_
 refine s_rest_new (res := vecA) (rs ([] : List Int) (noF : Int → Option (Option Addr))) (rs ([] : List Int) T) (rs_noF _) (rs_noF _) ?_
 refine c_loop2 (α := List Int × (Int → Option (Option Addr))) (fun (x_ : List Int × (Int → Option (Option Addr))) => match x_ with | (vis, G) => vis.Nodup) (fun (x_ : List Int × (Int → Option (Option Addr))) => match x_ with | (vis, G) => []) (fun (x_ : List Int × (Int → Option (Option Addr))) => match x_ with | (vis, G) => [rng ekZ evA rr m F vis N_rr, mapO ekZ evA mq (ov vis G F), rest vecA F T [], rest vecA (rs vis G) (rs vis T) []]) (fun (x_ : List Int × (Int → Option (Option Addr))) => match x_ with | (vis, G) => N_rr - vis.length) [3, 9] (er := [(3, _), (9, _)]) rfl (([] : List Int), (noF : Int → Option (Option Addr))) ?_ (by exact trivial) (by (try dsimp only); rw [ov_nil]; (repeat ((with_reducible apply Z2); focus (first | (with_reducible (repeat (first | exact Z0 | apply Z1)); done) | (repeat (first | exact Z0 | apply Z1))))); exact Z3) ?_
 · exact List.nodup_nil
 rintro ⟨vis, G⟩ hnd
 try simp only [List.cons_append, List.nil_append]
 refine c_seq ?_
 refine c_plain ((.l 0 [] (.q 1 (.done)))) (by kernel_rfl) ?_
 refine l_next (ek := ekZ) (ev1 := evA) (F := F) (m := m) (vis := vis) (N := N_rr) rfl rfl rfl rfl (by assumption) Tk ?_ ?_
 ·
  intro hall hex
  refine ag_nil ?_
  refine q_extract rfl rfl rfl rfl rfl ?_
  refine r_done ?_
  refine k_then_n ?_
  refine c_seq ?_
  refine c_cond_f rfl ?_
  refine c_exit ?_
  refine k_then_exit ?_
  refine k_then_exit ?_
  refine k_blk_here ?_
  refine k_then_n ?_
  refine c_seq ?_
  refine c_plain (.q 0 (.q 1 (.done))) (by kernel_rfl) ?_
  refine q_move rfl rfl rfl rfl ?_
  refine q_assign rfl rfl rfl rfl ?_
  refine r_done ?_
  refine s_keep [2] (e' := [(2, _)]) rfl ?_
  refine k_then_n ?_
  refine c_ret ?_
  refine s_rest_dom (F := F) (T := T) Tk fun hdom => ?_
  rw [rs_all hall hdom, ov_all hall]
  refine ret1 rfl rfl ((mq, rs vis G)) (by first | rfl | (first | rfl | (congr 1; done) | (congr 1 <;> first | rfl | omega | (simp; done) | (simp; omega)))) (by trivial) ?_
  exact Tf
 ·
  intro k_ v_ hkv hnk hltN
  refine ag_nil ?_
  refine s_rest_takeF (F := F) (T := T) (S := []) k_ Tk (by simp) hkv fun l ht => ?_
  refine s_vec Tk fun cb ca cc hcb => ?_
  subst hcb
  have hll := (hT _ _ ht).len
  refine q_extract rfl rfl rfl rfl rfl ?_
  refine r_done ?_
  refine k_then_n ?_
  refine c_seq ?_
  refine c_cond_t rfl ?_
  refine c_skip ?_
  refine k_then_n ?_
  refine c_block ?_
  refine c_seq ?_
  refine c_plain (.q 0 (.q 1 (.q 2 (.q 3 (.q 4 (.done)))))) (by kernel_rfl) ?_
  refine q_entry (ek := ekZ) (ev1 := evA) (F := F) (m := m) (vis := vis) (N := N_rr) (k := k_) (v := (some ⟨cb, 0, none⟩)) rfl rfl rfl rfl hkv Tk ?_
  refine q_extract rfl rfl rfl rfl rfl ?_
  refine q_extract rfl rfl rfl rfl rfl ?_
  refine s_eq 14 rfl (v' := .pointer (some ⟨cb, 0, none⟩)) (by rfl) ?_
  refine q_assign rfl rfl rfl rfl ?_
  refine q_assign rfl rfl rfl rfl ?_
  refine r_done ?_
  refine s_keep [3, 4, 5, 9] (e' := [(3, _), (4, _), (5, _), (9, _)]) rfl ?_
  refine k_then_n ?_
  refine c_plain (.q 0 (.q 1 (.q 2 ((.l 3 [] ((.l 4 [] (.done)))))))) (by kernel_rfl) ?_
  refine q_move rfl rfl rfl rfl ?_
  refine q_move rfl rfl rfl rfl ?_
  refine q_move rfl rfl rfl rfl ?_
  have sp_2 := Vc.copy_spec cb l ca l.length cc (by rfl) (by omega)
  refine l_call rfl rfl rfl rfl rfl rfl Try.call65 (sp_2) Ts ?_
  rintro ⟨qb, qa, qc⟩ -
  try simp only [List.cons_append, List.nil_append]
  refine ag_nil ?_
  refine l_mapUpd (ek := ekZ) (ev1 := evA) (F := (ov vis G F)) (m := mq) (k := k_) (v := (some ⟨qb, 0, none⟩ : Option Addr)) (by first | exact .inl rfl | exact .inr rfl) rfl rfl rfl rfl Try.underlying77 (keyOK_int Try.underlying3) Tk ?_
  refine ag_nil ?_
  refine r_done ?_
  refine s_keep [3, 9] (e' := [(3, _), (9, _)]) rfl ?_
  refine k_blk_n ?_
  refine k_then_n ?_
  refine s_vecF cb ca cc l Ts ?_
  refine s_rest_put (F := F) (T := T) (S := []) k_ F T Ts (by simp) hkv (fun _ _ _ => rfl) ht (fun _ _ _ => rfl) ?_
  refine s_vecF qb qa qc l Ts ?_
  refine s_rest_next (G := G) (T := T) (S := vis) k_ Ts hnk ht ?_
  rw [ov_next]
  refine loop_next (x := (vis, G)) ((vis ++ [k_], upd G k_ (some (some ⟨qb, 0, none⟩)))) ?_ ?_ ?_ ?_
  · try dsimp only
    exact nodup_snoc hnd hnk
  · show N_rr - (vis ++ [k_]).length < N_rr - vis.length; rw [List.length_append]; simp; omega
  · exact ⟨rfl, rfl, trivial⟩
  · (try simp only [List.cons_append, List.nil_append]); exact Tf
theorem copy_spec (pa : Option Addr) (pc : Nat) (po : Option Addr) (poc b : Nat) (x : FS) (hx : FInv x) : Spec Try.prog 20 [.pointer (some ⟨b, 0, none⟩)] [dfR pa pc po poc b x] (fun (r : Nat) => .pointer (some ⟨r, 0, none⟩)) (fun r => True) (fun r => [dfR pa pc po poc b x, dfR pa pc po poc r x]) := by
 refine spec_mk (n := 88) Try.func20 rfl rfl rfl ?_
 intro Γ w0
 simp only [argE, List.cons_append, List.nil_append, Nat.zero_add, Nat.reduceAdd]
 refine c_seq ?_
 refine c_plain (.q 0 (.done)) (by kernel_rfl) ?_
 refine q_assign rfl rfl rfl rfl ?_
 refine r_done ?_
 refine k_then_n ?_
 refine c_seq ?_
 refine c_seq ?_
 refine s_take (A := dfR pa pc po poc b x) Tk ?_
 refine df_open fun cb m1 m2 m3 m4 va vc F1 F2 F3 F4 V hV => ?_
 refine c_plain (.q 0 ((.l 1 [] (.done)))) (by kernel_rfl) ?_
 refine q_move rfl rfl rfl rfl ?_
 have sp_1 := Fa.none_spec b cb (.slice po x.v.ck.pa.length poc) (.map (some m1)) (.map (some m2)) (.map (some m3)) (.map (some m4)) (.slice va x.vs.length vc) (.int .i64 x.cost)
 refine l_call rfl rfl rfl rfl rfl rfl Try.call32 (sp_1) Ts ?_
 rintro ⟨⟩ -
 try simp only [List.cons_append, List.nil_append]
 refine ag_nil ?_
 refine r_done ?_
 refine k_then_n ?_
 refine c_cond_f rfl ?_
 refine c_skip ?_
 refine k_then_n ?_
 refine c_seq ?_
 refine c_plain (.q 0 (.q 1 (.q 2 ((.l 3 [] ((.l 4 [] (.done)))))))) (by kernel_rfl) ?_
 refine q_move rfl rfl rfl rfl ?_
 refine q_nil_p rfl rfl rfl rfl ?_
 refine q_loadN_c rfl rfl rfl rfl Try.isAgg81 Try.sizeOf81 Tk 0 (us := [_, _, _, _, _, _, _, _]) (by first | rfl | exact (Nat.add_zero _).symm) rfl rfl ?_
 refine l_alloc rfl rfl rfl Try.zeroValue81 (zs := [.pointer none, .slice none 0 0, .map none, .map none, .map none, .map none, .slice none 0 0, .int .i64 0]) rfl ?_
 intro b3
 refine ag_nil ?_
 refine l_store (j := 0) rfl rfl rfl rfl Try.sizeOf81 (us := [_, _, _, _, _, _, _, _]) rfl rfl rfl Tk (by first | rfl | exact (Nat.add_zero _).symm) (by first | decide | (simp; done) | omega) ?_
 simp only [setL, List.set]
 refine ag_nil ?_
 refine r_done ?_
 refine s_keep [0, 3] (e' := [(0, _), (3, _)]) rfl ?_
 refine k_then_n ?_
 refine c_seq ?_
 refine c_plain (.q 0 (.q 1 (.q 2 (.q 3 ((.l 4 [] (.q 5 ((.l 6 [] (.done)))))))))) (by kernel_rfl) ?_
 refine q_move rfl rfl rfl rfl ?_
 refine q_nil_p rfl rfl rfl rfl ?_
 refine q_field (k := 0) rfl rfl rfl rfl Try.underlying81 rfl Try.sizeOf76 rfl ?_
 refine q_load_c (j := 0) rfl rfl rfl rfl Try.isAgg76 Tk (by first | rfl | exact (Nat.add_zero _).symm) (by rfl) ?_
 have sp_2 := Fe.copy_spec pa pc cb x.v.ck hx.v.ck
 refine l_call rfl rfl rfl rfl rfl rfl Try.call63 (sp_2) Ts ?_
 rintro cq -
 try simp only [List.cons_append, List.nil_append]
 refine ag_nil ?_
 refine q_field (k := 0) rfl rfl rfl rfl Try.underlying81 rfl Try.sizeOf76 rfl ?_
 refine l_store (j := 0) rfl rfl rfl rfl Try.sizeOf76 (us := [_]) rfl rfl rfl Tk (by first | rfl | exact (Nat.add_zero _).symm) (by first | decide | (simp; done) | omega) ?_
 simp only [setL, List.set]
 refine ag_nil ?_
 refine r_done ?_
 refine s_keep [0, 3] (e' := [(0, _), (3, _)]) rfl ?_
 refine k_then_n ?_
 refine c_seq ?_
 refine c_draw rfl (.q 0 (.q 1 (.q 2 (.q 3 (.q 5 (.q 6 (.q 7 (.q 8 (.q 10 (.q 11 (.q 12 (.q 13 ((.l 4 [8, 13] ((.l 9 [13] ((.l 14 [] (.q 15 ((.l 16 [] (.q 17 ((.l 18 [] (.q 19 ((.l 20 [] (.done)))))))))))))))))))))))))))) (by kernel_rfl) ?_
 refine q_move rfl rfl rfl rfl ?_
 refine q_nil_p rfl rfl rfl rfl ?_
 refine q_field (k := 2) rfl rfl rfl rfl Try.underlying81 rfl Try.sizeOf77 rfl ?_
 refine q_load_c (j := 2) rfl rfl rfl rfl Try.isAgg77 Tk (by first | rfl | exact (Nat.add_zero _).symm) (by rfl) ?_
 refine q_move rfl rfl rfl rfl ?_
 refine q_nil_p rfl rfl rfl rfl ?_
 refine q_field (k := 3) rfl rfl rfl rfl Try.underlying81 rfl Try.sizeOf77 rfl ?_
 refine q_load_c (j := 3) rfl rfl rfl rfl Try.isAgg77 Tk (by first | rfl | exact (Nat.add_zero _).symm) (by rfl) ?_
 refine q_move rfl rfl rfl rfl ?_
 refine q_nil_p rfl rfl rfl rfl ?_
 refine q_field (k := 4) rfl rfl rfl rfl Try.underlying81 rfl Try.sizeOf77 rfl ?_
 refine q_load_c (j := 4) rfl rfl rfl rfl Try.isAgg77 Tk (by first | rfl | exact (Nat.add_zero _).symm) (by rfl) ?_
 have sp_3 := copied_spec m1 F1 x.v.th hx.v.thc
 refine l_call rfl rfl rfl rfl rfl rfl Try.call64 (sp_3) Ts ?_
 rintro ⟨n1, Gn1⟩ -
 try simp only [List.cons_append, List.nil_append]
 refine ag_load_c (q := 3) rfl rfl rfl Try.isAgg77 Tk (by first | rfl | exact (Nat.add_zero _).symm) (by rfl) ?_
 refine ag_load_c (q := 4) rfl rfl rfl Try.isAgg77 Tk (by first | rfl | exact (Nat.add_zero _).symm) (by rfl) ?_
 refine ag_nil ?_
 have sp_4 := copied_spec m2 F2 x.v.lk hx.v.lkc
 refine l_call rfl rfl rfl rfl rfl rfl Try.call64 (sp_4) Ts ?_
 rintro ⟨n2, Gn2⟩ -
 try simp only [List.cons_append, List.nil_append]
 refine ag_load_c (q := 4) rfl rfl rfl Try.isAgg77 Tk (by first | rfl | exact (Nat.add_zero _).symm) (by rfl) ?_
 refine ag_nil ?_
 have sp_5 := copied_spec m3 F3 x.v.vo hx.v.voc
 refine l_call rfl rfl rfl rfl rfl rfl Try.call64 (sp_5) Ts ?_
 rintro ⟨n3, Gn3⟩ -
 try simp only [List.cons_append, List.nil_append]
 refine ag_nil ?_
 refine q_field (k := 2) rfl rfl rfl rfl Try.underlying81 rfl Try.sizeOf77 rfl ?_
 refine l_store (j := 2) rfl rfl rfl rfl Try.sizeOf77 (us := [_]) rfl rfl rfl Tk (by first | rfl | exact (Nat.add_zero _).symm) (by first | decide | (simp; done) | omega) ?_
 simp only [setL, List.set]
 refine ag_nil ?_
 refine q_field (k := 3) rfl rfl rfl rfl Try.underlying81 rfl Try.sizeOf77 rfl ?_
 refine l_store (j := 3) rfl rfl rfl rfl Try.sizeOf77 (us := [_]) rfl rfl rfl Tk (by first | rfl | exact (Nat.add_zero _).symm) (by first | decide | (simp; done) | omega) ?_
 simp only [setL, List.set]
 refine ag_nil ?_
 refine q_field (k := 4) rfl rfl rfl rfl Try.underlying81 rfl Try.sizeOf77 rfl ?_
 refine l_store (j := 4) rfl rfl rfl rfl Try.sizeOf77 (us := [_]) rfl rfl rfl Tk (by first | rfl | exact (Nat.add_zero _).symm) (by first | decide | (simp; done) | omega) ?_
 simp only [setL, List.set]
 refine ag_nil ?_
 refine r_done ?_
 refine s_keep [0, 3] (e' := [(0, _), (3, _)]) rfl ?_
 refine k_then_n ?_
 refine c_seq ?_
 refine c_plain ((.l 0 [] (.q 1 ((.l 2 [] (.done)))))) (by kernel_rfl) ?_
 refine l_makeMap (Int × Int) (Option Addr) ek2 evA rfl rfl rfl ?_
 intro n4
 refine ag_nil ?_
 refine q_field (k := 5) rfl rfl rfl rfl Try.underlying81 rfl Try.sizeOf78 rfl ?_
 refine l_store (j := 5) rfl rfl rfl rfl Try.sizeOf78 (us := [_]) rfl rfl rfl Tk (by first | rfl | exact (Nat.add_zero _).symm) (by first | decide | (simp; done) | omega) ?_
 simp only [setL, List.set]
 refine ag_nil ?_
 refine r_done ?_
 refine k_then_n ?_
 refine c_seq ?_
 refine c_seq ?_
 refine c_plain (.q 0 (.q 1 (.q 2 (.q 3 ((.l 4 [] (.done))))))) (by kernel_rfl) ?_
 refine q_move rfl rfl rfl rfl ?_
 refine q_nil_p rfl rfl rfl rfl ?_
 refine q_field (k := 5) rfl rfl rfl rfl Try.underlying81 rfl Try.sizeOf78 rfl ?_
 refine q_load_c (j := 5) rfl rfl rfl rfl Try.isAgg78 Tk (by first | rfl | exact (Nat.add_zero _).symm) (by rfl) ?_
 refine l_range (ek := ek2) (ev1 := evA) (F := F4) (m := m4) rfl rfl rfl rfl Try.underlying78 Tk ?_
 intro rr N_rr
 refine ag_nil ?_
 refine r_done ?_
 refine s_keep [0, 3, 42] (e' := [(0, _), (3, _), (42, _)]) rfl ?_
 refine k_then_n ?_
 refine c_block ?_
 refine s_rest_new (res := keptA) (rs ([] : List (Int × Int)) (noF : Int × Int → Option (Option Addr))) (rs ([] : List (Int × Int)) x.v.rd) (rs_noF _) (rs_noF _) ?_
 refine c_loop2 (α := List (Int × Int) × (Int × Int → Option (Option Addr))) (fun (x_ : List (Int × Int) × (Int × Int → Option (Option Addr))) => match x_ with | (vis, G) => vis.Nodup) (fun (x_ : List (Int × Int) × (Int × Int → Option (Option Addr))) => match x_ with | (vis, G) => []) (fun (x_ : List (Int × Int) × (Int × Int → Option (Option Addr))) => match x_ with | (vis, G) => [rng ek2 evA rr m4 F4 vis N_rr, mapO ek2 evA n4 (rs vis G), rest keptA F4 x.v.rd [], rest keptA (rs vis G) (rs vis x.v.rd) []]) (fun (x_ : List (Int × Int) × (Int × Int → Option (Option Addr))) => match x_ with | (vis, G) => N_rr - vis.length) [0, 3, 42] (er := [(0, _), (3, _), (42, _)]) rfl (([] : List (Int × Int)), (noF : Int × Int → Option (Option Addr))) ?_ (by exact trivial) (by (try dsimp only); rw [rs_nil (noF : Int × Int → Option (Option Addr))]; (repeat ((with_reducible apply Z2); focus (first | (with_reducible (repeat (first | exact Z0 | apply Z1)); done) | (repeat (first | exact Z0 | apply Z1))))); exact Z3) ?_
 · exact List.nodup_nil
 rintro ⟨vis, G⟩ hnd
 try simp only [List.cons_append, List.nil_append]
 refine c_seq ?_
 refine c_plain ((.l 0 [] (.q 1 (.done)))) (by kernel_rfl) ?_
 refine l_next (ek := ek2) (ev1 := evA) (F := F4) (m := m4) (vis := vis) (N := N_rr) rfl rfl rfl rfl (by assumption) Tk ?_ ?_
 ·
  intro hall hex
  refine ag_nil ?_
  refine q_extract rfl rfl rfl rfl rfl ?_
  refine r_done ?_
  refine k_then_n ?_
  refine c_seq ?_
  refine c_cond_f rfl ?_
  refine c_exit ?_
  refine k_then_exit ?_
  refine k_then_exit ?_
  refine k_blk_here ?_
  refine k_then_n ?_
  refine c_seq ?_
  refine s_rest_dom (F := F4) (T := x.v.rd) Tk fun hdom => ?_
  rw [rs_all hall hdom]
  have hvl := hx.len
  have hva := hx.v.ck.sh.va
  refine c_plain (.q 0 (.q 1 (.q 2 (.q 3 ((.l 4 [] (.q 5 ((.l 6 [] (.done)))))))))) (by kernel_rfl) ?_
  refine q_move rfl rfl rfl rfl ?_
  refine q_nil_p rfl rfl rfl rfl ?_
  refine q_field (k := 6) rfl rfl rfl rfl Try.underlying81 rfl Try.sizeOf79 rfl ?_
  refine q_load_c (j := 6) rfl rfl rfl rfl Try.isAgg79 Tk (by first | rfl | exact (Nat.add_zero _).symm) (by rfl) ?_
  refine s_take (A := own 4 encF va vc V) Tk ?_
  refine own_fc fun f_6a f_6b f_6c => ?_
  have sp_7 := clonef_spec V va x.vs.length vc (own 4 encF va vc V) (by exact hV) (rds_own encF_len (fun h => (f_6b h).1) f_6c) (by omega)
  refine l_call rfl rfl rfl rfl rfl rfl Try.call66 (sp_7) Ts ?_
  rintro ⟨wa, wc⟩ -
  try simp only [List.cons_append, List.nil_append]
  refine ag_nil ?_
  refine q_field (k := 6) rfl rfl rfl rfl Try.underlying81 rfl Try.sizeOf79 rfl ?_
  refine l_store (j := 6) rfl rfl rfl rfl Try.sizeOf79 (us := [_]) rfl rfl rfl Tk (by first | rfl | exact (Nat.add_zero _).symm) (by first | decide | (simp; done) | omega) ?_
  simp only [setL, List.set]
  refine ag_nil ?_
  refine r_done ?_
  refine s_keep [3] (e' := [(3, _)]) rfl ?_
  refine k_then_n ?_
  refine c_seq ?_
  refine c_seq ?_
  refine c_plain (.q 0 (.q 1 (.q 2 (.q 3 (.done))))) (by kernel_rfl) ?_
  refine q_field (k := 6) rfl rfl rfl rfl Try.underlying81 rfl Try.sizeOf79 rfl ?_
  refine q_load_c (j := 6) rfl rfl rfl rfl Try.isAgg79 Tk (by first | rfl | exact (Nat.add_zero _).symm) (by rfl) ?_
  refine q_len rfl rfl rfl rfl Try.underlying79 ?_
  refine q_move rfl rfl rfl rfl ?_
  refine r_done ?_
  refine k_then_n ?_
  refine c_block ?_
  refine s_restL_nil (res := fvarA) ?_
  refine c_loop2 (α := Nat × List P4F) (fun (x_ : Nat × List P4F) => match x_ with | (k, GV) => k ≤ x.vs.length ∧ (GV.length = k)) (fun (x_ : Nat × List P4F) => match x_ with | (k, GV) => [(72, .int .i64 ((k : Nat) : Int))]) (fun (x_ : Nat × List P4F) => match x_ with | (k, GV) => [restL fvarA V x.vs [], restL fvarA GV (x.vs.take k) [], cells b3 0 [.pointer (some ⟨cq, 0, none⟩), .slice po x.v.ck.pa.length poc, .map (some n1), .map (some n2), .map (some n3), .map (some n4), .slice wa x.vs.length wc, .int .i64 x.cost], own 4 encF wa wc (GV ++ V.drop k)]) (fun (x_ : Nat × List P4F) => match x_ with | (k, GV) => x.vs.length - k) [3, 71] (er := [(3, _), (71, _)]) rfl (0, []) ?_ (by exact ⟨rfl, trivial⟩) (by (try dsimp only); (try simp only [Nat.add_zero, Nat.zero_add]); rw [List.take_zero, List.nil_append, List.drop_zero]; (repeat ((with_reducible apply Z2); focus (first | (with_reducible (repeat (first | exact Z0 | apply Z1)); done) | (repeat (first | exact Z0 | apply Z1))))); exact Z3) ?_
  · exact ⟨Nat.zero_le _, rfl⟩
  rintro ⟨k, GV⟩ ⟨hle_k, hGV⟩
  try simp only [List.cons_append, List.nil_append]
  refine c_seq ?_
  refine c_plain (.q 0 (.done)) (by kernel_rfl) ?_
  refine q_int rfl rfl rfl rfl rfl (b_lss _ _ _ _) ?_
  refine r_done ?_
  refine k_then_n ?_
  refine c_seq ?_
  refine c_cond_p rfl (fun hlt => ?_) (fun hlt => ?_)
  ·
   refine c_skip ?_
   refine k_then_n ?_
   refine c_seq ?_
   refine c_block ?_
   refine c_seq ?_
   refine c_plain (.q 0 (.q 1 (.done))) (by kernel_rfl) ?_
   refine q_move rfl rfl rfl rfl ?_
   refine q_assign rfl rfl rfl rfl ?_
   refine r_done ?_
   refine k_then_n ?_
   refine c_draw rfl (.q 0 (.q 1 (.q 2 (.q 3 (.q 4 (.q 5 (.q 6 (.q 7 (.q 8 ((.l 9 [1] (.q 10 (.q 11 ((.l 12 [] (.done)))))))))))))))) (by kernel_rfl) ?_
   obtain ⟨w, hw⟩ := get_lt (l := x.vs) (i := k) (by omega)
   obtain ⟨hw0, hr0, hws, -, -⟩ := hx.vs w (List.mem_of_getElem? hw)
   obtain ⟨ww, wr, ws, wf⟩ := w
   refine s_restL_take (res := fvarA) (V := V) (Y := x.vs) (S := []) k Tk (by simp) hw fun v_ hv_ => ?_
   obtain ⟨w0_, r0, so, f0⟩ := v_
   refine s_fvar Tk fun he1 he2 he3 => ?_
   simp only at he1 he2 he3
   subst he1 he2 he3
   have hkV := (List.getElem?_eq_some_iff.1 hv_).1
   have hg2 : (GV ++ V.drop k)[k]? = some (w0_, r0, so, f0) := (app_get hGV).trans hv_
   rcases (show ws = none ∨ ∃ s, ws = some s by cases ws <;> simp) with rfl | ⟨s, rfl⟩
   ·
    refine s_optN (a := so) Tk fun hso => ?_
    subst hso
    refine q_field (k := 6) rfl rfl rfl rfl Try.underlying81 rfl Try.sizeOf79 rfl ?_
    refine q_load_c (j := 6) rfl rfl rfl rfl Try.isAgg79 Tk (by first | rfl | exact (Nat.add_zero _).symm) (by rfl) ?_
    refine q_move rfl rfl rfl rfl ?_
    refine q_field (k := 6) rfl rfl rfl rfl Try.underlying81 rfl Try.sizeOf79 rfl ?_
    refine q_load_c (j := 6) rfl rfl rfl rfl Try.isAgg79 Tk (by first | rfl | exact (Nat.add_zero _).symm) (by rfl) ?_
    refine q_move rfl rfl rfl rfl ?_
    refine q_idxO (sz := 3) (k := k) (enc := encF) (xs := (GV ++ V.drop k)) rfl rfl rfl rfl rfl Try.underlying79 Try.sizeOf88 hg2 (by first | rfl | omega) (by omega) Tk ?_
    intro ib81 io81 ha81 hl81 hc81
    refine q_field (k := 2) rfl rfl rfl rfl Try.underlying88 rfl Try.sizeOf86 rfl ?_
    refine q_load_O (v := (.pointer none)) (j := 2) (k' := k) (enc := encF) (off := io81) rfl rfl rfl rfl Try.isAgg86 ha81 encF_len hg2 Tk (by first | rfl | exact (Nat.add_zero _).symm | omega) (by rfl) ?_
    have sp_8 := ccopyn
    refine l_call rfl rfl rfl rfl rfl rfl Try.call65 (sp_8) Ts ?_
    rintro ⟨⟩ -
    try simp only [List.cons_append, List.nil_append]
    refine ag_load_c (q := 6) rfl rfl rfl Try.isAgg79 Tk (by first | rfl | exact (Nat.add_zero _).symm) (by rfl) ?_
    refine ag_nil ?_
    refine q_idxO (sz := 3) (k := k) (enc := encF) (xs := (GV ++ V.drop k)) rfl rfl rfl rfl rfl Try.underlying79 Try.sizeOf88 hg2 (by first | rfl | omega) (by omega) Tk ?_
    intro ib85 io85 ha85 hl85 hc85
    refine q_field (k := 2) rfl rfl rfl rfl Try.underlying88 rfl Try.sizeOf86 rfl ?_
    refine l_store_O (j := 2) (k := k) (q := (w0_, r0, none, f0)) (enc := encF) (off := io85) rfl rfl rfl rfl Try.sizeOf86 (us := [_]) rfl rfl rfl ha85 encF_len hg2 Tk (by first | rfl | exact (Nat.add_zero _).symm | omega) (by first | decide | exact Nat.le_of_ble_eq_true rfl) (by rfl) ?_
    refine ag_nil ?_
    refine r_done ?_
    refine s_keep [3, 71, 72] (e' := [(3, _), (71, _), (72, _)]) rfl ?_
    refine k_blk_n ?_
    refine k_then_n ?_
    refine c_plain (.q 0 (.q 1 (.done))) (by kernel_rfl) ?_
    refine q_int rfl rfl rfl rfl rfl (b_add' _ (by exact fits_i64 (by omega) (by omega))) ?_
    refine q_move rfl rfl rfl rfl ?_
    refine r_done ?_
    refine k_then_n ?_
    refine s_optNF ?_
    refine s_fvarF (w0_, r0, none, f0) (w0_, r0, none, f0) Td rfl rfl rfl ?_
    refine s_restL_back (res := fvarA) (V := V) (Y := x.vs) (S := []) k Ts (by simp) hv_ hw ?_
    refine s_optNF ?_
    refine s_fvarF (w0_, r0, none, f0) (w0_, r0, none, f0) Td rfl rfl rfl ?_
    refine s_restL_push (V := GV) (Y := x.vs.take k) (w0_, r0, none, f0) (w0_, r0, none, f0) Ts (by rw [hGV, List.length_take]; omega) ?_
    rw [← take_snoc hw, app_set ((w0_, r0, none, f0) : P4F) hGV hkV]
    refine loop_next (x := (k, GV)) ((k + 1, GV ++ [(w0_, r0, none, f0)])) ?_ ?_ ?_ ?_
    · try dsimp only
      exact ⟨by omega, by simp [hGV]⟩
    · show x.vs.length - (k + 1) < x.vs.length - k; omega
    · exact ⟨rfl, rfl, rfl, trivial⟩
    · (try simp only [List.cons_append, List.nil_append]); exact Tf
   ·
    refine s_optS (a := so) (l := s) Tk fun sb sa sc hso => ?_
    subst hso
    have hsl := (hws s rfl).len
    refine q_field (k := 6) rfl rfl rfl rfl Try.underlying81 rfl Try.sizeOf79 rfl ?_
    refine q_load_c (j := 6) rfl rfl rfl rfl Try.isAgg79 Tk (by first | rfl | exact (Nat.add_zero _).symm) (by rfl) ?_
    refine q_move rfl rfl rfl rfl ?_
    refine q_field (k := 6) rfl rfl rfl rfl Try.underlying81 rfl Try.sizeOf79 rfl ?_
    refine q_load_c (j := 6) rfl rfl rfl rfl Try.isAgg79 Tk (by first | rfl | exact (Nat.add_zero _).symm) (by rfl) ?_
    refine q_move rfl rfl rfl rfl ?_
    refine q_idxO (sz := 3) (k := k) (enc := encF) (xs := (GV ++ V.drop k)) rfl rfl rfl rfl rfl Try.underlying79 Try.sizeOf88 hg2 (by first | rfl | omega) (by omega) Tk ?_
    intro ib81 io81 ha81 hl81 hc81
    refine q_field (k := 2) rfl rfl rfl rfl Try.underlying88 rfl Try.sizeOf86 rfl ?_
    refine q_load_O (v := (.pointer (some ⟨sb, 0, none⟩))) (j := 2) (k' := k) (enc := encF) (off := io81) rfl rfl rfl rfl Try.isAgg86 ha81 encF_len hg2 Tk (by first | rfl | exact (Nat.add_zero _).symm | omega) (by rfl) ?_
    have sp_9 := Vc.copy_spec sb s sa s.length sc (by rfl) (by omega)
    refine l_call rfl rfl rfl rfl rfl rfl Try.call65 (sp_9) Ts ?_
    rintro ⟨qb, qa, qc⟩ -
    try simp only [List.cons_append, List.nil_append]
    refine ag_load_c (q := 6) rfl rfl rfl Try.isAgg79 Tk (by first | rfl | exact (Nat.add_zero _).symm) (by rfl) ?_
    refine ag_nil ?_
    refine q_idxO (sz := 3) (k := k) (enc := encF) (xs := (GV ++ V.drop k)) rfl rfl rfl rfl rfl Try.underlying79 Try.sizeOf88 hg2 (by first | rfl | omega) (by omega) Tk ?_
    intro ib85 io85 ha85 hl85 hc85
    refine q_field (k := 2) rfl rfl rfl rfl Try.underlying88 rfl Try.sizeOf86 rfl ?_
    refine l_store_O (j := 2) (k := k) (q := (w0_, r0, (some ⟨qb, 0, none⟩), f0)) (enc := encF) (off := io85) rfl rfl rfl rfl Try.sizeOf86 (us := [_]) rfl rfl rfl ha85 encF_len hg2 Tk (by first | rfl | exact (Nat.add_zero _).symm | omega) (by first | decide | exact Nat.le_of_ble_eq_true rfl) (by rfl) ?_
    refine ag_nil ?_
    refine r_done ?_
    refine s_keep [3, 71, 72] (e' := [(3, _), (71, _), (72, _)]) rfl ?_
    refine k_blk_n ?_
    refine k_then_n ?_
    refine c_plain (.q 0 (.q 1 (.done))) (by kernel_rfl) ?_
    refine q_int rfl rfl rfl rfl rfl (b_add' _ (by exact fits_i64 (by omega) (by omega))) ?_
    refine q_move rfl rfl rfl rfl ?_
    refine r_done ?_
    refine k_then_n ?_
    refine s_vecF sb sa sc s Ts ?_
    refine s_optF Td ?_
    refine s_fvarF (w0_, r0, (some ⟨sb, 0, none⟩), f0) (w0_, r0, some s, f0) Td rfl rfl rfl ?_
    refine s_restL_back (res := fvarA) (V := V) (Y := x.vs) (S := []) k Ts (by simp) hv_ hw ?_
    refine s_vecF qb qa qc s Ts ?_
    refine s_optF Td ?_
    refine s_fvarF (w0_, r0, (some ⟨qb, 0, none⟩), f0) (w0_, r0, some s, f0) Td rfl rfl rfl ?_
    refine s_restL_push (V := GV) (Y := x.vs.take k) (w0_, r0, (some ⟨qb, 0, none⟩), f0) (w0_, r0, some s, f0) Ts (by rw [hGV, List.length_take]; omega) ?_
    rw [← take_snoc hw, app_set ((w0_, r0, (some ⟨qb, 0, none⟩), f0) : P4F) hGV hkV]
    refine loop_next (x := (k, GV)) ((k + 1, GV ++ [(w0_, r0, (some ⟨qb, 0, none⟩), f0)])) ?_ ?_ ?_ ?_
    · try dsimp only
      exact ⟨by omega, by simp [hGV]⟩
    · show x.vs.length - (k + 1) < x.vs.length - k; omega
    · exact ⟨rfl, rfl, rfl, trivial⟩
    · (try simp only [List.cons_append, List.nil_append]); exact Tf
  ·
   refine c_exit ?_
   refine k_then_exit ?_
   refine k_then_exit ?_
   refine k_blk_here ?_
   refine k_then_n ?_
   refine c_seq ?_
   refine c_plain (.q 0 (.done)) (by kernel_rfl) ?_
   refine q_assign rfl rfl rfl rfl ?_
   refine r_done ?_
   refine s_keep [2] (e' := [(2, _)]) rfl ?_
   refine k_then_n ?_
   refine c_ret ?_
   obtain rfl : k = x.vs.length := by omega
   rw [List.take_length, List.drop_of_length_le (by omega), List.append_nil]
   refine df_fold (b := b) x (pa := pa) (pc := pc) (po := po) (poc := poc) (cb := cb) (m1 := m1) (m2 := m2) (m3 := m3) (m4 := m4) (va := va) (vc := vc) (F1 := F1) (F2 := F2) (F3 := F3) (F4 := F4) (V := V) Ts (by rfl) (by rfl) (by rfl) (by first | exact hV | simp) ?_
   refine df_fold (b := b3) x (pa := pa) (pc := pc) (po := po) (poc := poc) (cb := cq) (m1 := n1) (m2 := n2) (m3 := n3) (m4 := n4) (va := wa) (vc := wc) (F1 := Gn1) (F2 := Gn2) (F3 := Gn3) (F4 := (rs vis G)) (V := GV) Ts (by rfl) (by rfl) (by rfl) (by first | exact hGV | simp) ?_
   refine ret1 rfl rfl (b3) (by first | rfl | (first | rfl | (congr 1; done) | (congr 1 <;> first | rfl | omega | (simp; done) | (simp; omega)))) (by trivial) ?_
   exact Tf
 ·
  intro k_ v_ hkv hnk hltN
  refine ag_nil ?_
  refine s_rest_takeF (F := F4) (T := x.v.rd) (S := []) k_ Tk (by simp) hkv fun p ht => ?_
  obtain ⟨l, z⟩ := p
  refine s_kept Tk fun kb ka kc hkb => ?_
  subst hkb
  dsimp only
  have hll := (hx.v.rdc _ _ ht).len
  simp only at hll
  refine q_extract rfl rfl rfl rfl rfl ?_
  refine r_done ?_
  refine k_then_n ?_
  refine c_seq ?_
  refine c_cond_t rfl ?_
  refine c_skip ?_
  refine k_then_n ?_
  refine c_block ?_
  refine c_seq ?_
  refine c_plain (.q 0 (.q 1 (.q 2 ((.l 3 [] ((.l 4 [] (.q 5 (.done))))))))) (by kernel_rfl) ?_
  refine q_entry (ek := ek2) (ev1 := evA) (F := F4) (m := m4) (vis := vis) (N := N_rr) (k := k_) (v := (some ⟨kb, 0, none⟩)) rfl rfl rfl rfl hkv Tk ?_
  refine q_extract rfl rfl rfl rfl rfl ?_
  refine q_extract rfl rfl rfl rfl rfl ?_
  refine s_eq 47 rfl (v' := .pointer (some ⟨kb, 0, none⟩)) (by rfl) ?_
  refine l_alloc rfl rfl rfl Try.zeroValue125 (zs := [.int .i64 0, .int .i64 0]) rfl ?_
  intro b4
  refine ag_nil ?_
  refine l_store (j := 0) rfl rfl rfl rfl Try.sizeOf125 (us := [_, _]) rfl rfl rfl Tk (by first | rfl | exact (Nat.add_zero _).symm) (by first | decide | (simp; done) | omega) ?_
  simp only [setL, List.set]
  refine ag_nil ?_
  refine q_assign rfl rfl rfl rfl ?_
  refine r_done ?_
  refine s_keep [0, 3, 4, 5, 42] (e' := [(0, _), (3, _), (4, _), (5, _), (42, _)]) rfl ?_
  refine k_then_n ?_
  refine c_draw rfl (.q 0 (.q 1 (.q 2 (.q 3 (.q 4 (.q 5 (.q 9 (.q 10 (.q 11 (.q 12 ((.l 6 [1, 2, 12] (.q 7 (.q 8 (.q 13 ((.l 14 [1, 2] ((.l 15 [] (.done)))))))))))))))))))) (by kernel_rfl) ?_
  refine q_field (k := 5) rfl rfl rfl rfl Try.underlying81 rfl Try.sizeOf78 rfl ?_
  refine q_load_c (j := 5) rfl rfl rfl rfl Try.isAgg78 Tk (by first | rfl | exact (Nat.add_zero _).symm) (by rfl) ?_
  refine q_loadN_c rfl rfl rfl rfl Try.isAgg125 Try.sizeOf125 Tk 0 (us := [_, _]) (by first | rfl | exact (Nat.add_zero _).symm) rfl rfl ?_
  refine q_move rfl rfl rfl rfl ?_
  refine q_nil_p rfl rfl rfl rfl ?_
  refine q_field (k := 0) rfl rfl rfl rfl Try.underlying136 rfl Try.sizeOf134 rfl ?_
  refine q_move rfl rfl rfl rfl ?_
  refine q_nil_p rfl rfl rfl rfl ?_
  refine q_field (k := 1) rfl rfl rfl rfl Try.underlying136 rfl Try.sizeOf3 rfl ?_
  refine q_load_c (j := 1) rfl rfl rfl rfl Try.isAgg3 Tk (by first | rfl | exact (Nat.add_zero _).symm) (by rfl) ?_
  have sp_10 := copyk_spec kb l ka l.length kc (by rfl) (by omega) (.int .i64 z)
  refine l_call rfl rfl rfl rfl rfl rfl Try.call65 (sp_10) Ts ?_
  rintro ⟨qb, qa, qc⟩ -
  try simp only [List.cons_append, List.nil_append]
  refine ag_load_c (q := 5) rfl rfl rfl Try.isAgg78 Tk (by first | rfl | exact (Nat.add_zero _).symm) (by rfl) ?_
  refine ag_loadN_c rfl rfl (us := [_, _]) rfl Try.isAgg125 Try.sizeOf125 Tk 0 (by first | rfl | exact (Nat.add_zero _).symm) rfl rfl ?_
  refine ag_load_c (q := 1) rfl rfl rfl Try.isAgg3 Tk (by first | rfl | exact (Nat.add_zero _).symm) (by rfl) ?_
  refine ag_nil ?_
  refine q_nil_p rfl rfl rfl rfl ?_
  refine q_loadN_c rfl rfl rfl rfl Try.isAgg134 Try.sizeOf134 Tk 0 (us := [_]) (by first | rfl | exact (Nat.add_zero _).symm) rfl rfl ?_
  refine q_build rfl rfl rfl rfl (vs := [_, _]) (run_buildS Try.underlying136 Try.zeroValue136 (ps := [(0, 1), (1, 1)]) ⟨rfl, Try.sizeOf134, rfl, Try.sizeOf3, trivial⟩ rfl) ?_
  refine l_box rfl rfl rfl rfl (us := [_, _]) rfl ?_
  intro b62
  refine ag_load_c (q := 5) rfl rfl rfl Try.isAgg78 Tk (by first | rfl | exact (Nat.add_zero _).symm) (by rfl) ?_
  refine ag_loadN_c rfl rfl (us := [_, _]) rfl Try.isAgg125 Try.sizeOf125 Tk 0 (by first | rfl | exact (Nat.add_zero _).symm) rfl rfl ?_
  refine ag_nil ?_
  refine l_mapUpd (ek := ek2) (ev1 := evA) (F := (rs vis G)) (m := n4) (k := (k_.1, k_.2)) (v := (some ⟨b62, 0, none⟩ : Option Addr)) (by first | exact .inl rfl | exact .inr rfl) rfl rfl rfl rfl Try.underlying78 (keyOK_pair Try.underlying125 rfl rfl rfl rfl Try.underlying3 Try.underlying3 Try.isAgg3 Try.isAgg3 (by kernel_rfl)) Tk ?_
  refine ag_nil ?_
  refine r_done ?_
  refine s_keep [0, 3, 42] (e' := [(0, _), (3, _), (42, _)]) rfl ?_
  refine k_blk_n ?_
  refine k_then_n ?_
  refine s_keptF kb ka kc l z Ts ?_
  refine s_rest_put (F := F4) (T := x.v.rd) (S := []) k_ F4 x.v.rd Ts (by simp) hkv (fun _ _ _ => rfl) ht (fun _ _ _ => rfl) ?_
  refine s_keptF b62 qa qc l z Ts ?_
  refine s_rest_next (G := G) (T := x.v.rd) (S := vis) k_ Ts hnk ht ?_
  rw [show ((k_.1, k_.2) : Int × Int) = k_ from rfl, rs_next]
  refine loop_next (x := (vis, G)) ((vis ++ [k_], upd G k_ (some (some ⟨b62, 0, none⟩)))) ?_ ?_ ?_ ?_
  · try dsimp only
    exact nodup_snoc hnd hnk
  · show N_rr - (vis ++ [k_]).length < N_rr - vis.length; rw [List.length_append]; simp; omega
  · exact ⟨rfl, rfl, rfl, trivial⟩
  · (try simp only [List.cons_append, List.nil_append]); exact Tf
end Go.Ab.Fa
set_option linter.unusedVariables false
set_option linter.unusedSimpArgs false
set_option maxRecDepth 100000
namespace Go.Ab.Fa
open Go Go.Proofs Go.Ab Go.Ab.Fe Go.Ab.Vc Go.Ab.Dj Go.Ab.DjB
theorem tm_rng (a m : Int) (h : 0 < m) : -m < Int.tmod a m ∧ Int.tmod a m < m := by
  rcases Int.le_total 0 a with h1 | h1
  · rw [Int.tmod_eq_emod_of_nonneg h1]
    have := Int.emod_nonneg a (Int.ne_of_gt h)
    have := Int.emod_lt_of_pos a h
    omega
  · have e : Int.tmod a m = -Int.tmod (-a) m := by rw [Int.neg_tmod]; omega
    rw [e, Int.tmod_eq_emod_of_nonneg (by omega)]
    have := Int.emod_nonneg (-a) (Int.ne_of_gt h)
    have := Int.emod_lt_of_pos (-a) h
    omega
theorem twice_ok (th va vo lk : Int) (pl : List Int) (ao : Option Addr) (n c : Nat) (A : HProp) (hr : RdS A ao (pl.flatMap encZ)) (hn : pl.length = n) (hb : n ≤ 4000000) (es : List T3) (eo : Option Addr) (m ec : Nat) (he : RdS A eo (es.flatMap enc3)) (hm : es.length = m) (hmb : m ≤ 4000000) (ms : List T3) (mo : Option Addr) (m2 mc : Nat) (hms : RdS A mo (ms.flatMap enc3)) (hm2 : ms.length = m2) (hm2b : m2 ≤ 4000000) (cut : Int) (hok : OkS th va vo lk pl) : Spec Try.prog 6 [.agg #[.int .i64 th, .int .i64 va, .int .i64 vo, .int .i64 lk, .slice ao n c, .slice eo m ec, .slice mo m2 mc, .int .i64 cut]] [A] (fun (_ : Unit) => .bool true) (fun _ => True) (fun _ => [A]) := by
 refine spec_mk (n := 182) Try.func6 rfl rfl rfl ?_
 intro Γ w0
 simp only [argE, List.cons_append, List.nil_append, Nat.zero_add, Nat.reduceAdd]
 refine c_seq ?_
 refine c_plain ((.l 0 [] (.q 1 (.done)))) (by kernel_rfl) ?_
 refine l_box rfl rfl rfl rfl (us := [_, _, _, _, _, _, _, _]) rfl ?_
 intro b1
 refine ag_nil ?_
 refine q_assign rfl rfl rfl rfl ?_
 refine r_done ?_
 refine k_then_n ?_
 refine c_seq ?_
 refine c_plain (.q 0 (.q 1 (.q 2 (.q 3 ((.l 4 [] (.q 5 (.q 6 (.q 7 ((.l 8 [] ((.l 9 [] (.q 10 (.done))))))))))))))) (by kernel_rfl) ?_
 refine q_field (k := 0) rfl rfl rfl rfl Try.underlying58 rfl Try.sizeOf25 rfl ?_
 refine q_loadN_c rfl rfl rfl rfl Try.isAgg25 Try.sizeOf25 Tk 0 (us := [_, _, _, _, _]) (by first | rfl | exact (Nat.add_zero _).symm) rfl rfl ?_
 refine q_field (k := 5) rfl rfl rfl rfl Try.underlying58 rfl Try.sizeOf26 rfl ?_
 refine q_load_c (j := 5) rfl rfl rfl rfl Try.isAgg26 Tk (by first | rfl | exact (Nat.add_zero _).symm) (by rfl) ?_
 have sp_1 := run_ok th va vo lk pl ao n c A (hr) (by first | rfl | assumption | omega | (simp; done) | (simp; omega)) (by omega) es eo m ec (he) (by first | rfl | assumption | omega | (simp; done) | (simp; omega)) (by omega) hok
 refine l_call rfl rfl rfl rfl rfl rfl Try.call16 (sp_1) Ts ?_
 rintro ⟨⟨ea, ed⟩, ⟨ra, rd⟩, RL⟩ hRL
 have hcan := fun (i : Nat) (e : T3) (h : (runE (newF th va vo lk pl) es)[i]? = some e) => run_can hok es (by omega) h
 have hLl := runE_len es (newF th va vo lk pl)
 generalize hL : (runE (newF th va vo lk pl) es) = L at hcan hLl ⊢
 try simp only [List.cons_append, List.nil_append]
 refine ag_nil ?_
 refine q_move rfl rfl rfl rfl ?_
 refine q_extract rfl rfl rfl rfl rfl ?_
 refine q_extract rfl rfl rfl rfl rfl ?_
 refine l_alloc rfl rfl rfl Try.zeroValue44 (zs := [.int .i64 0, .int .i64 0, .int .i64 0, .int .i64 0, .slice none 0 0, .slice none 0 0, .slice none 0 0]) rfl ?_
 intro b3
 refine ag_nil ?_
 refine l_store (j := 0) rfl rfl rfl rfl Try.sizeOf44 (us := [_, _, _, _, _, _, _]) rfl rfl rfl Tk (by first | rfl | exact (Nat.add_zero _).symm) (by first | decide | (simp; done) | omega) ?_
 simp only [setL, List.set]
 refine ag_nil ?_
 refine q_assign rfl rfl rfl rfl ?_
 refine r_done ?_
 refine s_keep [1, 3, 4] (e' := [(1, _), (3, _), (4, _)]) rfl ?_
 refine k_then_n ?_
 refine c_seq ?_
 refine c_plain (.q 0 (.q 1 ((.l 2 [] (.q 3 (.q 4 (.q 5 (.q 6 (.q 7 (.done)))))))))) (by kernel_rfl) ?_
 refine q_field (k := 0) rfl rfl rfl rfl Try.underlying58 rfl Try.sizeOf25 rfl ?_
 refine q_loadN_c rfl rfl rfl rfl Try.isAgg25 Try.sizeOf25 Tk 0 (us := [_, _, _, _, _]) (by first | rfl | exact (Nat.add_zero _).symm) rfl rfl ?_
 have sp_2 := Fa.new_spec th va vo lk pl ao n c A (hr) (by first | rfl | assumption | omega | (simp; done) | (simp; omega)) (by omega) hok
 refine l_call rfl rfl rfl rfl rfl rfl Try.call9 (sp_2) Ts ?_
 rintro ⟨d, ⟨dpa, dpc⟩, dpo, dpoc⟩ -
 try simp only [List.cons_append, List.nil_append]
 refine ag_nil ?_
 refine q_move rfl rfl rfl rfl ?_
 refine q_extract rfl rfl rfl rfl rfl ?_
 refine q_extract rfl rfl rfl rfl rfl ?_
 refine q_assign rfl rfl rfl rfl ?_
 refine q_assign rfl rfl rfl rfl ?_
 refine r_done ?_
 refine s_keep [1, 3, 4, 5, 6] (e' := [(1, _), (3, _), (4, _), (5, _), (6, _)]) rfl ?_
 refine k_then_n ?_
 refine c_seq ?_
 refine c_plain (.q 0 (.q 1 ((.l 2 [] (.q 3 (.q 4 (.q 5 (.q 6 (.q 7 (.done)))))))))) (by kernel_rfl) ?_
 refine q_field (k := 0) rfl rfl rfl rfl Try.underlying58 rfl Try.sizeOf25 rfl ?_
 refine q_loadN_c rfl rfl rfl rfl Try.isAgg25 Try.sizeOf25 Tk 0 (us := [_, _, _, _, _]) (by first | rfl | exact (Nat.add_zero _).symm) rfl rfl ?_
 have sp_3 := Fa.new_spec th va vo lk pl ao n c A (hr) (by first | rfl | assumption | omega | (simp; done) | (simp; omega)) (by omega) hok
 refine l_call rfl rfl rfl rfl rfl rfl Try.call9 (sp_3) Ts ?_
 rintro ⟨c, ⟨cpa, cpc⟩, cpo, cpoc⟩ -
 try simp only [List.cons_append, List.nil_append]
 refine ag_nil ?_
 refine q_move rfl rfl rfl rfl ?_
 refine q_extract rfl rfl rfl rfl rfl ?_
 refine q_extract rfl rfl rfl rfl rfl ?_
 refine q_assign rfl rfl rfl rfl ?_
 refine q_assign rfl rfl rfl rfl ?_
 refine r_done ?_
 refine s_keep [1, 3, 4, 5, 6, 7, 8] (e' := [(1, _), (3, _), (4, _), (5, _), (6, _), (7, _), (8, _)]) rfl ?_
 refine k_then_n ?_
 refine c_seq ?_
 refine c_seq ?_
 refine c_plain (.q 0 (.q 1 (.q 2 (.q 3 (.q 4 (.q 5 (.q 6 (.q 7 (.q 8 (.q 9 (.q 10 (.q 11 (.q 12 (.q 13 (.q 14 (.q 15 (.q 16 (.q 17 (.q 18 (.q 19 (.q 20 (.q 21 (.done))))))))))))))))))))))) (by kernel_rfl) ?_
 refine q_move rfl rfl rfl rfl ?_
 refine q_ne_nil rfl rfl rfl rfl Try.underlying27 ?_
 refine s_eq 36 rfl (v' := .bool true) rfl ?_
 refine q_move rfl rfl rfl rfl ?_
 refine q_neb rfl rfl rfl rfl rfl Try.underlying4 ?_
 refine s_eq 38 rfl (v' := .bool false) rfl ?_
 refine q_move rfl rfl rfl rfl ?_
 refine q_move rfl rfl rfl rfl ?_
 refine q_ne_nil rfl rfl rfl rfl Try.underlying27 ?_
 refine s_eq 41 rfl (v' := .bool true) rfl ?_
 refine q_move rfl rfl rfl rfl ?_
 refine q_neb rfl rfl rfl rfl rfl Try.underlying4 ?_
 refine s_eq 43 rfl (v' := .bool false) rfl ?_
 refine q_pick_f rfl rfl rfl rfl rfl ?_
 refine q_move rfl rfl rfl rfl ?_
 refine q_move rfl rfl rfl rfl ?_
 refine q_int rfl rfl rfl rfl rfl (b_eql _ _ _ _) ?_
 refine s_eq 47 rfl (v' := .bool true) (by first | rfl | simp) ?_
 refine q_move rfl rfl rfl rfl ?_
 refine q_neb rfl rfl rfl rfl rfl Try.underlying4 ?_
 refine s_eq 49 rfl (v' := .bool false) rfl ?_
 refine q_pick_f rfl rfl rfl rfl rfl ?_
 refine q_move rfl rfl rfl rfl ?_
 refine q_move rfl rfl rfl rfl ?_
 refine q_int rfl rfl rfl rfl rfl (b_eql _ _ _ _) ?_
 refine s_eq 53 rfl (v' := .bool true) (by first | rfl | simp) ?_
 refine q_move rfl rfl rfl rfl ?_
 refine q_neb rfl rfl rfl rfl rfl Try.underlying4 ?_
 refine s_eq 55 rfl (v' := .bool false) rfl ?_
 refine q_pick_f rfl rfl rfl rfl rfl ?_
 refine r_done ?_
 refine s_keep [1, 3, 5, 7, 56] (e' := [(1, _), (3, _), (5, _), (7, _), (56, _)]) rfl ?_
 refine k_then_n ?_
 refine c_cond_f rfl ?_
 refine c_skip ?_
 refine k_then_n ?_
 refine c_seq ?_
 refine c_seq ?_
 refine c_plain (.q 0 (.q 1 (.q 2 (.q 3 (.q 4 (.q 5 (.done))))))) (by kernel_rfl) ?_
 refine q_move rfl rfl rfl rfl ?_
 refine q_eq_nil rfl rfl rfl rfl Try.underlying27 ?_
 refine s_eq 58 rfl (v' := .bool false) rfl ?_
 refine q_move rfl rfl rfl rfl ?_
 refine q_move rfl rfl rfl rfl ?_
 refine q_eq_nil rfl rfl rfl rfl Try.underlying27 ?_
 refine s_eq 61 rfl (v' := .bool false) rfl ?_
 refine q_pick_f rfl rfl rfl rfl rfl ?_
 refine r_done ?_
 refine s_keep [1, 3, 5, 7, 62] (e' := [(1, _), (3, _), (5, _), (7, _), (62, _)]) rfl ?_
 refine k_then_n ?_
 refine c_cond_f rfl ?_
 refine c_skip ?_
 refine k_then_n ?_
 refine c_seq ?_
 refine c_plain (.q 0 (.done)) (by kernel_rfl) ?_
 refine q_assign rfl rfl rfl rfl ?_
 refine r_done ?_
 refine k_then_n ?_
 refine c_seqJ (α := Nat) (fun (kk : Nat) => kk ≤ L.length) (fun (kk : Nat) => [(9, .int .i64 ((kk : Nat) : Int))]) (fun (kk : Nat) => []) [1, 3, 5, 7] (er := [(1, _), (3, _), (5, _), (7, _)]) rfl [] Ts ?_ ?_
 ·
  refine c_seq ?_
  refine c_plain (.q 0 (.q 1 (.q 2 (.q 3 (.done))))) (by kernel_rfl) ?_
  refine q_field (k := 5) rfl rfl rfl rfl Try.underlying44 rfl Try.sizeOf26 rfl ?_
  refine q_load_c (j := 5) rfl rfl rfl rfl Try.isAgg26 Tk (by first | rfl | exact (Nat.add_zero _).symm) (by rfl) ?_
  refine q_len rfl rfl rfl rfl Try.underlying26 ?_
  refine q_int rfl rfl rfl rfl rfl (b_gtr _ _ _ _) ?_
  refine r_done ?_
  refine s_keep [1, 3, 5, 7, 9, 67] (e' := [(1, _), (3, _), (5, _), (7, _), (9, _), (67, _)]) rfl ?_
  refine k_then_n ?_
  refine c_cond_p rfl (fun hnz => ?_) (fun hnz => ?_)
  ·
   refine c_draw rfl (.q 0 (.q 1 (.q 2 (.q 3 (.q 4 (.q 5 (.q 6 (.q 7 (.q 8 (.q 9 (.q 10 (.q 11 (.q 12 (.q 13 (.q 14 (.done)))))))))))))))) (by kernel_rfl) ?_
   refine q_field (k := 7) rfl rfl rfl rfl Try.underlying58 rfl Try.sizeOf3 rfl ?_
   refine q_load_c (j := 7) rfl rfl rfl rfl Try.isAgg3 Tk (by first | rfl | exact (Nat.add_zero _).symm) (by rfl) ?_
   refine q_field (k := 5) rfl rfl rfl rfl Try.underlying44 rfl Try.sizeOf26 rfl ?_
   refine q_load_c (j := 5) rfl rfl rfl rfl Try.isAgg26 Tk (by first | rfl | exact (Nat.add_zero _).symm) (by rfl) ?_
   refine q_len rfl rfl rfl rfl Try.underlying26 ?_
   refine q_int rfl rfl rfl rfl rfl (b_remT _ (by omega)) ?_
   have htm := tm_rng cut ((L.length : Nat) : Int) (by omega)
   refine q_field (k := 5) rfl rfl rfl rfl Try.underlying44 rfl Try.sizeOf26 rfl ?_
   refine q_load_c (j := 5) rfl rfl rfl rfl Try.isAgg26 Tk (by first | rfl | exact (Nat.add_zero _).symm) (by rfl) ?_
   refine q_len rfl rfl rfl rfl Try.underlying26 ?_
   refine q_int rfl rfl rfl rfl rfl (b_add' _ (by exact fits_i64 (by omega) (by omega))) ?_
   refine q_field (k := 5) rfl rfl rfl rfl Try.underlying44 rfl Try.sizeOf26 rfl ?_
   refine q_load_c (j := 5) rfl rfl rfl rfl Try.isAgg26 Tk (by first | rfl | exact (Nat.add_zero _).symm) (by rfl) ?_
   refine q_len rfl rfl rfl rfl Try.underlying26 ?_
   refine q_int rfl rfl rfl rfl rfl (b_rem _ (by omega) (by omega)) ?_
   have hk1 := Int.emod_nonneg ((Int.tmod cut ((L.length : Nat) : Int)) + ((L.length : Nat) : Int)) (show ((L.length : Nat) : Int) ≠ 0 by omega)
   have hk2 := Int.emod_lt_of_pos ((Int.tmod cut ((L.length : Nat) : Int)) + ((L.length : Nat) : Int)) (show 0 < ((L.length : Nat) : Int) by omega)
   refine q_assign rfl rfl rfl rfl ?_
   refine r_done ?_
   refine s_keep [1, 3, 5, 7, 9] (e' := [(1, _), (3, _), (5, _), (7, _), (9, _)]) rfl ?_
   refine k_then_n ?_
   refine s_eq 9 rfl (v' := .int .i64 ((((((Int.tmod cut ((L.length : Nat) : Int)) + ((L.length : Nat) : Int)) % ((L.length : Nat) : Int) : Int).toNat) : Nat) : Int)) (by first | rfl | (congr 1; omega)) ?_
   refine join_next ((((Int.tmod cut ((L.length : Nat) : Int)) + ((L.length : Nat) : Int)) % ((L.length : Nat) : Int) : Int).toNat) (by omega) (by exact ⟨rfl, rfl, rfl, rfl, rfl, trivial⟩) (by (try simp only [List.cons_append, List.nil_append]); (repeat ((with_reducible apply Z2); focus (first | (with_reducible (repeat (first | exact Z0 | apply Z1)); done) | (repeat (first | exact Z0 | apply Z1))))); (repeat (first | exact Z3 | exact Takes.self | refine takes_drop2 ?_)))
  ·
   refine c_skip ?_
   refine k_then_n ?_
   refine s_eq 9 rfl (v' := .int .i64 ((((0 : Int).toNat) : Nat) : Int)) (by first | rfl | (congr 1; omega)) ?_
   refine join_next ((0 : Int).toNat) (by omega) (by exact ⟨rfl, rfl, rfl, rfl, rfl, trivial⟩) (by (try simp only [List.cons_append, List.nil_append]); (repeat ((with_reducible apply Z2); focus (first | (with_reducible (repeat (first | exact Z0 | apply Z1)); done) | (repeat (first | exact Z0 | apply Z1))))); (repeat (first | exact Z3 | exact Takes.self | refine takes_drop2 ?_)))
 ·
  rintro kk hkk
  try simp only [List.cons_append, List.nil_append]
  refine c_seq ?_
  refine c_seq ?_
  refine c_plain (.q 0 (.done)) (by kernel_rfl) ?_
  refine q_assign rfl rfl rfl rfl ?_
  refine r_done ?_
  refine k_then_n ?_
  refine c_block ?_
  refine c_loop2 (α := Nat) (fun (i : Nat) => i ≤ L.length) (fun (i : Nat) => [(10, .int .i64 ((i : Nat) : Int))]) (fun (i : Nat) => [dfR dpa dpc dpo dpoc d (fAll (fNew th va vo lk pl) (L.take i)), own 1 encZ dpa dpc pl, own 1 encZ dpo dpoc pl]) (fun (i : Nat) => L.length - i) [1, 3, 5, 7, 9] (er := [(1, _), (3, _), (5, _), (7, _), (9, _)]) rfl (0) ?_ (by exact ⟨rfl, trivial⟩) (by (try dsimp only); rw [List.take_zero, show fAll (fNew th va vo lk pl) [] = (fNew th va vo lk pl) from rfl]; (repeat ((with_reducible apply Z2); focus (first | (with_reducible (repeat (first | exact Z0 | apply Z1)); done) | (repeat (first | exact Z0 | apply Z1))))); exact Z3) ?_
  · exact Nat.zero_le _
  rintro i hle_i
  try simp only [List.cons_append, List.nil_append]
  obtain ⟨hdn, -⟩ := fAll_n (L.take i) (fNew th va vo lk pl)
  rw [List.length_take, show (fNew th va vo lk pl).v.ck.n = 0 from rfl] at hdn
  refine c_seq ?_
  refine c_seq ?_
  refine c_plain (.q 0 (.q 1 (.q 2 (.q 3 (.q 4 (.done)))))) (by kernel_rfl) ?_
  refine q_move rfl rfl rfl rfl ?_
  refine q_field (k := 5) rfl rfl rfl rfl Try.underlying44 rfl Try.sizeOf26 rfl ?_
  refine q_load_c (j := 5) rfl rfl rfl rfl Try.isAgg26 Tk (by first | rfl | exact (Nat.add_zero _).symm) (by rfl) ?_
  refine q_len rfl rfl rfl rfl Try.underlying26 ?_
  refine q_int rfl rfl rfl rfl rfl (b_lss _ _ _ _) ?_
  refine r_done ?_
  refine s_keep [1, 3, 5, 7, 9, 10, 86] (e' := [(1, _), (3, _), (5, _), (7, _), (9, _), (10, _), (86, _)]) rfl ?_
  refine k_then_n ?_
  refine c_cond_p rfl (fun hlt => ?_) (fun hlt => ?_)
  ·
   refine c_skip ?_
   refine k_then_n ?_
   refine c_seq ?_
   refine c_block ?_
   refine c_seq ?_
   obtain ⟨ev, hev⟩ := get_lt (l := L) (i := i) (by omega)
   have hv : vcanF (fAll (fNew th va vo lk pl) (L.take i)).v ev.1 ev.2.1 ev.2.2 := hcan i ev hev
   refine c_plain (.q 0 (.q 1 (.q 2 (.q 3 (.q 4 (.q 5 ((.l 6 [] (.q 7 (.done)))))))))) (by kernel_rfl) ?_
   refine q_move rfl rfl rfl rfl ?_
   refine q_field (k := 5) rfl rfl rfl rfl Try.underlying44 rfl Try.sizeOf26 rfl ?_
   refine q_load_c (j := 5) rfl rfl rfl rfl Try.isAgg26 Tk (by first | rfl | exact (Nat.add_zero _).symm) (by rfl) ?_
   refine q_move rfl rfl rfl rfl ?_
   refine q_idxO (sz := 2) (k := i) (enc := enc3) (xs := L) rfl rfl rfl rfl rfl Try.underlying26 Try.sizeOf36 hev (by first | rfl | omega) (by omega) Tk ?_
   intro ib93 io93 ha93 hl93 hc93
   refine q_loadN_O (j := 0) (k' := i) (us := [_, _, _]) (enc := enc3) (off := io93) rfl rfl rfl rfl Try.isAgg36 Try.sizeOf36 ha93 enc3_len hev Tk (by first | rfl | exact (Nat.add_zero _).symm | omega) (by rfl) rfl ?_
   have sp_4 := Fa.event_spec dpa dpc dpo dpoc d (fAll (fNew th va vo lk pl) (L.take i)) (fAll_inv (new_finv hok (new_inv hok)) _) (by omega) pl ((fAll_n _ _).2.1) ev.1 ev.2.1 ev.2.2
   refine l_call rfl rfl rfl rfl rfl rfl Try.call14 (sp_4) Ts ?_
   rintro ⟨⟩ -
   try simp only [List.cons_append, List.nil_append]
   refine ag_nil ?_
   refine s_eq 95 rfl (v' := .int .i64 0) (by rw [feE, if_pos hv]) ?_
   refine q_int rfl rfl rfl rfl rfl (b_neq _ _ _ _) ?_
   refine s_eq 96 rfl (v' := .bool false) (by first | rfl | simp) ?_
   refine r_done ?_
   refine s_keep [1, 3, 5, 7, 9, 10, 96] (e' := [(1, _), (3, _), (5, _), (7, _), (9, _), (10, _), (96, _)]) rfl ?_
   refine k_then_n ?_
   refine c_cond_f rfl ?_
   refine c_skip ?_
   refine k_blk_n ?_
   refine k_then_n ?_
   refine c_plain (.q 0 (.q 1 (.q 2 (.done)))) (by kernel_rfl) ?_
   refine q_move rfl rfl rfl rfl ?_
   refine q_int rfl rfl rfl rfl rfl (b_add' _ (by exact fits_i64 (by omega) (by omega))) ?_
   refine q_assign rfl rfl rfl rfl ?_
   refine r_done ?_
   refine k_then_n ?_
   rw [show feF (fAll (fNew th va vo lk pl) (L.take i)) ev.1 ev.2.1 ev.2.2 = (fAll (fNew th va vo lk pl) (L.take (i + 1))) from (fAll_next hev).symm]
   refine loop_next (x := i) (i + 1) ?_ ?_ ?_ ?_
   · exact by show i + 1 ≤ L.length; omega
   · show L.length - (i + 1) < L.length - i; omega
   · exact ⟨rfl, rfl, rfl, rfl, rfl, rfl, trivial⟩
   · (try simp only [List.cons_append, List.nil_append]); exact Tf
  ·
   refine c_exit ?_
   refine k_then_exit ?_
   refine k_then_exit ?_
   refine k_blk_here ?_
   refine k_then_n ?_
   refine c_seq ?_
   rw [List.take_of_length_le (by omega)]
   refine c_plain (.q 0 (.q 1 (.q 2 (.q 3 (.q 4 ((.l 5 [] (.q 6 (.q 7 (.q 8 (.q 9 (.q 10 (.done))))))))))))) (by kernel_rfl) ?_
   refine q_move rfl rfl rfl rfl ?_
   refine q_field (k := 5) rfl rfl rfl rfl Try.underlying44 rfl Try.sizeOf26 rfl ?_
   refine q_load_c (j := 5) rfl rfl rfl rfl Try.isAgg26 Tk (by first | rfl | exact (Nat.add_zero _).symm) (by rfl) ?_
   refine q_move rfl rfl rfl rfl ?_
   refine s_take (A := own 3 enc3 ea ed L) Tk ?_
   refine own_fc fun f_5a f_5b f_5c => ?_
   refine q_cut_hi (h' := kk) rfl rfl rfl rfl rfl Try.underlying26 Try.sizeOf36 (by first | rfl | omega) (by first | omega | (have hcap_ := f_5a; simp only [List.length_append, List.length_map, List.length_replicate, List.length_cons, List.length_nil] at hcap_; omega)) ?_
   have sp_6 := Fa.events_spec cpa cpc cpo cpoc c (fNew th va vo lk pl) (new_finv hok (new_inv hok)) (by show (0 : Int) ≤ _; decide) pl rfl (L.take kk) ea kk ed (own 3 enc3 ea ed L) (rds_take (rds_own enc3_len (fun h => (f_5b h).1) f_5c) enc3_len kk) (by first | rfl | assumption | omega | (simp; done) | (simp; omega)) (by omega)
   refine l_call rfl rfl rfl rfl rfl rfl Try.call12 (sp_6) Ts ?_
   rintro ki ⟨hki1, hki2, hki3⟩
   try simp only [List.cons_append, List.nil_append]
   refine ag_nil ?_
   have hik : kk = ki := by
     rcases Nat.lt_or_ge ki kk with h | h
     · obtain ⟨e, he_⟩ := get_lt (l := L) (i := ki) (by omega)
       exact absurd (by rw [List.take_take, Nat.min_eq_left (by omega)]; exact hcan ki e he_) (hki3 h e (by rw [List.getElem?_take_of_lt h]; exact he_))
     · omega
   subst hik
   rw [if_pos rfl, List.take_take, Nat.min_self]
   refine q_move rfl rfl rfl rfl ?_
   refine q_extract rfl rfl rfl rfl rfl ?_
   refine q_extract rfl rfl rfl rfl rfl ?_
   refine q_assign rfl rfl rfl rfl ?_
   refine q_assign rfl rfl rfl rfl ?_
   refine r_done ?_
   refine s_keep [1, 3, 5, 7, 9, 11, 12] (e' := [(1, _), (3, _), (5, _), (7, _), (9, _), (11, _), (12, _)]) rfl ?_
   refine k_then_n ?_
   refine c_seq ?_
   refine c_plain (.q 0 ((.l 1 [] (.q 2 (.done))))) (by kernel_rfl) ?_
   refine q_move rfl rfl rfl rfl ?_
   have sp_7 := Fa.copy_spec cpa cpc cpo cpoc c (fAll (fNew th va vo lk pl) (L.take kk)) (fAll_inv (new_finv hok (new_inv hok)) _)
   refine l_call rfl rfl rfl rfl rfl rfl Try.call20 (sp_7) Ts ?_
   rintro y -
   try simp only [List.cons_append, List.nil_append]
   refine ag_nil ?_
   refine q_assign rfl rfl rfl rfl ?_
   refine r_done ?_
   refine k_then_n ?_
   refine c_seq ?_
   refine c_seq ?_
   refine c_plain (.q 0 (.q 1 (.q 2 (.q 3 (.q 4 (.q 5 (.q 6 (.q 7 (.q 8 (.q 9 (.q 10 (.done)))))))))))) (by kernel_rfl) ?_
   refine q_move rfl rfl rfl rfl ?_
   refine q_move rfl rfl rfl rfl ?_
   refine q_int rfl rfl rfl rfl rfl (b_neq _ _ _ _) ?_
   refine q_move rfl rfl rfl rfl ?_
   refine s_bool_p 111 rfl (fun hg => by exfalso; omega) (fun hg => ?_)
   refine q_move rfl rfl rfl rfl ?_
   refine q_int rfl rfl rfl rfl rfl (b_neq _ _ _ _) ?_
   refine s_eq 113 rfl (v' := .bool false) (by first | rfl | simp) ?_
   refine q_pick_f rfl rfl rfl rfl rfl ?_
   refine q_move rfl rfl rfl rfl ?_
   refine q_move rfl rfl rfl rfl ?_
   refine q_eq_nil rfl rfl rfl rfl Try.underlying27 ?_
   refine s_eq 117 rfl (v' := .bool false) rfl ?_
   refine q_pick_f rfl rfl rfl rfl rfl ?_
   refine r_done ?_
   refine s_keep [1, 3, 5, 7, 9, 13, 118] (e' := [(1, _), (3, _), (5, _), (7, _), (9, _), (13, _), (118, _)]) rfl ?_
   refine k_then_n ?_
   refine c_cond_f rfl ?_
   refine c_skip ?_
   refine k_then_n ?_
   refine c_seq ?_
   refine c_seq ?_
   refine c_plain (.q 0 (.q 1 (.done))) (by kernel_rfl) ?_
   refine q_move rfl rfl rfl rfl ?_
   refine q_assign rfl rfl rfl rfl ?_
   refine r_done ?_
   refine k_then_n ?_
   refine c_block ?_
   refine c_loop2 (α := Nat × FS) (fun (x_ : Nat × FS) => match x_ with | (i, Z) => kk ≤ i ∧ i ≤ L.length + kk + m2 ∧ FInv Z ∧ Z.v.ck.n ≤ i ∧ Z.v.ck.pa = pl) (fun (x_ : Nat × FS) => match x_ with | (i, Z) => [(14, .int .i64 ((i : Nat) : Int))]) (fun (x_ : Nat × FS) => match x_ with | (i, Z) => [dfR cpa cpc cpo cpoc c Z, dfR cpa cpc cpo cpoc y (fAll (fNew th va vo lk pl) (L.take i)), own 1 encZ cpa cpc pl, own 1 encZ cpo cpoc pl]) (fun (x_ : Nat × FS) => match x_ with | (i, Z) => L.length + kk + m2 - i) [1, 3, 5, 7, 9, 13] (er := [(1, _), (3, _), (5, _), (7, _), (9, _), (13, _)]) rfl (kk, (fAll (fNew th va vo lk pl) (L.take kk))) ?_ (by exact ⟨rfl, trivial⟩) (by (try dsimp only); (try simp only [Nat.add_zero, Nat.zero_add]); (repeat ((with_reducible apply Z2); focus (first | (with_reducible (repeat (first | exact Z0 | apply Z1)); done) | (repeat (first | exact Z0 | apply Z1))))); exact Z3) ?_
   · exact ⟨Nat.le_refl _, by omega, fAll_inv (new_finv hok (new_inv hok)) _, by have h := (fAll_n (L.take kk) (fNew th va vo lk pl)).1; rw [List.length_take, show (fNew th va vo lk pl).v.ck.n = 0 from rfl] at h; omega, (fAll_n _ _).2.1⟩
   rintro ⟨i, Z⟩ ⟨hi0, hi1, hZ, hZn, hZp⟩
   try simp only [List.cons_append, List.nil_append]
   obtain ⟨hdn, -⟩ := fAll_n (L.take i) (fNew th va vo lk pl)
   rw [List.length_take, show (fNew th va vo lk pl).v.ck.n = 0 from rfl] at hdn
   refine c_seq ?_
   refine c_seq ?_
   refine c_plain (.q 0 (.q 1 (.q 2 (.q 3 (.q 4 (.q 5 (.q 6 (.q 7 (.q 8 (.q 9 (.q 10 (.q 11 (.q 12 (.q 13 (.done))))))))))))))) (by kernel_rfl) ?_
   refine q_move rfl rfl rfl rfl ?_
   refine q_field (k := 5) rfl rfl rfl rfl Try.underlying44 rfl Try.sizeOf26 rfl ?_
   refine q_load_c (j := 5) rfl rfl rfl rfl Try.isAgg26 Tk (by first | rfl | exact (Nat.add_zero _).symm) (by rfl) ?_
   refine q_len rfl rfl rfl rfl Try.underlying26 ?_
   refine q_int rfl rfl rfl rfl rfl (b_lss _ _ _ _) ?_
   refine q_move rfl rfl rfl rfl ?_
   refine s_bool_p 125 rfl (fun hA => ?_) (fun hA => ?_)
   ·
    refine q_skip rfl rfl rfl rfl ?_
    refine q_skip rfl rfl rfl rfl ?_
    refine q_skip rfl rfl rfl rfl ?_
    refine q_skip rfl rfl rfl rfl ?_
    refine q_skip rfl rfl rfl rfl ?_
    refine q_skip rfl rfl rfl rfl ?_
    refine q_skip rfl rfl rfl rfl ?_
    refine q_pick_t rfl rfl rfl rfl rfl ?_
    refine r_done ?_
    refine s_keep [1, 3, 5, 7, 9, 13, 14, 126, 127, 128, 129, 130, 131, 132, 133] (e' := [(1, _), (3, _), (5, _), (7, _), (9, _), (13, _), (14, _), (126, _), (127, _), (128, _), (129, _), (130, _), (131, _), (132, _), (133, _)]) rfl ?_
    refine k_then_n ?_
    refine c_cond_t rfl ?_
    refine c_skip ?_
    refine k_then_n ?_
    refine c_seq ?_
    refine c_block ?_
    refine c_seq ?_
    refine c_seq ?_
    refine c_plain (.q 0 (.q 1 (.q 2 (.q 3 (.q 4 (.q 5 (.q 6 (.done)))))))) (by kernel_rfl) ?_
    refine q_move rfl rfl rfl rfl ?_
    refine q_move rfl rfl rfl rfl ?_
    refine q_int rfl rfl rfl rfl rfl (b_sub' _ (by exact fits_i64 (by omega) (by omega))) ?_
    refine q_field (k := 6) rfl rfl rfl rfl Try.underlying58 rfl Try.sizeOf26 rfl ?_
    refine q_load_c (j := 6) rfl rfl rfl rfl Try.isAgg26 Tk (by first | rfl | exact (Nat.add_zero _).symm) (by rfl) ?_
    refine q_len rfl rfl rfl rfl Try.underlying26 ?_
    refine q_int rfl rfl rfl rfl rfl (b_lss _ _ _ _) ?_
    refine r_done ?_
    refine s_keep [1, 3, 5, 7, 9, 13, 14, 126, 127, 128, 129, 130, 131, 132, 142] (e' := [(1, _), (3, _), (5, _), (7, _), (9, _), (13, _), (14, _), (126, _), (127, _), (128, _), (129, _), (130, _), (131, _), (132, _), (142, _)]) rfl ?_
    refine k_then_n ?_
    refine c_cond_p rfl (fun hC => ?_) (fun hC => ?_)
    ·
     obtain ⟨q, hq⟩ := get_lt (l := ms) (i := i - kk) (by omega)
     refine c_plain (.q 0 (.q 1 (.q 2 (.q 3 (.q 4 (.q 5 (.q 6 (.q 7 ((.l 8 [] (.done))))))))))) (by kernel_rfl) ?_
     refine q_move rfl rfl rfl rfl ?_
     refine q_field (k := 6) rfl rfl rfl rfl Try.underlying58 rfl Try.sizeOf26 rfl ?_
     refine q_load_c (j := 6) rfl rfl rfl rfl Try.isAgg26 Tk (by first | rfl | exact (Nat.add_zero _).symm) (by rfl) ?_
     refine q_move rfl rfl rfl rfl ?_
     refine q_move rfl rfl rfl rfl ?_
     refine q_int rfl rfl rfl rfl rfl (b_sub' _ (by exact fits_i64 (by omega) (by omega))) ?_
     refine q_idxR (sz := 2) (k := (i - kk)) rfl rfl rfl rfl rfl Try.underlying26 Try.sizeOf36 (hms) hq enc3_len (by omega) (by omega) ?_
     intro ib149 io149 _ hd149
     refine q_loadN (vs := [_, _, _]) rfl rfl rfl rfl Try.isAgg36 Try.sizeOf36 Tk (hd149) rfl ?_
     have sp_8 := Fa.event_spec cpa cpc cpo cpoc c Z hZ (by omega) pl hZp q.1 q.2.1 q.2.2
     refine l_call rfl rfl rfl rfl rfl rfl Try.call14 (sp_8) Ts ?_
     rintro ⟨⟩ -
     try simp only [List.cons_append, List.nil_append]
     refine ag_nil ?_
     refine r_done ?_
     refine s_keep [1, 3, 5, 7, 9, 13, 14, 126, 127, 128, 129, 130, 131, 132] (e' := [(1, _), (3, _), (5, _), (7, _), (9, _), (13, _), (14, _), (126, _), (127, _), (128, _), (129, _), (130, _), (131, _), (132, _)]) rfl ?_
     refine k_then_n ?_
     refine c_seq ?_
     refine c_plain (.q 0 (.q 1 (.q 2 (.q 3 (.q 4 (.q 5 (.q 6 (.q 7 (.q 8 (.q 9 (.q 10 (.q 11 ((.l 12 [] (.q 13 (.q 14 (.done))))))))))))))))) (by kernel_rfl) ?_
     refine q_move rfl rfl rfl rfl ?_
     refine q_field (k := 5) rfl rfl rfl rfl Try.underlying44 rfl Try.sizeOf26 rfl ?_
     refine q_load_c (j := 5) rfl rfl rfl rfl Try.isAgg26 Tk (by first | rfl | exact (Nat.add_zero _).symm) (by rfl) ?_
     refine q_len rfl rfl rfl rfl Try.underlying26 ?_
     refine q_int rfl rfl rfl rfl rfl (b_lss _ _ _ _) ?_
     refine q_move rfl rfl rfl rfl ?_
     refine s_bool_p 157 rfl (fun hD => ?_) (fun hD => ?_)
     ·
      obtain ⟨e2, he2⟩ := get_lt (l := L) (i := i) (by omega)
      have hv2 : vcanF (fAll (fNew th va vo lk pl) (L.take i)).v e2.1 e2.2.1 e2.2.2 := hcan i e2 he2
      refine q_move rfl rfl rfl rfl ?_
      refine q_field (k := 5) rfl rfl rfl rfl Try.underlying44 rfl Try.sizeOf26 rfl ?_
      refine q_load_c (j := 5) rfl rfl rfl rfl Try.isAgg26 Tk (by first | rfl | exact (Nat.add_zero _).symm) (by rfl) ?_
      refine q_move rfl rfl rfl rfl ?_
      refine q_idxO (sz := 2) (k := i) (enc := enc3) (xs := L) rfl rfl rfl rfl rfl Try.underlying26 Try.sizeOf36 he2 (by first | rfl | omega) (by omega) Tk ?_
      intro ib162 io162 ha162 hl162 hc162
      refine q_loadN_O (j := 0) (k' := i) (us := [_, _, _]) (enc := enc3) (off := io162) rfl rfl rfl rfl Try.isAgg36 Try.sizeOf36 ha162 enc3_len he2 Tk (by first | rfl | exact (Nat.add_zero _).symm | omega) (by rfl) rfl ?_
      have sp_9 := Fa.event_spec cpa cpc cpo cpoc y (fAll (fNew th va vo lk pl) (L.take i)) (fAll_inv (new_finv hok (new_inv hok)) _) (by omega) pl ((fAll_n _ _).2.1) e2.1 e2.2.1 e2.2.2
      refine l_call rfl rfl rfl rfl rfl rfl Try.call14 (sp_9) Ts ?_
      rintro ⟨⟩ -
      try simp only [List.cons_append, List.nil_append]
      refine ag_nil ?_
      refine s_eq 164 rfl (v' := .int .i64 0) (by rw [feE, if_pos hv2]) ?_
      rw [show feF (fAll (fNew th va vo lk pl) (L.take i)) e2.1 e2.2.1 e2.2.2 = (fAll (fNew th va vo lk pl) (L.take (i + 1))) from (fAll_next he2).symm]
      refine q_int rfl rfl rfl rfl rfl (b_neq _ _ _ _) ?_
      refine s_eq 165 rfl (v' := .bool false) (by first | rfl | simp) ?_
      refine q_pick_t rfl rfl rfl rfl rfl ?_
      refine r_done ?_
      refine s_keep [1, 3, 5, 7, 9, 13, 14, 126, 127, 128, 129, 130, 131, 132, 158, 159, 160, 161, 162, 163, 164, 165, 166] (e' := [(1, _), (3, _), (5, _), (7, _), (9, _), (13, _), (14, _), (126, _), (127, _), (128, _), (129, _), (130, _), (131, _), (132, _), (158, _), (159, _), (160, _), (161, _), (162, _), (163, _), (164, _), (165, _), (166, _)]) rfl ?_
      refine k_then_n ?_
      refine c_cond_f rfl ?_
      refine c_skip ?_
      refine k_blk_n ?_
      refine k_then_n ?_
      refine c_plain (.q 0 (.q 1 (.q 2 (.done)))) (by kernel_rfl) ?_
      refine q_move rfl rfl rfl rfl ?_
      refine q_int rfl rfl rfl rfl rfl (b_add' _ (by exact fits_i64 (by omega) (by omega))) ?_
      refine q_assign rfl rfl rfl rfl ?_
      refine r_done ?_
      refine k_then_n ?_
      refine loop_next (x := (i, Z)) ((i + 1, (feF Z q.1 q.2.1 q.2.2))) ?_ ?_ ?_ ?_
      · try dsimp only
        have hq1 := (fe_n (x := Z) q.1 q.2.1 q.2.2)
        exact ⟨by omega, by omega, fe_inv hZ _ _ _, by have h9 := hq1.1; omega, hq1.2.1.trans hZp⟩
      · show L.length + kk + m2 - (i + 1) < L.length + kk + m2 - i; omega
      · exact ⟨rfl, rfl, rfl, rfl, rfl, rfl, rfl, trivial⟩
      · (try simp only [List.cons_append, List.nil_append]); exact Tf
     ·
      refine q_skip rfl rfl rfl rfl ?_
      refine q_skip rfl rfl rfl rfl ?_
      refine q_skip rfl rfl rfl rfl ?_
      refine q_skip rfl rfl rfl rfl ?_
      refine q_skip rfl rfl rfl rfl ?_
      refine q_skip rfl rfl rfl rfl ?_
      refine l_skip rfl rfl rfl rfl ?_
      refine q_skip rfl rfl rfl rfl ?_
      refine q_pick_f rfl rfl rfl rfl rfl ?_
      refine r_done ?_
      refine s_keep [1, 3, 5, 7, 9, 13, 14, 126, 127, 128, 129, 130, 131, 132, 158, 159, 160, 161, 162, 163, 164, 165, 166] (e' := [(1, _), (3, _), (5, _), (7, _), (9, _), (13, _), (14, _), (126, _), (127, _), (128, _), (129, _), (130, _), (131, _), (132, _), (158, _), (159, _), (160, _), (161, _), (162, _), (163, _), (164, _), (165, _), (166, _)]) rfl ?_
      refine k_then_n ?_
      refine c_cond_f rfl ?_
      refine c_skip ?_
      refine k_blk_n ?_
      refine k_then_n ?_
      refine c_plain (.q 0 (.q 1 (.q 2 (.done)))) (by kernel_rfl) ?_
      refine q_move rfl rfl rfl rfl ?_
      refine q_int rfl rfl rfl rfl rfl (b_add' _ (by exact fits_i64 (by omega) (by omega))) ?_
      refine q_assign rfl rfl rfl rfl ?_
      refine r_done ?_
      refine k_then_n ?_
      rw [show L.take i = L.take (i + 1) from by rw [List.take_of_length_le (by omega), List.take_of_length_le (by omega)]]
      refine loop_next (x := (i, Z)) ((i + 1, (feF Z q.1 q.2.1 q.2.2))) ?_ ?_ ?_ ?_
      · try dsimp only
        have hq1 := (fe_n (x := Z) q.1 q.2.1 q.2.2)
        exact ⟨by omega, by omega, fe_inv hZ _ _ _, by have h9 := hq1.1; omega, hq1.2.1.trans hZp⟩
      · show L.length + kk + m2 - (i + 1) < L.length + kk + m2 - i; omega
      · exact ⟨rfl, rfl, rfl, rfl, rfl, rfl, rfl, trivial⟩
      · (try simp only [List.cons_append, List.nil_append]); exact Tf
    ·
     refine c_skip ?_
     refine k_then_n ?_
     refine c_seq ?_
     refine c_plain (.q 0 (.q 1 (.q 2 (.q 3 (.q 4 (.q 5 (.q 6 (.q 7 (.q 8 (.q 9 (.q 10 (.q 11 ((.l 12 [] (.q 13 (.q 14 (.done))))))))))))))))) (by kernel_rfl) ?_
     refine q_move rfl rfl rfl rfl ?_
     refine q_field (k := 5) rfl rfl rfl rfl Try.underlying44 rfl Try.sizeOf26 rfl ?_
     refine q_load_c (j := 5) rfl rfl rfl rfl Try.isAgg26 Tk (by first | rfl | exact (Nat.add_zero _).symm) (by rfl) ?_
     refine q_len rfl rfl rfl rfl Try.underlying26 ?_
     refine q_int rfl rfl rfl rfl rfl (b_lss _ _ _ _) ?_
     refine q_move rfl rfl rfl rfl ?_
     refine s_bool_p 157 rfl (fun hD => ?_) (fun hD => ?_)
     ·
      obtain ⟨e2, he2⟩ := get_lt (l := L) (i := i) (by omega)
      have hv2 : vcanF (fAll (fNew th va vo lk pl) (L.take i)).v e2.1 e2.2.1 e2.2.2 := hcan i e2 he2
      refine q_move rfl rfl rfl rfl ?_
      refine q_field (k := 5) rfl rfl rfl rfl Try.underlying44 rfl Try.sizeOf26 rfl ?_
      refine q_load_c (j := 5) rfl rfl rfl rfl Try.isAgg26 Tk (by first | rfl | exact (Nat.add_zero _).symm) (by rfl) ?_
      refine q_move rfl rfl rfl rfl ?_
      refine q_idxO (sz := 2) (k := i) (enc := enc3) (xs := L) rfl rfl rfl rfl rfl Try.underlying26 Try.sizeOf36 he2 (by first | rfl | omega) (by omega) Tk ?_
      intro ib162 io162 ha162 hl162 hc162
      refine q_loadN_O (j := 0) (k' := i) (us := [_, _, _]) (enc := enc3) (off := io162) rfl rfl rfl rfl Try.isAgg36 Try.sizeOf36 ha162 enc3_len he2 Tk (by first | rfl | exact (Nat.add_zero _).symm | omega) (by rfl) rfl ?_
      have sp_10 := Fa.event_spec cpa cpc cpo cpoc y (fAll (fNew th va vo lk pl) (L.take i)) (fAll_inv (new_finv hok (new_inv hok)) _) (by omega) pl ((fAll_n _ _).2.1) e2.1 e2.2.1 e2.2.2
      refine l_call rfl rfl rfl rfl rfl rfl Try.call14 (sp_10) Ts ?_
      rintro ⟨⟩ -
      try simp only [List.cons_append, List.nil_append]
      refine ag_nil ?_
      refine s_eq 164 rfl (v' := .int .i64 0) (by rw [feE, if_pos hv2]) ?_
      rw [show feF (fAll (fNew th va vo lk pl) (L.take i)) e2.1 e2.2.1 e2.2.2 = (fAll (fNew th va vo lk pl) (L.take (i + 1))) from (fAll_next he2).symm]
      refine q_int rfl rfl rfl rfl rfl (b_neq _ _ _ _) ?_
      refine s_eq 165 rfl (v' := .bool false) (by first | rfl | simp) ?_
      refine q_pick_t rfl rfl rfl rfl rfl ?_
      refine r_done ?_
      refine s_keep [1, 3, 5, 7, 9, 13, 14, 126, 127, 128, 129, 130, 131, 132, 158, 159, 160, 161, 162, 163, 164, 165, 166] (e' := [(1, _), (3, _), (5, _), (7, _), (9, _), (13, _), (14, _), (126, _), (127, _), (128, _), (129, _), (130, _), (131, _), (132, _), (158, _), (159, _), (160, _), (161, _), (162, _), (163, _), (164, _), (165, _), (166, _)]) rfl ?_
      refine k_then_n ?_
      refine c_cond_f rfl ?_
      refine c_skip ?_
      refine k_blk_n ?_
      refine k_then_n ?_
      refine c_plain (.q 0 (.q 1 (.q 2 (.done)))) (by kernel_rfl) ?_
      refine q_move rfl rfl rfl rfl ?_
      refine q_int rfl rfl rfl rfl rfl (b_add' _ (by exact fits_i64 (by omega) (by omega))) ?_
      refine q_assign rfl rfl rfl rfl ?_
      refine r_done ?_
      refine k_then_n ?_
      refine loop_next (x := (i, Z)) ((i + 1, Z)) ?_ ?_ ?_ ?_
      · try dsimp only
        exact ⟨by omega, by omega, hZ, by omega, hZp⟩
      · show L.length + kk + m2 - (i + 1) < L.length + kk + m2 - i; omega
      · exact ⟨rfl, rfl, rfl, rfl, rfl, rfl, rfl, trivial⟩
      · (try simp only [List.cons_append, List.nil_append]); exact Tf
     ·
      refine q_skip rfl rfl rfl rfl ?_
      refine q_skip rfl rfl rfl rfl ?_
      refine q_skip rfl rfl rfl rfl ?_
      refine q_skip rfl rfl rfl rfl ?_
      refine q_skip rfl rfl rfl rfl ?_
      refine q_skip rfl rfl rfl rfl ?_
      refine l_skip rfl rfl rfl rfl ?_
      refine q_skip rfl rfl rfl rfl ?_
      refine q_pick_f rfl rfl rfl rfl rfl ?_
      refine r_done ?_
      refine s_keep [1, 3, 5, 7, 9, 13, 14, 126, 127, 128, 129, 130, 131, 132, 158, 159, 160, 161, 162, 163, 164, 165, 166] (e' := [(1, _), (3, _), (5, _), (7, _), (9, _), (13, _), (14, _), (126, _), (127, _), (128, _), (129, _), (130, _), (131, _), (132, _), (158, _), (159, _), (160, _), (161, _), (162, _), (163, _), (164, _), (165, _), (166, _)]) rfl ?_
      refine k_then_n ?_
      refine c_cond_f rfl ?_
      refine c_skip ?_
      refine k_blk_n ?_
      refine k_then_n ?_
      refine c_plain (.q 0 (.q 1 (.q 2 (.done)))) (by kernel_rfl) ?_
      refine q_move rfl rfl rfl rfl ?_
      refine q_int rfl rfl rfl rfl rfl (b_add' _ (by exact fits_i64 (by omega) (by omega))) ?_
      refine q_assign rfl rfl rfl rfl ?_
      refine r_done ?_
      refine k_then_n ?_
      rw [show L.take i = L.take (i + 1) from by rw [List.take_of_length_le (by omega), List.take_of_length_le (by omega)]]
      refine loop_next (x := (i, Z)) ((i + 1, Z)) ?_ ?_ ?_ ?_
      · try dsimp only
        exact ⟨by omega, by omega, hZ, by omega, hZp⟩
      · show L.length + kk + m2 - (i + 1) < L.length + kk + m2 - i; omega
      · exact ⟨rfl, rfl, rfl, rfl, rfl, rfl, rfl, trivial⟩
      · (try simp only [List.cons_append, List.nil_append]); exact Tf
   ·
    refine q_move rfl rfl rfl rfl ?_
    refine q_move rfl rfl rfl rfl ?_
    refine q_int rfl rfl rfl rfl rfl (b_sub' _ (by exact fits_i64 (by omega) (by omega))) ?_
    refine q_field (k := 6) rfl rfl rfl rfl Try.underlying58 rfl Try.sizeOf26 rfl ?_
    refine q_load_c (j := 6) rfl rfl rfl rfl Try.isAgg26 Tk (by first | rfl | exact (Nat.add_zero _).symm) (by rfl) ?_
    refine q_len rfl rfl rfl rfl Try.underlying26 ?_
    refine q_int rfl rfl rfl rfl rfl (b_lss _ _ _ _) ?_
    refine q_pick_f rfl rfl rfl rfl rfl ?_
    refine r_done ?_
    refine s_keep [1, 3, 5, 7, 9, 13, 14, 126, 127, 128, 129, 130, 131, 132, 133] (e' := [(1, _), (3, _), (5, _), (7, _), (9, _), (13, _), (14, _), (126, _), (127, _), (128, _), (129, _), (130, _), (131, _), (132, _), (133, _)]) rfl ?_
    refine k_then_n ?_
    refine c_cond_p rfl (fun hB => ?_) (fun hB => ?_)
    ·
     refine c_skip ?_
     refine k_then_n ?_
     refine c_seq ?_
     refine c_block ?_
     refine c_seq ?_
     refine c_seq ?_
     refine c_plain (.q 0 (.q 1 (.q 2 (.q 3 (.q 4 (.q 5 (.q 6 (.done)))))))) (by kernel_rfl) ?_
     refine q_move rfl rfl rfl rfl ?_
     refine q_move rfl rfl rfl rfl ?_
     refine q_int rfl rfl rfl rfl rfl (b_sub' _ (by exact fits_i64 (by omega) (by omega))) ?_
     refine q_field (k := 6) rfl rfl rfl rfl Try.underlying58 rfl Try.sizeOf26 rfl ?_
     refine q_load_c (j := 6) rfl rfl rfl rfl Try.isAgg26 Tk (by first | rfl | exact (Nat.add_zero _).symm) (by rfl) ?_
     refine q_len rfl rfl rfl rfl Try.underlying26 ?_
     refine q_int rfl rfl rfl rfl rfl (b_lss _ _ _ _) ?_
     refine r_done ?_
     refine s_keep [1, 3, 5, 7, 9, 13, 14, 126, 127, 128, 129, 130, 131, 132, 142] (e' := [(1, _), (3, _), (5, _), (7, _), (9, _), (13, _), (14, _), (126, _), (127, _), (128, _), (129, _), (130, _), (131, _), (132, _), (142, _)]) rfl ?_
     refine k_then_n ?_
     refine c_cond_p rfl (fun hC => ?_) (fun hC => ?_)
     ·
      obtain ⟨q, hq⟩ := get_lt (l := ms) (i := i - kk) (by omega)
      refine c_plain (.q 0 (.q 1 (.q 2 (.q 3 (.q 4 (.q 5 (.q 6 (.q 7 ((.l 8 [] (.done))))))))))) (by kernel_rfl) ?_
      refine q_move rfl rfl rfl rfl ?_
      refine q_field (k := 6) rfl rfl rfl rfl Try.underlying58 rfl Try.sizeOf26 rfl ?_
      refine q_load_c (j := 6) rfl rfl rfl rfl Try.isAgg26 Tk (by first | rfl | exact (Nat.add_zero _).symm) (by rfl) ?_
      refine q_move rfl rfl rfl rfl ?_
      refine q_move rfl rfl rfl rfl ?_
      refine q_int rfl rfl rfl rfl rfl (b_sub' _ (by exact fits_i64 (by omega) (by omega))) ?_
      refine q_idxR (sz := 2) (k := (i - kk)) rfl rfl rfl rfl rfl Try.underlying26 Try.sizeOf36 (hms) hq enc3_len (by omega) (by omega) ?_
      intro ib149 io149 _ hd149
      refine q_loadN (vs := [_, _, _]) rfl rfl rfl rfl Try.isAgg36 Try.sizeOf36 Tk (hd149) rfl ?_
      have sp_11 := Fa.event_spec cpa cpc cpo cpoc c Z hZ (by omega) pl hZp q.1 q.2.1 q.2.2
      refine l_call rfl rfl rfl rfl rfl rfl Try.call14 (sp_11) Ts ?_
      rintro ⟨⟩ -
      try simp only [List.cons_append, List.nil_append]
      refine ag_nil ?_
      refine r_done ?_
      refine s_keep [1, 3, 5, 7, 9, 13, 14, 126, 127, 128, 129, 130, 131, 132] (e' := [(1, _), (3, _), (5, _), (7, _), (9, _), (13, _), (14, _), (126, _), (127, _), (128, _), (129, _), (130, _), (131, _), (132, _)]) rfl ?_
      refine k_then_n ?_
      refine c_seq ?_
      refine c_plain (.q 0 (.q 1 (.q 2 (.q 3 (.q 4 (.q 5 (.q 6 (.q 7 (.q 8 (.q 9 (.q 10 (.q 11 ((.l 12 [] (.q 13 (.q 14 (.done))))))))))))))))) (by kernel_rfl) ?_
      refine q_move rfl rfl rfl rfl ?_
      refine q_field (k := 5) rfl rfl rfl rfl Try.underlying44 rfl Try.sizeOf26 rfl ?_
      refine q_load_c (j := 5) rfl rfl rfl rfl Try.isAgg26 Tk (by first | rfl | exact (Nat.add_zero _).symm) (by rfl) ?_
      refine q_len rfl rfl rfl rfl Try.underlying26 ?_
      refine q_int rfl rfl rfl rfl rfl (b_lss _ _ _ _) ?_
      refine q_move rfl rfl rfl rfl ?_
      refine s_bool_p 157 rfl (fun hD => ?_) (fun hD => ?_)
      ·
       obtain ⟨e2, he2⟩ := get_lt (l := L) (i := i) (by omega)
       have hv2 : vcanF (fAll (fNew th va vo lk pl) (L.take i)).v e2.1 e2.2.1 e2.2.2 := hcan i e2 he2
       refine q_move rfl rfl rfl rfl ?_
       refine q_field (k := 5) rfl rfl rfl rfl Try.underlying44 rfl Try.sizeOf26 rfl ?_
       refine q_load_c (j := 5) rfl rfl rfl rfl Try.isAgg26 Tk (by first | rfl | exact (Nat.add_zero _).symm) (by rfl) ?_
       refine q_move rfl rfl rfl rfl ?_
       refine q_idxO (sz := 2) (k := i) (enc := enc3) (xs := L) rfl rfl rfl rfl rfl Try.underlying26 Try.sizeOf36 he2 (by first | rfl | omega) (by omega) Tk ?_
       intro ib162 io162 ha162 hl162 hc162
       refine q_loadN_O (j := 0) (k' := i) (us := [_, _, _]) (enc := enc3) (off := io162) rfl rfl rfl rfl Try.isAgg36 Try.sizeOf36 ha162 enc3_len he2 Tk (by first | rfl | exact (Nat.add_zero _).symm | omega) (by rfl) rfl ?_
       have sp_12 := Fa.event_spec cpa cpc cpo cpoc y (fAll (fNew th va vo lk pl) (L.take i)) (fAll_inv (new_finv hok (new_inv hok)) _) (by omega) pl ((fAll_n _ _).2.1) e2.1 e2.2.1 e2.2.2
       refine l_call rfl rfl rfl rfl rfl rfl Try.call14 (sp_12) Ts ?_
       rintro ⟨⟩ -
       try simp only [List.cons_append, List.nil_append]
       refine ag_nil ?_
       refine s_eq 164 rfl (v' := .int .i64 0) (by rw [feE, if_pos hv2]) ?_
       rw [show feF (fAll (fNew th va vo lk pl) (L.take i)) e2.1 e2.2.1 e2.2.2 = (fAll (fNew th va vo lk pl) (L.take (i + 1))) from (fAll_next he2).symm]
       refine q_int rfl rfl rfl rfl rfl (b_neq _ _ _ _) ?_
       refine s_eq 165 rfl (v' := .bool false) (by first | rfl | simp) ?_
       refine q_pick_t rfl rfl rfl rfl rfl ?_
       refine r_done ?_
       refine s_keep [1, 3, 5, 7, 9, 13, 14, 126, 127, 128, 129, 130, 131, 132, 158, 159, 160, 161, 162, 163, 164, 165, 166] (e' := [(1, _), (3, _), (5, _), (7, _), (9, _), (13, _), (14, _), (126, _), (127, _), (128, _), (129, _), (130, _), (131, _), (132, _), (158, _), (159, _), (160, _), (161, _), (162, _), (163, _), (164, _), (165, _), (166, _)]) rfl ?_
       refine k_then_n ?_
       refine c_cond_f rfl ?_
       refine c_skip ?_
       refine k_blk_n ?_
       refine k_then_n ?_
       refine c_plain (.q 0 (.q 1 (.q 2 (.done)))) (by kernel_rfl) ?_
       refine q_move rfl rfl rfl rfl ?_
       refine q_int rfl rfl rfl rfl rfl (b_add' _ (by exact fits_i64 (by omega) (by omega))) ?_
       refine q_assign rfl rfl rfl rfl ?_
       refine r_done ?_
       refine k_then_n ?_
       refine loop_next (x := (i, Z)) ((i + 1, (feF Z q.1 q.2.1 q.2.2))) ?_ ?_ ?_ ?_
       · try dsimp only
         have hq1 := (fe_n (x := Z) q.1 q.2.1 q.2.2)
         exact ⟨by omega, by omega, fe_inv hZ _ _ _, by have h9 := hq1.1; omega, hq1.2.1.trans hZp⟩
       · show L.length + kk + m2 - (i + 1) < L.length + kk + m2 - i; omega
       · exact ⟨rfl, rfl, rfl, rfl, rfl, rfl, rfl, trivial⟩
       · (try simp only [List.cons_append, List.nil_append]); exact Tf
      ·
       refine q_skip rfl rfl rfl rfl ?_
       refine q_skip rfl rfl rfl rfl ?_
       refine q_skip rfl rfl rfl rfl ?_
       refine q_skip rfl rfl rfl rfl ?_
       refine q_skip rfl rfl rfl rfl ?_
       refine q_skip rfl rfl rfl rfl ?_
       refine l_skip rfl rfl rfl rfl ?_
       refine q_skip rfl rfl rfl rfl ?_
       refine q_pick_f rfl rfl rfl rfl rfl ?_
       refine r_done ?_
       refine s_keep [1, 3, 5, 7, 9, 13, 14, 126, 127, 128, 129, 130, 131, 132, 158, 159, 160, 161, 162, 163, 164, 165, 166] (e' := [(1, _), (3, _), (5, _), (7, _), (9, _), (13, _), (14, _), (126, _), (127, _), (128, _), (129, _), (130, _), (131, _), (132, _), (158, _), (159, _), (160, _), (161, _), (162, _), (163, _), (164, _), (165, _), (166, _)]) rfl ?_
       refine k_then_n ?_
       refine c_cond_f rfl ?_
       refine c_skip ?_
       refine k_blk_n ?_
       refine k_then_n ?_
       refine c_plain (.q 0 (.q 1 (.q 2 (.done)))) (by kernel_rfl) ?_
       refine q_move rfl rfl rfl rfl ?_
       refine q_int rfl rfl rfl rfl rfl (b_add' _ (by exact fits_i64 (by omega) (by omega))) ?_
       refine q_assign rfl rfl rfl rfl ?_
       refine r_done ?_
       refine k_then_n ?_
       rw [show L.take i = L.take (i + 1) from by rw [List.take_of_length_le (by omega), List.take_of_length_le (by omega)]]
       refine loop_next (x := (i, Z)) ((i + 1, (feF Z q.1 q.2.1 q.2.2))) ?_ ?_ ?_ ?_
       · try dsimp only
         have hq1 := (fe_n (x := Z) q.1 q.2.1 q.2.2)
         exact ⟨by omega, by omega, fe_inv hZ _ _ _, by have h9 := hq1.1; omega, hq1.2.1.trans hZp⟩
       · show L.length + kk + m2 - (i + 1) < L.length + kk + m2 - i; omega
       · exact ⟨rfl, rfl, rfl, rfl, rfl, rfl, rfl, trivial⟩
       · (try simp only [List.cons_append, List.nil_append]); exact Tf
     ·
      refine c_skip ?_
      refine k_then_n ?_
      refine c_seq ?_
      refine c_plain (.q 0 (.q 1 (.q 2 (.q 3 (.q 4 (.q 5 (.q 6 (.q 7 (.q 8 (.q 9 (.q 10 (.q 11 ((.l 12 [] (.q 13 (.q 14 (.done))))))))))))))))) (by kernel_rfl) ?_
      refine q_move rfl rfl rfl rfl ?_
      refine q_field (k := 5) rfl rfl rfl rfl Try.underlying44 rfl Try.sizeOf26 rfl ?_
      refine q_load_c (j := 5) rfl rfl rfl rfl Try.isAgg26 Tk (by first | rfl | exact (Nat.add_zero _).symm) (by rfl) ?_
      refine q_len rfl rfl rfl rfl Try.underlying26 ?_
      refine q_int rfl rfl rfl rfl rfl (b_lss _ _ _ _) ?_
      refine q_move rfl rfl rfl rfl ?_
      refine s_bool_p 157 rfl (fun hD => ?_) (fun hD => ?_)
      ·
       obtain ⟨e2, he2⟩ := get_lt (l := L) (i := i) (by omega)
       have hv2 : vcanF (fAll (fNew th va vo lk pl) (L.take i)).v e2.1 e2.2.1 e2.2.2 := hcan i e2 he2
       refine q_move rfl rfl rfl rfl ?_
       refine q_field (k := 5) rfl rfl rfl rfl Try.underlying44 rfl Try.sizeOf26 rfl ?_
       refine q_load_c (j := 5) rfl rfl rfl rfl Try.isAgg26 Tk (by first | rfl | exact (Nat.add_zero _).symm) (by rfl) ?_
       refine q_move rfl rfl rfl rfl ?_
       refine q_idxO (sz := 2) (k := i) (enc := enc3) (xs := L) rfl rfl rfl rfl rfl Try.underlying26 Try.sizeOf36 he2 (by first | rfl | omega) (by omega) Tk ?_
       intro ib162 io162 ha162 hl162 hc162
       refine q_loadN_O (j := 0) (k' := i) (us := [_, _, _]) (enc := enc3) (off := io162) rfl rfl rfl rfl Try.isAgg36 Try.sizeOf36 ha162 enc3_len he2 Tk (by first | rfl | exact (Nat.add_zero _).symm | omega) (by rfl) rfl ?_
       have sp_13 := Fa.event_spec cpa cpc cpo cpoc y (fAll (fNew th va vo lk pl) (L.take i)) (fAll_inv (new_finv hok (new_inv hok)) _) (by omega) pl ((fAll_n _ _).2.1) e2.1 e2.2.1 e2.2.2
       refine l_call rfl rfl rfl rfl rfl rfl Try.call14 (sp_13) Ts ?_
       rintro ⟨⟩ -
       try simp only [List.cons_append, List.nil_append]
       refine ag_nil ?_
       refine s_eq 164 rfl (v' := .int .i64 0) (by rw [feE, if_pos hv2]) ?_
       rw [show feF (fAll (fNew th va vo lk pl) (L.take i)) e2.1 e2.2.1 e2.2.2 = (fAll (fNew th va vo lk pl) (L.take (i + 1))) from (fAll_next he2).symm]
       refine q_int rfl rfl rfl rfl rfl (b_neq _ _ _ _) ?_
       refine s_eq 165 rfl (v' := .bool false) (by first | rfl | simp) ?_
       refine q_pick_t rfl rfl rfl rfl rfl ?_
       refine r_done ?_
       refine s_keep [1, 3, 5, 7, 9, 13, 14, 126, 127, 128, 129, 130, 131, 132, 158, 159, 160, 161, 162, 163, 164, 165, 166] (e' := [(1, _), (3, _), (5, _), (7, _), (9, _), (13, _), (14, _), (126, _), (127, _), (128, _), (129, _), (130, _), (131, _), (132, _), (158, _), (159, _), (160, _), (161, _), (162, _), (163, _), (164, _), (165, _), (166, _)]) rfl ?_
       refine k_then_n ?_
       refine c_cond_f rfl ?_
       refine c_skip ?_
       refine k_blk_n ?_
       refine k_then_n ?_
       refine c_plain (.q 0 (.q 1 (.q 2 (.done)))) (by kernel_rfl) ?_
       refine q_move rfl rfl rfl rfl ?_
       refine q_int rfl rfl rfl rfl rfl (b_add' _ (by exact fits_i64 (by omega) (by omega))) ?_
       refine q_assign rfl rfl rfl rfl ?_
       refine r_done ?_
       refine k_then_n ?_
       refine loop_next (x := (i, Z)) ((i + 1, Z)) ?_ ?_ ?_ ?_
       · try dsimp only
         exact ⟨by omega, by omega, hZ, by omega, hZp⟩
       · show L.length + kk + m2 - (i + 1) < L.length + kk + m2 - i; omega
       · exact ⟨rfl, rfl, rfl, rfl, rfl, rfl, rfl, trivial⟩
       · (try simp only [List.cons_append, List.nil_append]); exact Tf
      ·
       refine q_skip rfl rfl rfl rfl ?_
       refine q_skip rfl rfl rfl rfl ?_
       refine q_skip rfl rfl rfl rfl ?_
       refine q_skip rfl rfl rfl rfl ?_
       refine q_skip rfl rfl rfl rfl ?_
       refine q_skip rfl rfl rfl rfl ?_
       refine l_skip rfl rfl rfl rfl ?_
       refine q_skip rfl rfl rfl rfl ?_
       refine q_pick_f rfl rfl rfl rfl rfl ?_
       refine r_done ?_
       refine s_keep [1, 3, 5, 7, 9, 13, 14, 126, 127, 128, 129, 130, 131, 132, 158, 159, 160, 161, 162, 163, 164, 165, 166] (e' := [(1, _), (3, _), (5, _), (7, _), (9, _), (13, _), (14, _), (126, _), (127, _), (128, _), (129, _), (130, _), (131, _), (132, _), (158, _), (159, _), (160, _), (161, _), (162, _), (163, _), (164, _), (165, _), (166, _)]) rfl ?_
       refine k_then_n ?_
       refine c_cond_f rfl ?_
       refine c_skip ?_
       refine k_blk_n ?_
       refine k_then_n ?_
       refine c_plain (.q 0 (.q 1 (.q 2 (.done)))) (by kernel_rfl) ?_
       refine q_move rfl rfl rfl rfl ?_
       refine q_int rfl rfl rfl rfl rfl (b_add' _ (by exact fits_i64 (by omega) (by omega))) ?_
       refine q_assign rfl rfl rfl rfl ?_
       refine r_done ?_
       refine k_then_n ?_
       rw [show L.take i = L.take (i + 1) from by rw [List.take_of_length_le (by omega), List.take_of_length_le (by omega)]]
       refine loop_next (x := (i, Z)) ((i + 1, Z)) ?_ ?_ ?_ ?_
       · try dsimp only
         exact ⟨by omega, by omega, hZ, by omega, hZp⟩
       · show L.length + kk + m2 - (i + 1) < L.length + kk + m2 - i; omega
       · exact ⟨rfl, rfl, rfl, rfl, rfl, rfl, rfl, trivial⟩
       · (try simp only [List.cons_append, List.nil_append]); exact Tf
    ·
     refine c_exit ?_
     refine k_then_exit ?_
     refine k_then_exit ?_
     refine k_blk_here ?_
     refine k_then_n ?_
     refine c_seq ?_
     rw [List.take_of_length_le (by omega)]
     have hfl := flFF_len (fAll (fNew th va vo lk pl) L).vs
     obtain ⟨-, -, -, -, hvl⟩ := fAll_n L (fNew th va vo lk pl)
     rw [hvl, show (fNew th va vo lk pl).vs.length = va.toNat from List.length_replicate] at hfl
     have hva := hok.va
     refine c_plain (.q 0 ((.l 1 [] (.q 2 ((.l 3 [] ((.l 4 [] (.q 5 (.q 6 ((.l 7 [] (.q 8 ((.l 9 [] (.q 10 (.q 11 (.q 12 ((.l 13 [] (.q 14 (.q 15 (.done))))))))))))))))))))))) (by kernel_rfl) ?_
     refine q_move rfl rfl rfl rfl ?_
     have sp_14 := Fa.flags_spec dpa dpc dpo dpoc d (fAll (fNew th va vo lk pl) L) (fAll_inv (new_finv hok (new_inv hok)) _)
     refine l_call rfl rfl rfl rfl rfl rfl Try.call22 (sp_14) Ts ?_
     rintro ⟨f1a, f1c⟩ -
     try simp only [List.cons_append, List.nil_append]
     refine ag_nil ?_
     refine q_move rfl rfl rfl rfl ?_
     have sp_15 := Fa.flags_spec cpa cpc cpo cpoc y (fAll (fNew th va vo lk pl) L) (fAll_inv (new_finv hok (new_inv hok)) _)
     refine l_call rfl rfl rfl rfl rfl rfl Try.call22 (sp_15) Ts ?_
     rintro ⟨f2a, f2c⟩ -
     try simp only [List.cons_append, List.nil_append]
     refine ag_nil ?_
     refine s_take (A := own 2 enc2 f1a f1c (flFF (fAll (fNew th va vo lk pl) L).vs)) Tk ?_
     refine own_fc fun f_16a f_16b f_16c => ?_
     refine s_take (A := own 2 enc2 f2a f2c (flFF (fAll (fNew th va vo lk pl) L).vs)) Tk ?_
     refine own_fc fun f_17a f_17b f_17c => ?_
     refine s_heap (fun _ h => Bun.fold ((by (repeat ((with_reducible apply Z2); focus (first | (with_reducible (repeat (first | exact Z0 | apply Z1)); done) | (repeat (first | exact Z0 | apply Z1))))); exact Z3 : Takes _ [own 2 enc2 f1a f1c (flFF (fAll (fNew th va vo lk pl) L).vs), own 2 enc2 f2a f2c (flFF (fAll (fNew th va vo lk pl) L).vs)] _) _ h)) ?_
     have sp_18 := fflags_same (flFF (fAll (fNew th va vo lk pl) L).vs) (flFF (fAll (fNew th va vo lk pl) L).vs) f1a f2a ((flFF (fAll (fNew th va vo lk pl) L).vs).length) ((flFF (fAll (fNew th va vo lk pl) L).vs).length) f1c f2c (Bun [own 2 enc2 f1a f1c (flFF (fAll (fNew th va vo lk pl) L).vs), own 2 enc2 f2a f2c (flFF (fAll (fNew th va vo lk pl) L).vs)]) (by first | rfl | assumption | omega | (simp; done) | (simp; omega)) (rds_bun (List.mem_cons_self) (rds_own enc2_len (fun h => (f_16b h).1) f_16c)) (by first | rfl | assumption | omega | (simp; done) | (simp; omega)) (rds_bun (List.mem_cons_of_mem _ (List.mem_cons_self)) (rds_own enc2_len (fun h => (f_17b h).1) f_17c)) (by omega)
     refine l_call rfl rfl rfl rfl rfl rfl Try.call21 (sp_18) Ts ?_
     rintro ⟨⟩ -
     try simp only [List.cons_append, List.nil_append]
     refine s_take (A := Bun [own 2 enc2 f1a f1c (flFF (fAll (fNew th va vo lk pl) L).vs), own 2 enc2 f2a f2c (flFF (fAll (fNew th va vo lk pl) L).vs)]) Tk ?_
     refine s_bun ?_
     try simp only [List.cons_append, List.nil_append]
     try simp only [List.cons_append, List.nil_append]
     refine ag_nil ?_
     refine s_eq 171 rfl (v' := .bool true) (by first | rfl | simp) ?_
     refine q_move rfl rfl rfl rfl ?_
     refine q_move rfl rfl rfl rfl ?_
     have sp_19 := Fa.cost_spec dpa dpc dpo dpoc d (fAll (fNew th va vo lk pl) L) (fAll_inv (new_finv hok (new_inv hok)) _)
     refine l_call rfl rfl rfl rfl rfl rfl Try.call17 (sp_19) Ts ?_
     rintro ⟨⟩ -
     try simp only [List.cons_append, List.nil_append]
     refine ag_nil ?_
     refine q_move rfl rfl rfl rfl ?_
     have sp_20 := Fa.cost_spec cpa cpc cpo cpoc y (fAll (fNew th va vo lk pl) L) (fAll_inv (new_finv hok (new_inv hok)) _)
     refine l_call rfl rfl rfl rfl rfl rfl Try.call17 (sp_20) Ts ?_
     rintro ⟨⟩ -
     try simp only [List.cons_append, List.nil_append]
     refine ag_nil ?_
     refine q_int rfl rfl rfl rfl rfl (b_eql _ _ _ _) ?_
     refine s_eq 177 rfl (v' := .bool true) (by first | rfl | simp) ?_
     refine q_pick_t rfl rfl rfl rfl rfl ?_
     refine q_move rfl rfl rfl rfl ?_
     have sp_21 := known_spec
     refine l_call rfl rfl rfl rfl rfl rfl Try.call11 (sp_21) Ts ?_
     rintro ⟨⟩ -
     try simp only [List.cons_append, List.nil_append]
     refine ag_nil ?_
     refine q_pick_t rfl rfl rfl rfl rfl ?_
     refine q_assign rfl rfl rfl rfl ?_
     refine r_done ?_
     refine s_keep [2] (e' := [(2, _)]) rfl ?_
     refine k_then_n ?_
     refine c_ret ?_
     refine ret1 rfl rfl (()) (by first | rfl | (first | rfl | (congr 1; done) | (congr 1 <;> first | rfl | omega | (simp; done) | (simp; omega)))) (by trivial) ?_
     exact Tf
theorem twice_bad (th va vo lk : Int) (pl : List Int) (ao : Option Addr) (n c : Nat) (A : HProp) (hr : RdS A ao (pl.flatMap encZ)) (hn : pl.length = n) (hb : n ≤ 4000000) (es : List T3) (eo : Option Addr) (m ec : Nat) (he : RdS A eo (es.flatMap enc3)) (hm : es.length = m) (hmb : m ≤ 4000000) (ms : List T3) (mo : Option Addr) (m2 mc : Nat) (hms : RdS A mo (ms.flatMap enc3)) (hm2 : ms.length = m2) (hm2b : m2 ≤ 4000000) (cut : Int) (hok : ¬ OkS th va vo lk pl) : Spec Try.prog 6 [.agg #[.int .i64 th, .int .i64 va, .int .i64 vo, .int .i64 lk, .slice ao n c, .slice eo m ec, .slice mo m2 mc, .int .i64 cut]] [A] (fun (_ : Unit) => .bool true) (fun _ => True) (fun _ => [A]) := by
 refine spec_mk (n := 182) Try.func6 rfl rfl rfl ?_
 intro Γ w0
 simp only [argE, List.cons_append, List.nil_append, Nat.zero_add, Nat.reduceAdd]
 refine c_seq ?_
 refine c_plain ((.l 0 [] (.q 1 (.done)))) (by kernel_rfl) ?_
 refine l_box rfl rfl rfl rfl (us := [_, _, _, _, _, _, _, _]) rfl ?_
 intro b1
 refine ag_nil ?_
 refine q_assign rfl rfl rfl rfl ?_
 refine r_done ?_
 refine k_then_n ?_
 refine c_seq ?_
 refine c_plain (.q 0 (.q 1 (.q 2 (.q 3 ((.l 4 [] (.q 5 (.q 6 (.q 7 ((.l 8 [] ((.l 9 [] (.q 10 (.done))))))))))))))) (by kernel_rfl) ?_
 refine q_field (k := 0) rfl rfl rfl rfl Try.underlying58 rfl Try.sizeOf25 rfl ?_
 refine q_loadN_c rfl rfl rfl rfl Try.isAgg25 Try.sizeOf25 Tk 0 (us := [_, _, _, _, _]) (by first | rfl | exact (Nat.add_zero _).symm) rfl rfl ?_
 refine q_field (k := 5) rfl rfl rfl rfl Try.underlying58 rfl Try.sizeOf26 rfl ?_
 refine q_load_c (j := 5) rfl rfl rfl rfl Try.isAgg26 Tk (by first | rfl | exact (Nat.add_zero _).symm) (by rfl) ?_
 have sp_1 := run_bad th va vo lk pl ao n c A (hr) (by first | rfl | assumption | omega | (simp; done) | (simp; omega)) (by omega) es eo m ec (he) (by first | rfl | assumption | omega | (simp; done) | (simp; omega)) (by omega) hok
 refine l_call rfl rfl rfl rfl rfl rfl Try.call16 (sp_1) Ts ?_
 rintro ⟨⟩ -
 try simp only [List.cons_append, List.nil_append]
 refine ag_nil ?_
 refine q_move rfl rfl rfl rfl ?_
 refine q_extract rfl rfl rfl rfl rfl ?_
 refine q_extract rfl rfl rfl rfl rfl ?_
 refine l_alloc rfl rfl rfl Try.zeroValue44 (zs := [.int .i64 0, .int .i64 0, .int .i64 0, .int .i64 0, .slice none 0 0, .slice none 0 0, .slice none 0 0]) rfl ?_
 intro b3
 refine ag_nil ?_
 refine l_store (j := 0) rfl rfl rfl rfl Try.sizeOf44 (us := [_, _, _, _, _, _, _]) rfl rfl rfl Tk (by first | rfl | exact (Nat.add_zero _).symm) (by first | decide | (simp; done) | omega) ?_
 simp only [setL, List.set]
 refine ag_nil ?_
 refine q_assign rfl rfl rfl rfl ?_
 refine r_done ?_
 refine s_keep [1, 3, 4] (e' := [(1, _), (3, _), (4, _)]) rfl ?_
 refine k_then_n ?_
 refine c_seq ?_
 refine c_plain (.q 0 (.q 1 ((.l 2 [] (.q 3 (.q 4 (.q 5 (.q 6 (.q 7 (.done)))))))))) (by kernel_rfl) ?_
 refine q_field (k := 0) rfl rfl rfl rfl Try.underlying58 rfl Try.sizeOf25 rfl ?_
 refine q_loadN_c rfl rfl rfl rfl Try.isAgg25 Try.sizeOf25 Tk 0 (us := [_, _, _, _, _]) (by first | rfl | exact (Nat.add_zero _).symm) rfl rfl ?_
 have sp_2 := Fa.newbad_spec th va vo lk pl ao n c A (hr) (by first | rfl | assumption | omega | (simp; done) | (simp; omega)) (by omega) hok
 refine l_call rfl rfl rfl rfl rfl rfl Try.call9 (sp_2) Ts ?_
 rintro ⟨⟩ -
 try simp only [List.cons_append, List.nil_append]
 refine ag_nil ?_
 refine q_move rfl rfl rfl rfl ?_
 refine q_extract rfl rfl rfl rfl rfl ?_
 refine q_extract rfl rfl rfl rfl rfl ?_
 refine q_assign rfl rfl rfl rfl ?_
 refine q_assign rfl rfl rfl rfl ?_
 refine r_done ?_
 refine s_keep [1, 3, 4, 5, 6] (e' := [(1, _), (3, _), (4, _), (5, _), (6, _)]) rfl ?_
 refine k_then_n ?_
 refine c_seq ?_
 refine c_plain (.q 0 (.q 1 ((.l 2 [] (.q 3 (.q 4 (.q 5 (.q 6 (.q 7 (.done)))))))))) (by kernel_rfl) ?_
 refine q_field (k := 0) rfl rfl rfl rfl Try.underlying58 rfl Try.sizeOf25 rfl ?_
 refine q_loadN_c rfl rfl rfl rfl Try.isAgg25 Try.sizeOf25 Tk 0 (us := [_, _, _, _, _]) (by first | rfl | exact (Nat.add_zero _).symm) rfl rfl ?_
 have sp_3 := Fa.newbad_spec th va vo lk pl ao n c A (hr) (by first | rfl | assumption | omega | (simp; done) | (simp; omega)) (by omega) hok
 refine l_call rfl rfl rfl rfl rfl rfl Try.call9 (sp_3) Ts ?_
 rintro ⟨⟩ -
 try simp only [List.cons_append, List.nil_append]
 refine ag_nil ?_
 refine q_move rfl rfl rfl rfl ?_
 refine q_extract rfl rfl rfl rfl rfl ?_
 refine q_extract rfl rfl rfl rfl rfl ?_
 refine q_assign rfl rfl rfl rfl ?_
 refine q_assign rfl rfl rfl rfl ?_
 refine r_done ?_
 refine s_keep [1, 3, 4, 5, 6, 7, 8] (e' := [(1, _), (3, _), (4, _), (5, _), (6, _), (7, _), (8, _)]) rfl ?_
 refine k_then_n ?_
 refine c_seq ?_
 refine c_seq ?_
 refine c_plain (.q 0 (.q 1 (.q 2 (.q 3 (.q 4 (.q 5 (.q 6 (.q 7 (.q 8 (.q 9 (.q 10 (.q 11 (.q 12 (.q 13 (.q 14 (.q 15 (.q 16 (.q 17 (.q 18 (.q 19 (.q 20 (.q 21 (.done))))))))))))))))))))))) (by kernel_rfl) ?_
 refine q_move rfl rfl rfl rfl ?_
 refine q_ne_nil rfl rfl rfl rfl Try.underlying27 ?_
 refine s_eq 36 rfl (v' := .bool false) rfl ?_
 refine q_move rfl rfl rfl rfl ?_
 refine q_neb rfl rfl rfl rfl rfl Try.underlying4 ?_
 refine s_eq 38 rfl (v' := .bool false) rfl ?_
 refine q_move rfl rfl rfl rfl ?_
 refine q_move rfl rfl rfl rfl ?_
 refine q_ne_nil rfl rfl rfl rfl Try.underlying27 ?_
 refine s_eq 41 rfl (v' := .bool false) rfl ?_
 refine q_move rfl rfl rfl rfl ?_
 refine q_neb rfl rfl rfl rfl rfl Try.underlying4 ?_
 refine s_eq 43 rfl (v' := .bool false) rfl ?_
 refine q_pick_f rfl rfl rfl rfl rfl ?_
 refine q_move rfl rfl rfl rfl ?_
 refine q_move rfl rfl rfl rfl ?_
 refine q_int rfl rfl rfl rfl rfl (b_eql _ _ _ _) ?_
 refine s_eq 47 rfl (v' := .bool false) (by first | rfl | simp) ?_
 refine q_move rfl rfl rfl rfl ?_
 refine q_neb rfl rfl rfl rfl rfl Try.underlying4 ?_
 refine s_eq 49 rfl (v' := .bool false) rfl ?_
 refine q_pick_f rfl rfl rfl rfl rfl ?_
 refine q_move rfl rfl rfl rfl ?_
 refine q_move rfl rfl rfl rfl ?_
 refine q_int rfl rfl rfl rfl rfl (b_eql _ _ _ _) ?_
 refine s_eq 53 rfl (v' := .bool false) (by first | rfl | simp) ?_
 refine q_move rfl rfl rfl rfl ?_
 refine q_neb rfl rfl rfl rfl rfl Try.underlying4 ?_
 refine s_eq 55 rfl (v' := .bool false) rfl ?_
 refine q_pick_f rfl rfl rfl rfl rfl ?_
 refine r_done ?_
 refine s_keep [1, 3, 5, 7, 56] (e' := [(1, _), (3, _), (5, _), (7, _), (56, _)]) rfl ?_
 refine k_then_n ?_
 refine c_cond_f rfl ?_
 refine c_skip ?_
 refine k_then_n ?_
 refine c_seq ?_
 refine c_seq ?_
 refine c_plain (.q 0 (.q 1 (.q 2 (.q 3 (.q 4 (.q 5 (.done))))))) (by kernel_rfl) ?_
 refine q_move rfl rfl rfl rfl ?_
 refine q_eq_nil rfl rfl rfl rfl Try.underlying27 ?_
 refine s_eq 58 rfl (v' := .bool true) rfl ?_
 refine q_move rfl rfl rfl rfl ?_
 refine q_skip rfl rfl rfl rfl ?_
 refine q_skip rfl rfl rfl rfl ?_
 refine q_pick_t rfl rfl rfl rfl rfl ?_
 refine r_done ?_
 refine s_keep [1, 3, 5, 7, 62] (e' := [(1, _), (3, _), (5, _), (7, _), (62, _)]) rfl ?_
 refine k_then_n ?_
 refine c_cond_t rfl ?_
 refine c_seq ?_
 refine c_plain ((.l 0 [] (.q 1 (.done)))) (by kernel_rfl) ?_
 have sp_4 := known_spec
 refine l_call rfl rfl rfl rfl rfl rfl Try.call11 (sp_4) Ts ?_
 rintro ⟨⟩ -
 try simp only [List.cons_append, List.nil_append]
 refine ag_nil ?_
 refine q_assign rfl rfl rfl rfl ?_
 refine r_done ?_
 refine s_keep [2] (e' := [(2, _)]) rfl ?_
 refine k_then_n ?_
 refine c_ret ?_
 refine k_then_ret ?_
 refine ret1 rfl rfl (()) (by first | rfl | (first | rfl | (congr 1; done) | (congr 1 <;> first | rfl | omega | (simp; done) | (simp; omega)))) (by trivial) ?_
 exact Tf
theorem twice_spec (th va vo lk : Int) (pl : List Int) (ao : Option Addr) (n c : Nat) (A : HProp) (hr : RdS A ao (pl.flatMap encZ)) (hn : pl.length = n) (hb : n ≤ 4000000) (es : List T3) (eo : Option Addr) (m ec : Nat) (he : RdS A eo (es.flatMap enc3)) (hm : es.length = m) (hmb : m ≤ 4000000) (ms : List T3) (mo : Option Addr) (m2 mc : Nat) (hms : RdS A mo (ms.flatMap enc3)) (hm2 : ms.length = m2) (hm2b : m2 ≤ 4000000) (cut : Int) : Spec Try.prog 6 [.agg #[.int .i64 th, .int .i64 va, .int .i64 vo, .int .i64 lk, .slice ao n c, .slice eo m ec, .slice mo m2 mc, .int .i64 cut]] [A] (fun (_ : Unit) => .bool true) (fun _ => True) (fun _ => [A]) := by
  by_cases hok : OkS th va vo lk pl
  · exact twice_ok th va vo lk pl ao n c A hr hn hb es eo m ec he hm hmb ms mo m2 mc hms hm2 hm2b cut hok
  · exact twice_bad th va vo lk pl ao n c A hr hn hb es eo m ec he hm hmb ms mo m2 mc hms hm2 hm2b cut hok
end Go.Ab.Fa
set_option linter.unusedVariables false
set_option linter.unusedSimpArgs false
namespace Go.Proofs.Ytjibehgfiljbgaa.frame
open Go Go.Ab Go.ChangeShapes Go.WideShapes Go.ChangeAt Go.RowKit
/-! The bound. -/
theorem one_le {H : Type} (d : DataW H) : 1 ≤ Rows.uptoBulk d := by
  cases d with
  | lit l => cases l <;> simp [Rows.uptoBulk]
  | nil => simp [Rows.uptoBulk]
  | ptr d => simp [Rows.uptoBulk]
  | slice elems spare => simp [Rows.uptoBulk]
  | agg parts => simp [Rows.uptoBulk]
  | iface t d => simp [Rows.uptoBulk]
  | map entries => simp [Rows.uptoBulk]
  | held h => simp [Rows.uptoBulk]
theorem part_le {H : Type} {d : DataW H} {l : List (DataW H)} (h : d ∈ l) : Rows.uptoBulk d ≤ Rows.uptoBulkAll l := by
  induction l with
  | nil => cases h
  | cons x r ih =>
    simp only [Rows.uptoBulkAll]
    cases List.mem_cons.1 h with
    | inl e => subst e; omega
    | inr e => have := ih e; omega
theorem length_le {H : Type} (l : List (DataW H)) : l.length ≤ Rows.uptoBulkAll l := by
  induction l with
  | nil => simp [Rows.uptoBulkAll]
  | cons x r ih => have := one_le x; simp only [Rows.uptoBulkAll, List.length_cons]; omega
theorem bound {H : Type} {l : List (DataW H)} (hk : Rows.uptoSmall H l = true) : Rows.uptoBulkAll l ≤ 1048576 := of_decide_eq_true hk
theorem bound_mem {H : Type} {l : List (DataW H)} {d : DataW H} (hk : Rows.uptoSmall H l = true) (h : d ∈ l) : Rows.uptoBulk d ≤ 1048576 := Nat.le_trans (part_le h) (bound hk)
theorem bulk_slice {H : Type} {es rs : List (DataW H)} {d : DataW H} (h : d ∈ es) : Rows.uptoBulk d ≤ Rows.uptoBulk (.slice es rs) := by
  have := part_le h
  simp only [Rows.uptoBulk]; omega
theorem bulk_len {H : Type} (es rs : List (DataW H)) : es.length ≤ Rows.uptoBulk (.slice es rs) := by
  have := length_le es
  simp only [Rows.uptoBulk]; omega
/-! The arguments read behind the call as before. -/
theorem trodAll_below {H : Type} {enc : TypeId × Value → H} {P : Program} (hl : laidOutB P = true) {W W' : World} (hb : Below W.heap.size W W') : ∀ {ts : List TypeId} {vs : List Value} {ds : List (DataW H)} {ps : List MemPlace}, (∀ t ∈ ts, P.readableRec t = true ∧ t < P.types.size) →
    DataW.TrodAll enc P W 0 (fun _ => true) true ts vs ds ps → (∀ x ∈ ps, x.block < W.heap.size) → DataW.TrodAll enc P W' 0 (fun b => decide (b < W.heap.size)) true ts vs ds ps
  | [], [], [], _, _, h, _ => h
  | t :: ts, v :: vs, d :: ds, ps, hr, ⟨p, q, h, hs, e⟩, hlt => by
    subst e
    exact ⟨p, q, Below.trod hl (hr t (by simp)).1 (hr t (by simp)).2 h hb (fun x hx => hlt x (List.mem_append_left _ hx)), trodAll_below hl hb (fun t ht => hr t (List.mem_cons_of_mem _ ht)) hs (fun x hx => hlt x (List.mem_append_right _ hx)), rfl⟩
theorem law_post {H : Type} {enc : TypeId × Value → H} {P : Program} {f : Func} {s : ChangeSpec} {W W' : World} {args : Array Value} {ds gs : List (DataW H)} {before : List MemPlace} {tb : TypeId}
    (hl : laidOutB P = true) (hr : ∀ t ∈ f.params.toList, P.readableRec t = true ∧ t < P.types.size) (hvars : s.vars = []) (hres : f.resultTypes = #[tb]) (hb : P.underlying tb = some .bool)
    (hf : s.fn H (ds ++ gs) = { results := [.lit (.bool true)], args := ds, vars := [] }) (hW : DataW.Whole enc P f.params.toList s.vars false W args.toList ds gs before) (bel : Below W.heap.size W W') : s.post enc P f false true false false W args (.bool true) W' := by
  have hW' := hW
  obtain ⟨p, q, hA, hV, rfl, hfz, hnd⟩ := hW
  rw [hvars] at hV
  obtain ⟨rfl, rfl⟩ := trodVars_none hV
  have hA' : DataW.TrodAll enc P W 0 (fun _ => true) true f.params.toList args.toList ds p := hA
  refine ⟨ds, [], p ++ [], [], p, [], hW', ?_, ?_, ?_, bel.frame _, fun h => by cases h⟩
  · rw [hf, hres]
    exact trodAll_mk1 (shut_bool hb true)
  · rw [hf]
    exact trodAll_below hl bel hr hA' (fun x hx => hW'.lt x (List.mem_append_left _ hx))
  · rw [hf, hvars]
    exact rfl
theorem spec_calls {P : Program} {f : FuncId} {args : List Value} {W : World} (h : Ab.Spec P f args [base W] (fun (_ : Unit) => .bool true) (fun _ => True) (fun _ => [base W])) : Calls P f args.toArray W fun e W' => e = .returned (.bool true) ∧ Below W.heap.size W W' :=
  (h [] W (base_self W)).mono fun e w' ⟨_, e1, _, s, a⟩ => ⟨e1, below_of_base s a⟩
/-! Arguments are opened. -/
theorem spot_of_cell {W : World} {a : Addr} {v : Value} (h : W.cell? a = some v) : a.spot = none := by
  unfold World.cell? at h
  split at h
  · split at h
    · cases h
    · rename_i hs; simpa using hs
  · cases h
theorem choose_list {α : Type} : ∀ (n : Nat) (Q : Nat → α → Prop), (∀ i, i < n → ∃ x, Q i x) → ∃ xs : List α, xs.length = n ∧ ∀ i x, xs[i]? = some x → Q i x
  | 0, Q, _ => ⟨[], rfl, fun i x h => by simp at h⟩
  | n + 1, Q, h => by
    obtain ⟨xs, h1, h2⟩ := choose_list n Q (fun i hi => h i (by omega))
    obtain ⟨x, hx⟩ := h n (by omega)
    refine ⟨xs ++ [x], by simp [h1], fun i y hy => ?_⟩
    rcases Nat.lt_trichotomy i n with hi | hi | hi
    · rw [List.getElem?_append_left (by omega)] at hy; exact h2 i y hy
    · subst hi; rw [List.getElem?_append_right (by omega), h1, Nat.sub_self] at hy; simp at hy; subst hy; exact hx
    · rw [List.getElem?_eq_none (by simp; omega)] at hy; cases hy
theorem rdn_flat_mk {α : Type} {A : HProp} {b sz : Nat} {enc : α → List Value} (hsz : ∀ x, (enc x).length = sz) : ∀ (xs : List α) (o : Nat), (∀ i x, xs[i]? = some x → RdN A b (o + i * sz) (enc x)) → RdN A b o (xs.flatMap enc)
  | [], o, _ => fun i v h => by simp at h
  | x :: xs, o, h => fun i v hv => by
    rw [List.flatMap_cons] at hv
    by_cases hi : i < (enc x).length
    · rw [List.getElem?_append_left hi] at hv
      have := h 0 x rfl i v hv
      rwa [Nat.zero_mul, Nat.add_zero] at this
    · rw [List.getElem?_append_right (by omega), hsz] at hv
      rw [hsz] at hi
      have ih := rdn_flat_mk hsz xs (o + sz) (fun i y hy => by
        have := h (i + 1) y (by simpa using hy)
        rw [Nat.succ_mul] at this
        rwa [show o + sz + i * sz = o + (i * sz + sz) from by omega])
      have := ih (i - sz) v hv
      rwa [show o + sz + (i - sz) = o + i from by omega] at this
/-- A slice among what is read: its elements are opened by 'hel'. -/
theorem open_sl {α H : Type} {enc : TypeId × Value → H} {P : Program} {W : World} {t e : TypeId} {ao : Option Addr} {len cap sz fuel : Nat} {y : DataW H × List MemPlace} {enc' : α → List Value} {Q : α → DataW H → Prop} (ht : P.underlying t = some (.slice e)) (hc : P.cellsOf e = sz + 1) (hsz : ∀ x, (enc' x).length = sz + 1)
    (hel : ∀ n cs y, DataW.trod enc P W 0 (fun _ => true) true n e cs = some y → cs.length = sz + 1 → ∃ x : α, enc' x = cs ∧ Q x y.1)
    (h : DataW.trod enc P W 0 (fun _ => true) true fuel t [.slice ao len cap] = some y) :
    ∃ xs : List α, xs.length = len ∧ RdS (base W) ao (xs.flatMap enc') ∧ len ≤ cap ∧ cap ≤ maxLen ∧ xs.length ≤ Rows.uptoBulk y.1 ∧ (∀ x ∈ xs, ∃ d, Q x d ∧ Rows.uptoBulk d ≤ Rows.uptoBulk y.1) ∧ (ao = none → cap = 0) := by
  rcases DataW.trod_slice ht h with ⟨h1, h2⟩ | ⟨a, len', cap', elems, rest, n, -, h1, h2, -, hl, hm, hlen, hel', -⟩
  · simp only [List.cons.injEq, Value.slice.injEq, and_true] at h1
    obtain ⟨rfl, rfl, rfl⟩ := h1
    exact ⟨[], rfl, .inl rfl, Nat.le_refl _, Nat.zero_le _, Nat.zero_le _, fun _ h => (by cases h), fun _ => rfl⟩
  · simp only [List.cons.injEq, Value.slice.injEq, and_true] at h1
    obtain ⟨rfl, rfl, rfl⟩ := h1
    subst h2
    have key : ∀ i, i < len → ∃ x : α, ∃ cs y, W.cells? 0 (a.add (i * (sz + 1))) (sz + 1) = some cs ∧ elems[i]? = some y ∧ enc' x = cs ∧ Q x y.1 := by
      intro i hi
      have h3 := hel' i hi
      rw [List.getElem?_eq_getElem (by omega), hc, Option.bind_eq_some_iff] at h3
      obtain ⟨cs, h4, h5⟩ := h3
      have h6 := World.cells?_some h4
      obtain ⟨x, hx, hq⟩ := hel n cs _ h5 (by have := mapM_some_length (by unfold World.cells? at h4; rwa [if_pos (Nat.zero_le _)] at h4); simpa using this)
      exact ⟨x, cs, _, h4, List.getElem?_eq_getElem (by omega), hx, hq⟩
    obtain ⟨xs, hx1, hx2⟩ := choose_list len _ key
    have hcell : ∀ i x, xs[i]? = some x → ∀ j v, (enc' x)[j]? = some v → W.cell? ((a.add (i * (sz + 1))).add j) = some v := by
      intro i x hx j v hv
      obtain ⟨cs, y, h4, -, h5, -⟩ := hx2 i x hx
      subst h5
      unfold World.cells? at h4
      rw [if_pos (Nat.zero_le _)] at h4
      have hj : j < sz + 1 := by rw [← hsz x]; exact (List.getElem?_eq_some_iff.1 hv).1
      have := mapM_some_get h4 j j (by simp [hj])
      rw [this, hv]
    refine ⟨xs, hx1, ?_, hl, hm, ?_, ?_, fun h => by cases h⟩
    · cases hxs : xs with
      | nil => exact .inl rfl
      | cons x0 xs' =>
        obtain ⟨v0, hv0⟩ := get_lt (l := enc' x0) (i := 0) (by rw [hsz]; omega)
        have h6 := hcell 0 x0 (by rw [hxs]; rfl) 0 v0 hv0
        rw [Nat.zero_mul] at h6
        have hsp : a.spot = none := spot_of_cell (by simpa [Addr.add] using h6)
        obtain ⟨b, o, sp⟩ := a
        simp only at hsp
        subst hsp
        refine .inr ⟨b, o, rfl, ?_⟩
        rw [← hxs]
        refine rdn_flat_mk hsz xs o fun i x hx j v hv => rd_base ?_
        have := hcell i x hx j v hv
        rwa [add_none, add_none] at this
    · have := bulk_len (elems.map (·.1)) (rest.map (·.1))
      rw [List.length_map, hlen] at this
      rw [hx1]; exact this
    · intro x hx
      obtain ⟨i, hi⟩ := List.getElem?_of_mem hx
      obtain ⟨cs, y, -, h5, -, h7⟩ := hx2 i x hi
      exact ⟨y.1, h7, bulk_slice (List.mem_map_of_mem (List.mem_of_getElem? h5))⟩
/-- A slice of an element of a slice. -/
theorem el_sl {α H : Type} {enc : TypeId × Value → H} {P : Program} {W : World} {t e : TypeId} {sz : Nat} {enc' : α → List Value} {Q : α → DataW H → Prop} (ht : P.underlying t = some (.slice e)) (hc : P.cellsOf e = sz + 1) (hsz : ∀ x, (enc' x).length = sz + 1)
    (hel : ∀ n cs y, DataW.trod enc P W 0 (fun _ => true) true n e cs = some y → cs.length = sz + 1 → ∃ x : α, enc' x = cs ∧ Q x y.1)
    (n : Nat) (cs : List Value) (y : DataW H × List MemPlace) (h : DataW.trod enc P W 0 (fun _ => true) true n t cs = some y) (hl : cs.length = 0 + 1) :
    ∃ x : LstA α, encH x = cs ∧ (RdS (base W) x.1 (x.2.2.flatMap enc') ∧ x.2.2.length ≤ Rows.uptoBulk y.1 ∧ (∀ z ∈ x.2.2, ∃ d, Q z d ∧ Rows.uptoBulk d ≤ Rows.uptoBulk y.1) ∧ x.2.2.length ≤ x.2.1) := by
  have h0 : ∃ ao len cap, cs = [.slice ao len cap] := by
    rcases DataW.trod_slice ht h with ⟨h1, -⟩ | ⟨a, len', cap', elems, rest, n, -, h1, -⟩
    · exact ⟨_, _, _, h1⟩
    · exact ⟨_, _, _, h1⟩
  obtain ⟨ao, len, cap, rfl⟩ := h0
  obtain ⟨xs, h1, h2, h3, h4, h5, h6, h7⟩ := open_sl ht hc hsz hel h
  subst h1
  exact ⟨(ao, cap, xs), rfl, h2, h5, h6, h3⟩
/-- An integer. -/
theorem el_int {H : Type} {enc : TypeId × Value → H} {P : Program} {W : World} {e : TypeId} {k : IntKind} (he : P.underlying e = some (.int k)) (n : Nat) (cs : List Value) (y : DataW H × List MemPlace) (h : DataW.trod enc P W 0 (fun _ => true) true n e cs = some y) (hl : cs.length = 0 + 1) : ∃ x : Int, [Value.int k x] = cs ∧ (Lit.int k x).wf = true := by
  obtain ⟨m, rfl, rfl, hw⟩ := DataW.trod_int he h
  exact ⟨m, rfl, hw⟩
end Go.Proofs.Ytjibehgfiljbgaa.frame
set_option linter.unusedVariables false
set_option linter.unusedSimpArgs false
namespace Go.Proofs.Ytjibehgfiljbgaa.frame
open Go Go.Ab Go.ChangeShapes Go.WideShapes Go.ChangeAt Go.RowKit
variable {α β H : Type} {enc : TypeId × Value → H} {P : Program} {W : World} {e : TypeId} {fs : Array Field} {m : Nat} {cs : List Value} {B : Nat}
/-- How an element of type e is opened. -/
abbrev El (enc : TypeId × Value → H) (P : Program) (W : World) (e : TypeId) (sz : Nat) (encA : α → List Value) (Q : α → DataW H → Prop) : Prop :=
  ∀ n cs y, DataW.trod enc P W 0 (fun _ => true) true n e cs = some y → cs.length = sz → ∃ x : α, encA x = cs ∧ Q x y.1
/-- What is known of the fields from i on. -/
def FR (enc : TypeId × Value → H) (P : Program) (W : World) (fs : Array Field) (m i : Nat) (cs : List Value) (B : Nat) : Prop :=
  ∀ j f, i ≤ j → fs[j]? = some f → ∃ y : DataW H × List MemPlace, DataW.trod enc P W 0 (fun _ => true) true m f.type ((cs.drop f.offset).take (P.cellsOf f.type)) = some y ∧ Rows.uptoBulk y.1 ≤ B
theorem fr_start {n : Nat} {y : DataW H × List MemPlace} (he : P.underlying e = some (.struct fs)) (h : DataW.trod enc P W 0 (fun _ => true) true n e cs = some y) : ∃ m, FR enc P W fs m 0 cs (Rows.uptoBulk y.1) := by
  obtain ⟨xs, m, -, hy, -, hxs, hf⟩ := DataW.trod_struct he h
  refine ⟨m, fun j f _ hj => ?_⟩
  have hlt : j < xs.length := by rw [hxs]; exact (Array.getElem?_eq_some_iff.1 hj).1
  have := hf j f hj
  rw [List.getElem?_eq_getElem hlt] at this
  refine ⟨_, this, ?_⟩
  rw [hy]
  have hp := part_le (l := xs.map (·.1)) (d := xs[j].1) (List.mem_map_of_mem (List.getElem_mem hlt))
  simp only [Rows.uptoBulk]
  omega
/-- Fields from i on, opened. -/
abbrev Fo (enc : TypeId × Value → H) (P : Program) (W : World) (fs : Array Field) (i off sz : Nat) (encA : α → List Value) (Q : α → Nat → Prop) : Prop :=
  ∀ m cs B, FR enc P W fs m i cs B → cs.length = off + sz → ∃ x : α, encA x = cs.drop off ∧ Q x B
theorem fo_last {i off sz : Nat} {f : Field} {encA : α → List Value} {Q : α → DataW H → Prop} (hf : fs[i]? = some f) (ho : f.offset = off) (hc : P.cellsOf f.type = sz) (el : El enc P W f.type sz encA Q) :
    Fo enc P W fs i off sz encA (fun x B => ∃ d, Q x d ∧ Rows.uptoBulk d ≤ B) := by
  intro m cs B h hl
  obtain ⟨y, hy, hb⟩ := h i f (Nat.le_refl _) hf
  rw [ho, hc, List.take_of_length_le (by rw [List.length_drop]; omega)] at hy
  obtain ⟨x, hx, hq⟩ := el m _ y hy (by rw [List.length_drop]; omega)
  exact ⟨x, hx, y.1, hq, hb⟩
theorem fo_cons {i off sz n : Nat} {f : Field} {encA : α → List Value} {Q : α → DataW H → Prop} {encB : β → List Value} {R : β → Nat → Prop} (hf : fs[i]? = some f) (ho : f.offset = off) (hc : P.cellsOf f.type = sz) (el : El enc P W f.type sz encA Q)
    (rest : Fo enc P W fs (i + 1) (off + sz) n encB R) : Fo enc P W fs i off (sz + n) (fun x : α × β => encA x.1 ++ encB x.2) (fun x B => (∃ d, Q x.1 d ∧ Rows.uptoBulk d ≤ B) ∧ R x.2 B) := by
  intro m cs B h hl
  obtain ⟨y, hy, hb⟩ := h i f (Nat.le_refl _) hf
  rw [ho, hc] at hy
  obtain ⟨x, hx, hq⟩ := el m _ y hy (by rw [List.length_take, List.length_drop]; omega)
  obtain ⟨z, hz, hr⟩ := rest m cs B (fun j g hj hg => h j g (by omega) hg) (by omega)
  refine ⟨(x, z), ?_, ⟨y.1, hq, hb⟩, hr⟩
  show encA x ++ encB z = _
  rw [hx, hz, ← List.drop_drop, List.take_append_drop]
theorem el_struct {sz : Nat} {encA : α → List Value} {Q : α → Nat → Prop} (he : P.underlying e = some (.struct fs)) (fo : Fo enc P W fs 0 0 sz encA Q) : El enc P W e sz encA (fun x d => Q x (Rows.uptoBulk d)) := by
  intro n cs y h hl
  obtain ⟨m, hm⟩ := fr_start he h
  obtain ⟨x, hx, hq⟩ := fo m cs _ hm (by omega)
  exact ⟨x, hx, hq⟩
/-- A struct handed in. -/
theorem arg_struct {t : TypeId} {v : Value} {d : DataW H} {ps : List MemPlace} {bs sz : Nat} {encA : α → List Value} {Q : α → DataW H → Prop} (ht : P.underlying t = some (.struct fs)) (hc : P.cellsOf t = sz) (el : El enc P W t sz encA Q)
    (hval : Value.okWide P W .any bs t v) (h : DataW.Trod enc P W 0 (fun _ => true) true t v d ps) : ∃ x : α, v = .agg (encA x).toArray ∧ Q x d := by
  obtain ⟨cs, rfl, hs⟩ := okWide_struct ht hval
  obtain ⟨n, hn⟩ := h
  obtain ⟨x, hx, hq⟩ := el n cs.toList (d, ps) (by simpa [Value.cells] using hn) (by simpa [hc] using hs)
  exact ⟨x, by rw [hx], hq⟩
end Go.Proofs.Ytjibehgfiljbgaa.frame
