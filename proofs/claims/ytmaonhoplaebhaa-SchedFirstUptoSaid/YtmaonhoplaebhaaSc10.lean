/- Package sched's laws: choosers asked. -/
import Derived.Test.YtmaonhoplaebhaaSc9
set_option linter.unusedVariables false
set_option linter.unusedSimpArgs false
set_option maxRecDepth 100000
namespace Go.Ab.Sc
open Go Go.Proofs Go.Ab
abbrev encHZ : LstA Int → List Value := encH
theorem encHZ_len : ∀ x, (encHZ x).length = 1 := fun _ => rfl
theorem encHZ_one : ∀ x, (encHZ x).all Value.oneCell' = true := fun _ => rfl
def wmT (i k : Nat) : Int := -1 - (i : Int)
def wvT (i k : Nat) : Int := -101 - (i : Int)
theorem own_rds1 {ao : Option Addr} {cap : Nat} {l : List Int} {z : Int} (h2 : ao = none → l ++ [z] = [] ∧ cap = 0) (h3 : ao ≠ none → ∃ b off, ao = some ⟨b, off, none⟩) : RdS (own 1 encZ ao cap (l ++ [z])) ao (l.flatMap encZ) := by
  have := rds_take (rds_own (cap := cap) encZ_len (fun e => (h2 e).1) h3) encZ_len l.length
  rwa [List.take_left] at this
theorem chooses_spec (b q : Nat) (x : Chs) (hx : CInv x) (hm : x.m ≤ 4000000000000) (l : List Int) (ao : Option Addr) (n c : Nat) (A : HProp) (hn : l.length = n) (hr : RdS A ao (l.flatMap encZ)) (hb : n ≤ 2000000) : Spec Try.prog 32 [.pointer (some ⟨b, 0, none⟩), .pointer (some ⟨q, 0, none⟩), .slice ao n c] [ch b x, ch q x, A] (fun (_ : Unit) => .bool true) (fun _ => True) (fun _ => [ch b (chzX x l), ch q (chzX x l), A]) := by
  refine spec_mk (n := 66) Try.func32 rfl rfl rfl ?_
  intro Γ w0
  simp only [argE, List.cons_append, List.nil_append, Nat.zero_add, Nat.reduceAdd]
  refine c_seq ?_
  refine c_plain (.q 0 (.done)) (by kernel_rfl) ?_
  refine q_assign rfl rfl rfl rfl ?_
  refine r_done ?_
  refine k_then_n ?_
  refine c_seq ?_
  refine c_plain (.q 0 ((.l 1 [] ((.l 2 [] ((.l 3 [] (.q 4 (.done))))))))) (by kernel_rfl) ?_
  refine q_move rfl rfl rfl rfl ?_
  refine s_heap (fun _ h => own_nil (sz := 1) (enc := encZ) h) ?_
  refine l_append (sz := 1) (enc := encZ) (xs := []) rfl rfl rfl rfl rfl Try.underlying53 Try.typeInfo3 rfl rfl rfl (by decide) (by with_reducible (repeat (first | exact Take.here | apply Take.there))) (by with_reducible (repeat (first | exact Take.here | apply Take.there))) (by first | rfl | omega | (simp; done) | (simp; omega)) (ys := l) (hr) (by rfl) (by first | rfl | omega) (encZ_len) (encZ_one) (by omega) (by show _ * 8 ≤ _; omega) ?_
  intro ao14 cp14
  try simp only [List.nil_append]
  refine ag_nil ?_
  refine l_buildSlice rfl rfl rfl rfl (run_build1 (us := [_]) Try.underlying53 Try.sizeOf3 rfl Try.zeroValue3 rfl rfl rfl) ?_
  intro b15
  refine ag_nil ?_
  refine l_append (sz := 1) (enc := encZ) (xs := (l)) rfl rfl rfl rfl rfl Try.underlying53 Try.typeInfo3 rfl rfl rfl (by decide) (by with_reducible (repeat (first | exact Take.here | apply Take.there))) (by with_reducible (repeat (first | exact Take.here | apply Take.there))) (by first | rfl | omega | (simp; done) | (simp; omega)) (ys := [(-71)]) (rds_some rdn_cells) (by rfl) (by first | rfl | omega) (encZ_len) (encZ_one) (by omega) (by show _ * 8 ≤ _; omega) ?_
  intro ao16 cp16
  refine ag_nil ?_
  refine q_assign rfl rfl rfl rfl ?_
  refine r_done ?_
  refine s_keep [0, 1, 2, 7] (e' := [(0, _), (1, _), (2, _), (7, _)]) rfl ?_
  refine k_then_n ?_
  refine c_seq ?_
  refine s_take (A := own 1 encZ ao16 cp16 (l ++ [(-71)])) (by with_reducible (repeat (first | exact Take.here | apply Take.there))) ?_
  refine own_fc fun hp1 hp2 hp3 => ?_
  simp only [List.length_append, List.length_singleton] at hp1
  refine c_plain (.q 0 (.q 1 (.q 2 (.q 3 (.q 4 ((.l 5 [] (.q 6 (.q 7 (.q 8 (.q 9 (.q 10 (.done))))))))))))) (by kernel_rfl) ?_
  refine q_move rfl rfl rfl rfl ?_
  refine q_move rfl rfl rfl rfl ?_
  refine q_move rfl rfl rfl rfl ?_
  refine q_len rfl rfl rfl rfl Try.underlying53 ?_
  refine q_cut_hi (h' := n) rfl rfl rfl rfl rfl Try.underlying53 Try.sizeOf3 (by first | rfl | omega) (by omega) ?_
  refine s_take (A := own 1 encZ ao16 cp16 ((l) ++ ([(-71)]))) (by with_reducible (repeat (first | exact Take.here | apply Take.there))) ?_
  refine own_fc fun f_1a f_1b f_1c => ?_
  have sp_2 := choose_spec b x hx.ok hm l ao16 n cp16 (own 1 encZ ao16 cp16 (l ++ [(-71)])) hn (own_rds1 hp2 hp3) (by omega)
  refine l_call rfl rfl rfl rfl rfl rfl Try.call26 (sp_2) (by (repeat ((with_reducible apply Takes.cons); focus (first | (with_reducible (repeat (first | exact Take.here | apply Take.there)); done) | (repeat (first | exact Take.here | apply Take.there))))); exact Takes.nil) ?_
  rintro ⟨⟩ -
  try simp only [List.cons_append, List.nil_append]
  refine ag_nil ?_
  refine q_move rfl rfl rfl rfl ?_
  refine q_extract rfl rfl rfl rfl rfl ?_
  refine q_extract rfl rfl rfl rfl rfl ?_
  refine q_assign rfl rfl rfl rfl ?_
  refine q_assign rfl rfl rfl rfl ?_
  refine r_done ?_
  refine s_keep [1, 2, 7, 8, 9] (e' := [(1, _), (2, _), (7, _), (8, _), (9, _)]) rfl ?_
  refine k_then_n ?_
  refine c_seq ?_
  refine c_plain (.q 0 (.q 1 ((.l 2 [] (.q 3 (.q 4 (.q 5 (.q 6 (.q 7 (.done)))))))))) (by kernel_rfl) ?_
  refine q_move rfl rfl rfl rfl ?_
  refine q_move rfl rfl rfl rfl ?_
  have sp_3 := rchoose_spec q x hx.ok hm l ao n c A hn hr (by omega)
  refine l_call rfl rfl rfl rfl rfl rfl Try.call55 (sp_3) (by (repeat ((with_reducible apply Takes.cons); focus (first | (with_reducible (repeat (first | exact Take.here | apply Take.there)); done) | (repeat (first | exact Take.here | apply Take.there))))); exact Takes.nil) ?_
  rintro ⟨⟩ -
  try simp only [List.cons_append, List.nil_append]
  refine ag_nil ?_
  refine q_move rfl rfl rfl rfl ?_
  refine q_extract rfl rfl rfl rfl rfl ?_
  refine q_extract rfl rfl rfl rfl rfl ?_
  refine q_assign rfl rfl rfl rfl ?_
  refine q_assign rfl rfl rfl rfl ?_
  refine r_done ?_
  refine s_keep [2, 7, 8, 9, 10, 11] (e' := [(2, _), (7, _), (8, _), (9, _), (10, _), (11, _)]) rfl ?_
  refine k_then_n ?_
  refine c_seq ?_
  refine c_seq ?_
  refine c_plain (.q 0 (.q 1 (.q 2 (.q 3 (.q 4 (.q 5 (.q 6 (.q 7 (.q 8 (.q 9 (.q 10 (.q 11 (.q 12 (.q 13 ((.l 14 [] (.q 15 (.q 16 (.q 17 (.q 18 (.q 19 (.q 20 (.q 21 (.q 22 (.q 23 (.q 24 (.done))))))))))))))))))))))))))) (by kernel_rfl) ?_
  refine q_move rfl rfl rfl rfl ?_
  refine q_move rfl rfl rfl rfl ?_
  refine q_int rfl rfl rfl rfl rfl (b_neq _ _ _ _) ?_
  refine q_move rfl rfl rfl rfl ?_
  refine s_bool_p 35 rfl (fun g_4 => by exfalso; first | omega | contradiction | (simp_all; done) | (simp_all; omega)) (fun g_4 => ?_)
  refine q_move rfl rfl rfl rfl ?_
  refine q_move rfl rfl rfl rfl ?_
  refine q_int rfl rfl rfl rfl rfl (b_neq _ _ _ _) ?_
  refine q_pick_f rfl rfl rfl rfl rfl ?_
  refine q_move rfl rfl rfl rfl ?_
  refine s_bool_p 40 rfl (fun g_5 => by exfalso; first | omega | contradiction | (simp_all; done) | (simp_all; omega)) (fun g_5 => ?_)
  refine q_move rfl rfl rfl rfl ?_
  refine q_move rfl rfl rfl rfl ?_
  refine q_len rfl rfl rfl rfl Try.underlying53 ?_
  refine q_cut_hi (h' := n) rfl rfl rfl rfl rfl Try.underlying53 Try.sizeOf3 (by first | rfl | omega) (by omega) ?_
  refine s_take (A := own 1 encZ ao16 cp16 ((l) ++ ([(-71)]))) (by with_reducible (repeat (first | exact Take.here | apply Take.there))) ?_
  refine own_fc fun f_6a f_6b f_6c => ?_
  refine q_move rfl rfl rfl rfl ?_
  refine s_heap (fun _ h => Bun.fold ((by (repeat ((with_reducible apply Takes.cons); focus (first | (with_reducible (repeat (first | exact Take.here | apply Take.there)); done) | (repeat (first | exact Take.here | apply Take.there))))); exact Takes.nil : Takes _ [own 1 encZ ao16 cp16 (l ++ [(-71)]), A] _) _ h)) ?_
  have sp_7 := samei_spec l l ao16 ao n n cp16 c (Bun [own 1 encZ ao16 cp16 (l ++ [(-71)]), A]) (by first | rfl | assumption | omega | (simp; done) | (simp; omega)) (rds_bun (List.mem_cons_self) ((own_rds1 hp2 hp3))) (by first | rfl | assumption | omega | (simp; done) | (simp; omega)) (rds_bun (List.mem_cons_of_mem _ (List.mem_cons_self)) (hr)) (by omega)
  refine l_call rfl rfl rfl rfl rfl rfl Try.call29 (sp_7) (by (repeat ((with_reducible apply Takes.cons); focus (first | (with_reducible (repeat (first | exact Take.here | apply Take.there)); done) | (repeat (first | exact Take.here | apply Take.there))))); exact Takes.nil) ?_
  rintro ⟨⟩ -
  try simp only [List.cons_append, List.nil_append]
  refine s_take (A := Bun [own 1 encZ ao16 cp16 (l ++ [(-71)]), A]) (by with_reducible (repeat (first | exact Take.here | apply Take.there))) ?_
  refine s_bun ?_
  try simp only [List.cons_append, List.nil_append]
  try simp only [List.cons_append, List.nil_append]
  refine ag_nil ?_
  refine q_not rfl rfl rfl rfl ?_
  refine q_pick_f rfl rfl rfl rfl rfl ?_
  refine q_move rfl rfl rfl rfl ?_
  refine s_bool_np 49 rfl (fun g_8 => by exfalso; first | omega | contradiction | (simp_all; done) | (simp_all; omega)) (fun g_8 => ?_)
  refine q_move rfl rfl rfl rfl ?_
  refine q_move rfl rfl rfl rfl ?_
  refine q_len rfl rfl rfl rfl Try.underlying53 ?_
  have h71 : (l ++ [(-71)])[n]? = some (-71) := by rw [List.getElem?_append_right (by omega), hn]; simp
  refine q_idxO (sz := 0) (k := n) (enc := encZ) (xs := ((l) ++ ([(-71)]))) rfl rfl rfl rfl rfl Try.underlying53 Try.sizeOf3 h71 (by first | rfl | omega) (by omega) (by with_reducible (repeat (first | exact Take.here | apply Take.there))) ?_
  intro ib53 io53 ha53 hl53 hc53
  refine q_load_O (v := (.int .i64 (-71))) (j := 0) (k' := n) (enc := encZ) (off := io53) rfl rfl rfl rfl Try.isAgg3 ha53 encZ_len h71 (by with_reducible (repeat (first | exact Take.here | apply Take.there))) (by first | rfl | exact (Nat.add_zero _).symm | omega) (by rfl) ?_
  refine q_int rfl rfl rfl rfl rfl (b_neq _ _ _ _) ?_
  refine q_pick_f rfl rfl rfl rfl rfl ?_
  refine r_done ?_
  refine s_keep [7, 56] (e' := [(7, _), (56, _)]) rfl ?_
  refine k_then_n ?_
  refine c_cond_p rfl (fun h_9 => by exfalso; first | omega | contradiction | (simp_all; done) | (simp_all; omega)) (fun h_9 => ?_)
  refine c_skip ?_
  refine k_then_n ?_
  refine c_seq ?_
  refine c_seq ?_
  refine c_plain (.q 0 (.done)) (by kernel_rfl) ?_
  refine q_assign rfl rfl rfl rfl ?_
  refine r_done ?_
  refine k_then_n ?_
  refine c_block ?_
  refine c_loop2 (α := Nat × List Int) (fun (x_ : Nat × List Int) => match x_ with | (i, f) => i ≤ n + 1 ∧ (f.length = n + 1)) (fun (x_ : Nat × List Int) => match x_ with | (i, f) => [(12, .int .i64 ((i : Nat) : Int))]) (fun (x_ : Nat × List Int) => match x_ with | (i, f) => [own 1 encZ ao16 cp16 f]) (fun (x_ : Nat × List Int) => match x_ with | (i, f) => n + 1 - i) [7] (er := [(7, _)]) rfl (0, l ++ [(-71)]) ?_ (by exact ⟨rfl, trivial⟩) (by (try dsimp only); (try simp only [Nat.add_zero, Nat.zero_add]); (repeat ((with_reducible apply Takes.cons); focus (first | (with_reducible (repeat (first | exact Take.here | apply Take.there)); done) | (repeat (first | exact Take.here | apply Take.there))))); exact Takes.nil) ?_
  · exact ⟨Nat.zero_le _, by simp [hn]⟩
  rintro ⟨i, f⟩ ⟨hle_i, hfl⟩
  try simp only [List.cons_append, List.nil_append]
  refine c_seq ?_
  refine c_seq ?_
  refine c_plain (.q 0 (.q 1 (.q 2 (.q 3 (.done))))) (by kernel_rfl) ?_
  refine q_move rfl rfl rfl rfl ?_
  refine q_move rfl rfl rfl rfl ?_
  refine q_len rfl rfl rfl rfl Try.underlying53 ?_
  refine q_int rfl rfl rfl rfl rfl (b_lss _ _ _ _) ?_
  refine r_done ?_
  refine k_then_n ?_
  refine c_cond_p rfl (fun hlt => ?_) (fun hlt => ?_)
  · skip
    refine c_skip ?_
    refine k_then_n ?_
    refine c_seq ?_
    refine c_block ?_
    refine c_plain (.q 0 (.q 1 (.q 2 ((.l 3 [] (.done)))))) (by kernel_rfl) ?_
    refine q_move rfl rfl rfl rfl ?_
    refine q_move rfl rfl rfl rfl ?_
    obtain ⟨e_10, he_10⟩ := get_lt (l := f) (i := i) (by first | omega | (simp; done) | (simp; omega))
    refine q_idxO (sz := 0) (k := i) (enc := encZ) (xs := f) rfl rfl rfl rfl rfl Try.underlying53 Try.sizeOf3 he_10 (by first | rfl | omega) (by omega) (by with_reducible (repeat (first | exact Take.here | apply Take.there))) ?_
    intro ib65 io65 ha65 hl65 hc65
    refine l_store_O (j := 0) (k := i) (q := 7) (enc := encZ) (off := io65) rfl rfl rfl rfl Try.sizeOf3 (us := [_]) rfl rfl rfl ha65 encZ_len he_10 (by with_reducible (repeat (first | exact Take.here | apply Take.there))) (by first | rfl | exact (Nat.add_zero _).symm | omega) (by first | decide | exact Nat.le_of_ble_eq_true rfl) (by rfl) ?_
    refine ag_nil ?_
    refine r_done ?_
    refine s_keep [7, 12] (e' := [(7, _), (12, _)]) rfl ?_
    refine k_blk_n ?_
    refine k_then_n ?_
    refine c_plain (.q 0 (.q 1 (.q 2 (.done)))) (by kernel_rfl) ?_
    refine q_move rfl rfl rfl rfl ?_
    refine q_int rfl rfl rfl rfl rfl (b_add' _ (by (first | exact fits_i64 (by omega) (by omega) | exact fits_u64 (by omega) (by omega) | exact fits_u32 (by omega) (by omega) | exact fits_u8 (by omega) (by omega)))) ?_
    refine q_assign rfl rfl rfl rfl ?_
    refine r_done ?_
    refine k_then_n ?_
    refine loop_next (x := (i, f)) ((i + 1, f.set i 7)) ?_ ?_ ?_ ?_
    · try dsimp only
      exact ⟨by omega, by rw [List.length_set]; exact hfl⟩
    · show n + 1 - (i + 1) < n + 1 - i; omega
    · exact ⟨rfl, rfl, trivial⟩
    · (try simp only [List.cons_append, List.nil_append]); (repeat ((with_reducible apply Takes.cons); focus (first | (with_reducible (repeat (first | exact Take.here | apply Take.there)); done) | (repeat (first | exact Take.here | apply Take.there))))); (repeat (first | exact Takes.nil | exact Takes.self | refine takes_drop2 ?_))
  · skip
    refine c_exit ?_
    refine k_then_exit ?_
    refine k_then_exit ?_
    refine k_blk_here ?_
    refine k_then_n ?_
    refine c_seq ?_
    refine c_plain (.q 0 (.done)) (by kernel_rfl) ?_
    refine q_assign rfl rfl rfl rfl ?_
    refine r_done ?_
    refine s_keep [6] (e' := [(6, _)]) rfl ?_
    refine k_then_n ?_
    refine c_ret ?_
    refine ret1 rfl rfl (()) (by first | rfl | (first | rfl | (congr 1; done) | (congr 1 <;> first | rfl | omega | (simp; done) | (simp; omega)))) (by trivial) ?_
    (repeat ((with_reducible apply Takes.cons); focus (first | (with_reducible (repeat (first | exact Take.here | apply Take.there)); done) | (repeat (first | exact Take.here | apply Take.there))))); (repeat (first | exact Takes.nil | exact Takes.self | refine takes_drop2 ?_))

theorem told_spec (b q : Nat) (x : Chs) (hx : CInv x) : Spec Try.prog 33 [.pointer (some ⟨b, 0, none⟩), .pointer (some ⟨q, 0, none⟩)] [ch b x, ch q x] (fun (_ : Unit) => .bool true) (fun _ => True) (fun _ => [ch b x, ch q x]) := by
  refine spec_mk (n := 191) Try.func33 rfl rfl rfl ?_
  intro Γ w0
  simp only [argE, List.cons_append, List.nil_append, Nat.zero_add, Nat.reduceAdd]
  have hk1 := hx.ok.len
  have hk2 := hx.ok.c
  have hk3 := hx.ok.d1
  refine c_seq ?_
  refine c_plain (.q 0 (.done)) (by kernel_rfl) ?_
  refine q_assign rfl rfl rfl rfl ?_
  refine r_done ?_
  refine k_then_n ?_
  refine c_seq ?_
  refine c_plain (.q 0 ((.l 1 [] (.q 2 ((.l 3 [] (.q 4 (.q 5 (.done))))))))) (by kernel_rfl) ?_
  refine q_move rfl rfl rfl rfl ?_
  have sp_1 := order_spec b x hx.ok
  refine l_call rfl rfl rfl rfl rfl rfl Try.call25 (sp_1) (by (repeat ((with_reducible apply Takes.cons); focus (first | (with_reducible (repeat (first | exact Take.here | apply Take.there)); done) | (repeat (first | exact Take.here | apply Take.there))))); exact Takes.nil) ?_
  rintro ⟨ooa, ooc, oos⟩ hooo
  simp only at hooo
  have hol := ord_len hooo
  try simp only [List.cons_append, List.nil_append]
  refine ag_nil ?_
  refine q_move rfl rfl rfl rfl ?_
  have sp_2 := order_spec b x hx.ok
  refine l_call rfl rfl rfl rfl rfl rfl Try.call25 (sp_2) (by (repeat ((with_reducible apply Takes.cons); focus (first | (with_reducible (repeat (first | exact Take.here | apply Take.there)); done) | (repeat (first | exact Take.here | apply Take.there))))); exact Takes.nil) ?_
  rintro ⟨opa, opc, ops⟩ hoop
  simp only at hoop
  obtain rfl : oos = ops := ord_eq hooo hoop
  try simp only [List.cons_append, List.nil_append]
  refine ag_nil ?_
  refine q_assign rfl rfl rfl rfl ?_
  refine q_assign rfl rfl rfl rfl ?_
  refine r_done ?_
  refine s_keep [0, 1, 5, 6] (e' := [(0, _), (1, _), (5, _), (6, _)]) rfl ?_
  refine k_then_n ?_
  refine c_seq ?_
  refine c_plain (.q 0 ((.l 1 [] (.q 2 ((.l 3 [] (.q 4 (.q 5 (.done))))))))) (by kernel_rfl) ?_
  refine q_move rfl rfl rfl rfl ?_
  have sp_3 := changes_spec b x hx.ok
  refine l_call rfl rfl rfl rfl rfl rfl Try.call23 (sp_3) (by (repeat ((with_reducible apply Takes.cons); focus (first | (with_reducible (repeat (first | exact Take.here | apply Take.there)); done) | (repeat (first | exact Take.here | apply Take.there))))); exact Takes.nil) ?_
  rintro ⟨cca, ccc⟩ -
  try simp only [List.cons_append, List.nil_append]
  refine ag_nil ?_
  refine q_move rfl rfl rfl rfl ?_
  have sp_4 := changes_spec b x hx.ok
  refine l_call rfl rfl rfl rfl rfl rfl Try.call23 (sp_4) (by (repeat ((with_reducible apply Takes.cons); focus (first | (with_reducible (repeat (first | exact Take.here | apply Take.there)); done) | (repeat (first | exact Take.here | apply Take.there))))); exact Takes.nil) ?_
  rintro ⟨cda, cdc⟩ -
  try simp only [List.cons_append, List.nil_append]
  refine ag_nil ?_
  refine q_assign rfl rfl rfl rfl ?_
  refine q_assign rfl rfl rfl rfl ?_
  refine r_done ?_
  refine s_keep [0, 1, 5, 6, 7, 8] (e' := [(0, _), (1, _), (5, _), (6, _), (7, _), (8, _)]) rfl ?_
  refine k_then_n ?_
  refine c_seq ?_
  refine c_seq ?_
  refine c_draw rfl (.q 0 (.q 1 ((.l 2 [] ((.l 3 [] (.q 4 (.q 5 (.q 6 (.q 7 ((.l 8 [] ((.l 9 [] (.q 10 (.q 11 (.q 12 (.q 13 (.q 14 ((.l 15 [] ((.l 16 [] (.q 17 (.q 18 (.q 19 (.q 20 (.q 21 ((.l 22 [] ((.l 23 [] (.q 24 (.q 25 (.q 26 (.q 27 (.q 29 (.q 30 (.q 31 (.q 32 ((.l 28 [32] (.q 33 (.q 34 (.done))))))))))))))))))))))))))))))))))))))))))))) (by kernel_rfl) ?_
  refine q_move rfl rfl rfl rfl ?_
  refine q_move rfl rfl rfl rfl ?_
  have sp_5 := rorder_spec q x hx
  refine l_call rfl rfl rfl rfl rfl rfl Try.call56 (sp_5) (by (repeat ((with_reducible apply Takes.cons); focus (first | (with_reducible (repeat (first | exact Take.here | apply Take.there)); done) | (repeat (first | exact Take.here | apply Take.there))))); exact Takes.nil) ?_
  rintro ⟨oqa, oqc, oqs⟩ hooq
  simp only at hooq
  obtain rfl : oos = oqs := ord_eq hooo hooq
  try simp only [List.cons_append, List.nil_append]
  refine ag_nil ?_
  refine s_take (A := own 1 encZ ooa ooc oos) (by with_reducible (repeat (first | exact Take.here | apply Take.there))) ?_
  refine own_fc fun f_6a f_6b f_6c => ?_
  refine s_take (A := own 1 encZ oqa oqc oos) (by with_reducible (repeat (first | exact Take.here | apply Take.there))) ?_
  refine own_fc fun f_7a f_7b f_7c => ?_
  refine s_heap (fun _ h => Bun.fold ((by (repeat ((with_reducible apply Takes.cons); focus (first | (with_reducible (repeat (first | exact Take.here | apply Take.there)); done) | (repeat (first | exact Take.here | apply Take.there))))); exact Takes.nil : Takes _ [own 1 encZ ooa ooc oos, own 1 encZ oqa oqc oos] _) _ h)) ?_
  have sp_8 := samei_spec oos oos ooa oqa x.rk.length x.rk.length ooc oqc (Bun [own 1 encZ ooa ooc oos, own 1 encZ oqa oqc oos]) (by first | rfl | assumption | omega | (simp; done) | (simp; omega)) (rds_bun (List.mem_cons_self) (rds_own encZ_len (fun h => (f_6b h).1) f_6c)) (by first | rfl | assumption | omega | (simp; done) | (simp; omega)) (rds_bun (List.mem_cons_of_mem _ (List.mem_cons_self)) (rds_own encZ_len (fun h => (f_7b h).1) f_7c)) (by omega)
  refine l_call rfl rfl rfl rfl rfl rfl Try.call29 (sp_8) (by (repeat ((with_reducible apply Takes.cons); focus (first | (with_reducible (repeat (first | exact Take.here | apply Take.there)); done) | (repeat (first | exact Take.here | apply Take.there))))); exact Takes.nil) ?_
  rintro ⟨⟩ -
  try simp only [List.cons_append, List.nil_append]
  refine s_take (A := Bun [own 1 encZ ooa ooc oos, own 1 encZ oqa oqc oos]) (by with_reducible (repeat (first | exact Take.here | apply Take.there))) ?_
  refine s_bun ?_
  try simp only [List.cons_append, List.nil_append]
  try simp only [List.cons_append, List.nil_append]
  refine ag_nil ?_
  refine q_not rfl rfl rfl rfl ?_
  refine q_move rfl rfl rfl rfl ?_
  refine s_bool_np 31 rfl (fun hg => by exfalso; first | exact hg rfl | exact hg trivial | simp at hg) (fun hg => ?_)
  refine q_move rfl rfl rfl rfl ?_
  refine q_move rfl rfl rfl rfl ?_
  have sp_9 := rorder_spec q x hx
  refine l_call rfl rfl rfl rfl rfl rfl Try.call56 (sp_9) (by (repeat ((with_reducible apply Takes.cons); focus (first | (with_reducible (repeat (first | exact Take.here | apply Take.there)); done) | (repeat (first | exact Take.here | apply Take.there))))); exact Takes.nil) ?_
  rintro ⟨ora, orc, ors⟩ hoor
  simp only at hoor
  obtain rfl : oos = ors := ord_eq hooo hoor
  try simp only [List.cons_append, List.nil_append]
  refine ag_nil ?_
  refine s_take (A := own 1 encZ opa opc oos) (by with_reducible (repeat (first | exact Take.here | apply Take.there))) ?_
  refine own_fc fun f_10a f_10b f_10c => ?_
  refine s_take (A := own 1 encZ ora orc oos) (by with_reducible (repeat (first | exact Take.here | apply Take.there))) ?_
  refine own_fc fun f_11a f_11b f_11c => ?_
  refine s_heap (fun _ h => Bun.fold ((by (repeat ((with_reducible apply Takes.cons); focus (first | (with_reducible (repeat (first | exact Take.here | apply Take.there)); done) | (repeat (first | exact Take.here | apply Take.there))))); exact Takes.nil : Takes _ [own 1 encZ opa opc oos, own 1 encZ ora orc oos] _) _ h)) ?_
  have sp_12 := samei_spec oos oos opa ora x.rk.length x.rk.length opc orc (Bun [own 1 encZ opa opc oos, own 1 encZ ora orc oos]) (by first | rfl | assumption | omega | (simp; done) | (simp; omega)) (rds_bun (List.mem_cons_self) (rds_own encZ_len (fun h => (f_10b h).1) f_10c)) (by first | rfl | assumption | omega | (simp; done) | (simp; omega)) (rds_bun (List.mem_cons_of_mem _ (List.mem_cons_self)) (rds_own encZ_len (fun h => (f_11b h).1) f_11c)) (by omega)
  refine l_call rfl rfl rfl rfl rfl rfl Try.call29 (sp_12) (by (repeat ((with_reducible apply Takes.cons); focus (first | (with_reducible (repeat (first | exact Take.here | apply Take.there)); done) | (repeat (first | exact Take.here | apply Take.there))))); exact Takes.nil) ?_
  rintro ⟨⟩ -
  try simp only [List.cons_append, List.nil_append]
  refine s_take (A := Bun [own 1 encZ opa opc oos, own 1 encZ ora orc oos]) (by with_reducible (repeat (first | exact Take.here | apply Take.there))) ?_
  refine s_bun ?_
  try simp only [List.cons_append, List.nil_append]
  try simp only [List.cons_append, List.nil_append]
  refine ag_nil ?_
  refine q_not rfl rfl rfl rfl ?_
  refine q_pick_f rfl rfl rfl rfl rfl ?_
  refine q_move rfl rfl rfl rfl ?_
  refine s_bool_np 38 rfl (fun hg => by exfalso; first | exact hg rfl | exact hg trivial | simp at hg) (fun hg => ?_)
  refine q_move rfl rfl rfl rfl ?_
  refine q_move rfl rfl rfl rfl ?_
  have sp_13 := rchanges_spec q x hx.ok
  refine l_call rfl rfl rfl rfl rfl rfl Try.call57 (sp_13) (by (repeat ((with_reducible apply Takes.cons); focus (first | (with_reducible (repeat (first | exact Take.here | apply Take.there)); done) | (repeat (first | exact Take.here | apply Take.there))))); exact Takes.nil) ?_
  rintro ⟨cea, cec⟩ -
  try simp only [List.cons_append, List.nil_append]
  refine ag_nil ?_
  refine s_take (A := own 1 encZ cca ccc x.chs) (by with_reducible (repeat (first | exact Take.here | apply Take.there))) ?_
  refine own_fc fun f_14a f_14b f_14c => ?_
  refine s_take (A := own 1 encZ cea cec x.chs) (by with_reducible (repeat (first | exact Take.here | apply Take.there))) ?_
  refine own_fc fun f_15a f_15b f_15c => ?_
  refine s_heap (fun _ h => Bun.fold ((by (repeat ((with_reducible apply Takes.cons); focus (first | (with_reducible (repeat (first | exact Take.here | apply Take.there)); done) | (repeat (first | exact Take.here | apply Take.there))))); exact Takes.nil : Takes _ [own 1 encZ cca ccc x.chs, own 1 encZ cea cec x.chs] _) _ h)) ?_
  have sp_16 := samei_spec x.chs x.chs cca cea x.chs.length x.chs.length ccc cec (Bun [own 1 encZ cca ccc x.chs, own 1 encZ cea cec x.chs]) (by first | rfl | assumption | omega | (simp; done) | (simp; omega)) (rds_bun (List.mem_cons_self) (rds_own encZ_len (fun h => (f_14b h).1) f_14c)) (by first | rfl | assumption | omega | (simp; done) | (simp; omega)) (rds_bun (List.mem_cons_of_mem _ (List.mem_cons_self)) (rds_own encZ_len (fun h => (f_15b h).1) f_15c)) (by omega)
  refine l_call rfl rfl rfl rfl rfl rfl Try.call29 (sp_16) (by (repeat ((with_reducible apply Takes.cons); focus (first | (with_reducible (repeat (first | exact Take.here | apply Take.there)); done) | (repeat (first | exact Take.here | apply Take.there))))); exact Takes.nil) ?_
  rintro ⟨⟩ -
  try simp only [List.cons_append, List.nil_append]
  refine s_take (A := Bun [own 1 encZ cca ccc x.chs, own 1 encZ cea cec x.chs]) (by with_reducible (repeat (first | exact Take.here | apply Take.there))) ?_
  refine s_bun ?_
  try simp only [List.cons_append, List.nil_append]
  try simp only [List.cons_append, List.nil_append]
  refine ag_nil ?_
  refine q_not rfl rfl rfl rfl ?_
  refine q_pick_f rfl rfl rfl rfl rfl ?_
  refine q_move rfl rfl rfl rfl ?_
  refine s_bool_np 45 rfl (fun hg => by exfalso; first | exact hg rfl | exact hg trivial | simp at hg) (fun hg => ?_)
  refine q_move rfl rfl rfl rfl ?_
  refine q_move rfl rfl rfl rfl ?_
  have sp_17 := rchanges_spec q x hx.ok
  refine l_call rfl rfl rfl rfl rfl rfl Try.call57 (sp_17) (by (repeat ((with_reducible apply Takes.cons); focus (first | (with_reducible (repeat (first | exact Take.here | apply Take.there)); done) | (repeat (first | exact Take.here | apply Take.there))))); exact Takes.nil) ?_
  rintro ⟨cfa, cfc⟩ -
  try simp only [List.cons_append, List.nil_append]
  refine ag_nil ?_
  refine s_take (A := own 1 encZ cda cdc x.chs) (by with_reducible (repeat (first | exact Take.here | apply Take.there))) ?_
  refine own_fc fun f_18a f_18b f_18c => ?_
  refine s_take (A := own 1 encZ cfa cfc x.chs) (by with_reducible (repeat (first | exact Take.here | apply Take.there))) ?_
  refine own_fc fun f_19a f_19b f_19c => ?_
  refine s_heap (fun _ h => Bun.fold ((by (repeat ((with_reducible apply Takes.cons); focus (first | (with_reducible (repeat (first | exact Take.here | apply Take.there)); done) | (repeat (first | exact Take.here | apply Take.there))))); exact Takes.nil : Takes _ [own 1 encZ cda cdc x.chs, own 1 encZ cfa cfc x.chs] _) _ h)) ?_
  have sp_20 := samei_spec x.chs x.chs cda cfa x.chs.length x.chs.length cdc cfc (Bun [own 1 encZ cda cdc x.chs, own 1 encZ cfa cfc x.chs]) (by first | rfl | assumption | omega | (simp; done) | (simp; omega)) (rds_bun (List.mem_cons_self) (rds_own encZ_len (fun h => (f_18b h).1) f_18c)) (by first | rfl | assumption | omega | (simp; done) | (simp; omega)) (rds_bun (List.mem_cons_of_mem _ (List.mem_cons_self)) (rds_own encZ_len (fun h => (f_19b h).1) f_19c)) (by omega)
  refine l_call rfl rfl rfl rfl rfl rfl Try.call29 (sp_20) (by (repeat ((with_reducible apply Takes.cons); focus (first | (with_reducible (repeat (first | exact Take.here | apply Take.there)); done) | (repeat (first | exact Take.here | apply Take.there))))); exact Takes.nil) ?_
  rintro ⟨⟩ -
  try simp only [List.cons_append, List.nil_append]
  refine s_take (A := Bun [own 1 encZ cda cdc x.chs, own 1 encZ cfa cfc x.chs]) (by with_reducible (repeat (first | exact Take.here | apply Take.there))) ?_
  refine s_bun ?_
  try simp only [List.cons_append, List.nil_append]
  try simp only [List.cons_append, List.nil_append]
  refine ag_nil ?_
  refine q_not rfl rfl rfl rfl ?_
  refine q_pick_f rfl rfl rfl rfl rfl ?_
  refine q_move rfl rfl rfl rfl ?_
  refine s_bool_np 52 rfl (fun hg => by exfalso; first | exact hg rfl | exact hg trivial | simp at hg) (fun hg => ?_)
  refine q_move rfl rfl rfl rfl ?_
  refine q_move rfl rfl rfl rfl ?_
  refine s_take (A := ch q x) (by with_reducible (repeat (first | exact Take.here | apply Take.there))) ?_
  refine ch_open fun ar cr ac cc => ?_
  refine q_nil_p rfl rfl rfl rfl ?_
  refine q_field (k := 3) rfl rfl rfl rfl Try.underlying71 rfl Try.sizeOf3 rfl ?_
  refine q_load_c (j := 3) rfl rfl rfl rfl Try.isAgg3 (by with_reducible (repeat (first | exact Take.here | apply Take.there))) (by first | rfl | exact (Nat.add_zero _).symm) (by rfl) ?_
  have sp_21 := made_spec b x hx.ok
  refine l_call rfl rfl rfl rfl rfl rfl Try.call28 (sp_21) (by (repeat ((with_reducible apply Takes.cons); focus (first | (with_reducible (repeat (first | exact Take.here | apply Take.there)); done) | (repeat (first | exact Take.here | apply Take.there))))); exact Takes.nil) ?_
  rintro ⟨⟩ -
  try simp only [List.cons_append, List.nil_append]
  refine ag_load_c (q := 3) rfl rfl rfl Try.isAgg3 (by with_reducible (repeat (first | exact Take.here | apply Take.there))) (by first | rfl | exact (Nat.add_zero _).symm) (by rfl) ?_
  refine ag_nil ?_
  refine q_int rfl rfl rfl rfl rfl (b_neq _ _ _ _) ?_
  refine q_pick_f rfl rfl rfl rfl rfl ?_
  refine r_done ?_
  refine s_keep [0, 1, 5, 6, 7, 8, 60] (e' := [(0, _), (1, _), (5, _), (6, _), (7, _), (8, _), (60, _)]) rfl ?_
  refine k_then_n ?_
  refine c_cond_p rfl (fun hg => by exfalso; first | exact hg rfl | exact hg trivial | simp at hg) (fun hg => ?_)
  refine c_skip ?_
  refine k_then_n ?_
  refine c_seq ?_
  refine c_plain (.q 0 (.q 1 (.q 2 (.q 3 ((.l 4 [] (.q 5 (.done)))))))) (by kernel_rfl) ?_
  refine q_move rfl rfl rfl rfl ?_
  refine q_move rfl rfl rfl rfl ?_
  refine q_move rfl rfl rfl rfl ?_
  refine q_move rfl rfl rfl rfl ?_
  refine l_buildSlice rfl rfl rfl rfl (vs := [_, _, _, _]) (run_buildSl Try.underlying49 Try.sizeOf53 Try.zeroValue53 rfl rfl rfl rfl) ?_
  intro b65
  refine ag_nil ?_
  refine q_assign rfl rfl rfl rfl ?_
  refine r_done ?_
  refine s_keep [0, 1, 9] (e' := [(0, _), (1, _), (9, _)]) rfl ?_
  refine k_then_n ?_
  refine c_seq ?_
  refine c_seq ?_
  obtain ⟨T, hT⟩ : ∃ T : List (LstA Int), T = [(ooa, ooc, oos), (opa, opc, oos), (cca, ccc, x.chs), (cda, cdc, x.chs)] := ⟨_, rfl⟩
  obtain ⟨m, hm⟩ : ∃ m : Nat, m = 4 := ⟨_, rfl⟩
  have hrT : RdS (cells b65 0 [.slice ooa x.rk.length ooc, .slice opa x.rk.length opc, .slice cca x.chs.length ccc, .slice cda x.chs.length cdc]) (some ⟨b65, 0, none⟩) (T.flatMap encHZ) := by
    rw [hT, show ([(ooa, ooc, oos), (opa, opc, oos), (cca, ccc, x.chs), (cda, cdc, x.chs)] : List (LstA Int)).flatMap encHZ = [.slice ooa x.rk.length ooc, .slice opa x.rk.length opc, .slice cca x.chs.length ccc, .slice cda x.chs.length cdc] from by simp [encHZ, encH, hol]]
    exact rds_some rdn_cells
  have hTl : T.length = m := by rw [hT, hm]; rfl
  have hb2 : ∀ x ∈ T, x.2.2.length ≤ 100000000 := fun y hy => by
    rw [hT] at hy
    simp at hy
    rcases hy with rfl | rfl | rfl | rfl <;> simp only <;> omega
  refine ch_fold (b := q) (d := x.d) (rk := x.rk) (chs := x.chs) (m := x.m) (by (repeat ((with_reducible apply Takes.cons); focus (first | (with_reducible (repeat (first | exact Take.here | apply Take.there)); done) | (repeat (first | exact Take.here | apply Take.there))))); exact Takes.nil) (by rfl) (by rfl) ?_
  refine s_big_nil (f := owA 1 encZ) ?_
  refine s_big_push (f := owA 1 encZ) (L := []) (x := (ooa, ooc, oos)) (by (repeat ((with_reducible apply Takes.cons); focus (first | (with_reducible (repeat (first | exact Take.here | apply Take.there)); done) | (repeat (first | exact Take.here | apply Take.there))))); exact Takes.nil) ?_
  simp only [List.nil_append, List.cons_append]
  refine s_big_push (f := owA 1 encZ) (L := [(ooa, ooc, oos)]) (x := (opa, opc, oos)) (by (repeat ((with_reducible apply Takes.cons); focus (first | (with_reducible (repeat (first | exact Take.here | apply Take.there)); done) | (repeat (first | exact Take.here | apply Take.there))))); exact Takes.nil) ?_
  simp only [List.nil_append, List.cons_append]
  refine s_big_push (f := owA 1 encZ) (L := [(ooa, ooc, oos), (opa, opc, oos)]) (x := (cca, ccc, x.chs)) (by (repeat ((with_reducible apply Takes.cons); focus (first | (with_reducible (repeat (first | exact Take.here | apply Take.there)); done) | (repeat (first | exact Take.here | apply Take.there))))); exact Takes.nil) ?_
  simp only [List.nil_append, List.cons_append]
  refine s_big_push (f := owA 1 encZ) (L := [(ooa, ooc, oos), (opa, opc, oos), (cca, ccc, x.chs)]) (x := (cda, cdc, x.chs)) (by (repeat ((with_reducible apply Takes.cons); focus (first | (with_reducible (repeat (first | exact Take.here | apply Take.there)); done) | (repeat (first | exact Take.here | apply Take.there))))); exact Takes.nil) ?_
  simp only [List.nil_append, List.cons_append]
  rw [← hT]
  refine s_eq 9 rfl (v' := .slice (some ⟨b65, 0, none⟩) m m) (by rw [hm]) ?_
  refine c_plain (.q 0 (.done)) (by kernel_rfl) ?_
  refine q_assign rfl rfl rfl rfl ?_
  refine r_done ?_
  refine k_then_n ?_
  refine c_block ?_
  refine c_loop2 (α := Nat × List (LstA Int)) (fun (x_ : Nat × List (LstA Int)) => match x_ with | (i, U) => i ≤ m ∧ (WIA wmT T U i)) (fun (x_ : Nat × List (LstA Int)) => match x_ with | (i, U) => [(10, .int .i64 ((i : Nat) : Int))]) (fun (x_ : Nat × List (LstA Int)) => match x_ with | (i, U) => [bigS (owA 1 encZ) U]) (fun (x_ : Nat × List (LstA Int)) => match x_ with | (i, U) => m - i) [0, 1, 9] (er := [(0, _), (1, _), (9, _)]) rfl (0, T) ?_ (by exact ⟨rfl, trivial⟩) (by (try dsimp only); (try simp only [Nat.add_zero, Nat.zero_add]); (repeat ((with_reducible apply Takes.cons); focus (first | (with_reducible (repeat (first | exact Take.here | apply Take.there)); done) | (repeat (first | exact Take.here | apply Take.there))))); exact Takes.nil) ?_
  · exact ⟨Nat.zero_le _, wia_start _ T⟩
  rintro ⟨i, U⟩ ⟨hle_i, hW⟩
  try simp only [List.cons_append, List.nil_append]
  refine c_seq ?_
  refine c_seq ?_
  refine c_plain (.q 0 (.q 1 (.q 2 (.q 3 (.done))))) (by kernel_rfl) ?_
  refine q_move rfl rfl rfl rfl ?_
  refine q_move rfl rfl rfl rfl ?_
  refine q_len rfl rfl rfl rfl Try.underlying49 ?_
  refine q_int rfl rfl rfl rfl rfl (b_lss _ _ _ _) ?_
  refine r_done ?_
  refine k_then_n ?_
  refine c_cond_p rfl (fun hlt => ?_) (fun hlt => ?_)
  · skip
    obtain ⟨x, hx⟩ := get_lt (l := T) (i := i) (by omega)
    obtain ⟨a2, c2, x3⟩ := x
    have hxb : x3.length ≤ 100000000 := hb2 _ (List.mem_of_getElem? hx)
    obtain ⟨y, hy⟩ := get_lt (l := U) (i := i) (by have := hW.len; omega)
    obtain ⟨a1, c1, y3⟩ := y
    obtain ⟨hs1, hs2, hs3, hs4⟩ := hW.same i _ _ hx hy
    simp only at hs1 hs2 hs3 hs4
    subst hs1 hs2
    refine c_skip ?_
    refine k_then_n ?_
    refine c_seq ?_
    refine c_block ?_
    refine c_seq ?_
    refine c_plain (.q 0 (.done)) (by kernel_rfl) ?_
    refine q_assign rfl rfl rfl rfl ?_
    refine r_done ?_
    refine s_keep [0, 1, 9, 10, 11] (e' := [(0, _), (1, _), (9, _), (10, _), (11, _)]) rfl ?_
    refine k_then_n ?_
    refine c_block ?_
    refine s_big_take (f := owA 1 encZ) (L := U) (by with_reducible (repeat (first | exact Take.here | apply Take.there))) hy ?_
    refine c_loop2 (α := Nat × List Int) (fun (x_ : Nat × List Int) => match x_ with | (k, l) => k ≤ x3.length ∧ (l.length = x3.length) ∧ (∀ q, q < k → l[q]? = some (wmT i q))) (fun (x_ : Nat × List Int) => match x_ with | (k, l) => [(11, .int .i64 ((k : Nat) : Int))]) (fun (x_ : Nat × List Int) => match x_ with | (k, l) => [own 1 encZ a1 c1 l]) (fun (x_ : Nat × List Int) => match x_ with | (k, l) => x3.length - k) [0, 1, 9, 10] (er := [(0, _), (1, _), (9, _), (10, _)]) rfl (0, y3) ?_ (by exact ⟨rfl, trivial⟩) (by exact Takes.cons Take.here Takes.nil) ?_
    · exact ⟨Nat.zero_le _, hs3, fun q hq => by omega⟩
    rintro ⟨k, l⟩ ⟨hle_k, hll, hlq⟩
    try simp only [List.cons_append, List.nil_append]
    refine c_seq ?_
    refine c_seq ?_
    refine c_plain (.q 0 (.q 1 (.q 2 (.q 3 (.q 4 (.q 5 (.q 6 (.done)))))))) (by kernel_rfl) ?_
    refine q_move rfl rfl rfl rfl ?_
    refine q_move rfl rfl rfl rfl ?_
    refine q_move rfl rfl rfl rfl ?_
    refine q_idxR (sz := 0) (k := i) rfl rfl rfl rfl rfl Try.underlying49 Try.sizeOf53 (hrT) hx encHZ_len (by first | rfl | omega) (by omega) ?_
    intro ib75 io75 _ hd75
    refine q_load rfl rfl rfl rfl Try.isAgg53 (by with_reducible (repeat (first | exact Take.here | apply Take.there))) (hd75 0 (.slice a1 x3.length c1) rfl) ?_
    refine q_len rfl rfl rfl rfl Try.underlying53 ?_
    refine q_int rfl rfl rfl rfl rfl (b_lss _ _ _ _) ?_
    refine r_done ?_
    refine s_keep [0, 1, 9, 10, 11, 78] (e' := [(0, _), (1, _), (9, _), (10, _), (11, _), (78, _)]) rfl ?_
    refine k_then_n ?_
    refine c_cond_p rfl (fun hlk => ?_) (fun hlk => ?_)
    · skip
      refine c_skip ?_
      refine k_then_n ?_
      refine c_seq ?_
      refine c_block ?_
      refine c_plain (.q 0 (.q 1 (.q 2 (.q 3 (.q 4 (.q 5 (.q 6 (.q 7 ((.l 8 [] (.done))))))))))) (by kernel_rfl) ?_
      refine q_move rfl rfl rfl rfl ?_
      refine q_move rfl rfl rfl rfl ?_
      refine q_idxR (sz := 0) (k := i) rfl rfl rfl rfl rfl Try.underlying49 Try.sizeOf53 (hrT) hx encHZ_len (by first | rfl | omega) (by omega) ?_
      intro ib83 io83 _ hd83
      refine q_load rfl rfl rfl rfl Try.isAgg53 (by with_reducible (repeat (first | exact Take.here | apply Take.there))) (hd83 0 (.slice a1 x3.length c1) rfl) ?_
      refine q_move rfl rfl rfl rfl ?_
      refine q_move rfl rfl rfl rfl ?_
      refine q_int rfl rfl rfl rfl rfl (b_sub' _ (by (first | exact fits_i64 (by omega) (by omega) | exact fits_u64 (by omega) (by omega) | exact fits_u32 (by omega) (by omega) | exact fits_u8 (by omega) (by omega)))) ?_
      obtain ⟨e_22, he_22⟩ := get_lt (l := l) (i := k) (by first | omega | (simp; done) | (simp; omega))
      refine q_idxO (sz := 0) (k := k) (enc := encZ) (xs := l) rfl rfl rfl rfl rfl Try.underlying53 Try.sizeOf3 he_22 (by first | rfl | omega) (by omega) (by with_reducible (repeat (first | exact Take.here | apply Take.there))) ?_
      intro ib88 io88 ha88 hl88 hc88
      refine l_store_O (j := 0) (k := k) (q := ((-1) - ((i : Nat) : Int))) (enc := encZ) (off := io88) rfl rfl rfl rfl Try.sizeOf3 (us := [_]) rfl rfl rfl ha88 encZ_len he_22 (by with_reducible (repeat (first | exact Take.here | apply Take.there))) (by first | rfl | exact (Nat.add_zero _).symm | omega) (by first | decide | exact Nat.le_of_ble_eq_true rfl) (by rfl) ?_
      refine ag_nil ?_
      refine r_done ?_
      refine s_keep [0, 1, 9, 10, 11] (e' := [(0, _), (1, _), (9, _), (10, _), (11, _)]) rfl ?_
      refine k_blk_n ?_
      refine k_then_n ?_
      refine c_plain (.q 0 (.q 1 (.q 2 (.done)))) (by kernel_rfl) ?_
      refine q_move rfl rfl rfl rfl ?_
      refine q_int rfl rfl rfl rfl rfl (b_add' _ (by (first | exact fits_i64 (by omega) (by omega) | exact fits_u64 (by omega) (by omega) | exact fits_u32 (by omega) (by omega) | exact fits_u8 (by omega) (by omega)))) ?_
      refine q_assign rfl rfl rfl rfl ?_
      refine r_done ?_
      refine k_then_n ?_
      refine loop_next (x := (k, l)) ((k + 1, l.set k (wmT i k))) ?_ ?_ ?_ ?_
      · try dsimp only
        exact ⟨by omega, by rw [List.length_set]; exact hll, fun q hq => by
            by_cases hqk : q = k
            · subst hqk; rw [List.getElem?_set_self (by omega)]
            · rw [List.getElem?_set_ne (Ne.symm hqk)]; exact hlq q (by omega)⟩
      · show x3.length - (k + 1) < x3.length - k; omega
      · exact ⟨rfl, rfl, rfl, rfl, rfl, trivial⟩
      · (try simp only [List.cons_append, List.nil_append]); (repeat ((with_reducible apply Takes.cons); focus (first | (with_reducible (repeat (first | exact Take.here | apply Take.there)); done) | (repeat (first | exact Take.here | apply Take.there))))); (repeat (first | exact Takes.nil | exact Takes.self | refine takes_drop2 ?_))
    · skip
      refine c_exit ?_
      refine k_then_exit ?_
      refine k_then_exit ?_
      refine k_blk_here ?_
      refine k_blk_n ?_
      refine k_then_n ?_
      refine c_plain (.q 0 (.q 1 (.q 2 (.done)))) (by kernel_rfl) ?_
      refine q_move rfl rfl rfl rfl ?_
      refine q_int rfl rfl rfl rfl rfl (b_add' _ (by (first | exact fits_i64 (by omega) (by omega) | exact fits_u64 (by omega) (by omega) | exact fits_u32 (by omega) (by omega) | exact fits_u8 (by omega) (by omega)))) ?_
      refine q_assign rfl rfl rfl rfl ?_
      refine r_done ?_
      refine s_keep [0, 1, 9, 10] (e' := [(0, _), (1, _), (9, _), (10, _)]) rfl ?_
      refine k_then_n ?_
      obtain rfl : k = x3.length := by omega
      refine s_big_put (f := owA 1 encZ) (L := U) (i := i) (y := (a1, c1, l)) (by (repeat ((with_reducible apply Takes.cons); focus (first | (with_reducible (repeat (first | exact Take.here | apply Take.there)); done) | (repeat (first | exact Take.here | apply Take.there))))); exact Takes.nil) (List.getElem?_eq_some_iff.1 hy).1 ?_
      refine loop_next (x := (i, U)) ((i + 1, U.set i (a1, c1, l))) ?_ ?_ ?_ ?_
      · try dsimp only
        exact ⟨by omega, wia_next hW hx hy l (mks_of hll fun q hq => hlq q (by omega))⟩
      · show m - (i + 1) < m - i; omega
      · exact ⟨rfl, rfl, rfl, rfl, trivial⟩
      · (try simp only [List.cons_append, List.nil_append]); (repeat ((with_reducible apply Takes.cons); focus (first | (with_reducible (repeat (first | exact Take.here | apply Take.there)); done) | (repeat (first | exact Take.here | apply Take.there))))); (repeat (first | exact Takes.nil | exact Takes.self | refine takes_drop2 ?_))
  · skip
    refine c_exit ?_
    refine k_then_exit ?_
    refine k_then_exit ?_
    refine k_blk_here ?_
    refine k_then_n ?_
    refine c_seq ?_
    refine c_plain (.q 0 (.done)) (by kernel_rfl) ?_
    refine q_assign rfl rfl rfl rfl ?_
    refine r_done ?_
    refine s_keep [0, 1, 9, 12] (e' := [(0, _), (1, _), (9, _), (12, _)]) rfl ?_
    refine k_then_n ?_
    refine c_seq ?_
    refine c_seq ?_
    refine c_plain (.q 0 (.done)) (by kernel_rfl) ?_
    refine q_assign rfl rfl rfl rfl ?_
    refine r_done ?_
    refine k_then_n ?_
    refine c_block ?_
    refine s_heap (fun _ h => own_nil (sz := 1) (enc := encHZ) h) ?_
    obtain rfl : m = i := by omega
    refine s_big_nil (f := f2A 1 encZ) ?_
    refine c_loop2 (α := Nat × List (PLA Int) × Option Addr × Nat) (fun (x_ : Nat × List (PLA Int) × Option Addr × Nat) => match x_ with | (j, M, am, cm) => j ≤ m ∧ (MOA wmT wvT 20 T M j)) (fun (x_ : Nat × List (PLA Int) × Option Addr × Nat) => match x_ with | (j, M, am, cm) => [(12, .slice am ((M.map (·.2)).length) cm), (13, .int .i64 ((j : Nat) : Int))]) (fun (x_ : Nat × List (PLA Int) × Option Addr × Nat) => match x_ with | (j, M, am, cm) => [bigS (f2A 1 encZ) M, bigS (owA 1 encZ) (U.drop j), own 1 encHZ am cm (M.map (·.2))]) (fun (x_ : Nat × List (PLA Int) × Option Addr × Nat) => match x_ with | (j, M, am, cm) => m - j) [0, 1, 9] (er := [(0, _), (1, _), (9, _)]) rfl (0, [], none, 0) ?_ (by exact ⟨rfl, rfl, trivial⟩) (by dsimp only; rw [List.drop_zero, List.map_nil]; (repeat ((with_reducible apply Takes.cons); focus (first | (with_reducible (repeat (first | exact Take.here | apply Take.there)); done) | (repeat (first | exact Take.here | apply Take.there))))); exact Takes.nil) ?_
    · exact ⟨Nat.zero_le _, ⟨rfl, fun j x p _ h => by simp at h⟩⟩
    rintro ⟨j, M, am, cm⟩ ⟨hle_j, hM⟩
    try simp only [List.cons_append, List.nil_append]
    have hml := hM.len
    have hmm : (M.map (·.2)).length = M.length := List.length_map _
    refine c_seq ?_
    refine c_seq ?_
    refine c_plain (.q 0 (.q 1 (.q 2 (.q 3 (.done))))) (by kernel_rfl) ?_
    refine q_move rfl rfl rfl rfl ?_
    refine q_move rfl rfl rfl rfl ?_
    refine q_len rfl rfl rfl rfl Try.underlying49 ?_
    refine q_int rfl rfl rfl rfl rfl (b_lss _ _ _ _) ?_
    refine r_done ?_
    refine k_then_n ?_
    refine c_cond_p rfl (fun hlj => ?_) (fun hlj => ?_)
    · skip
      obtain ⟨x, hx⟩ := get_lt (l := T) (i := j) (by omega)
      obtain ⟨a2, c2, x3⟩ := x
      have hxb : x3.length ≤ 100000000 := hb2 _ (List.mem_of_getElem? hx)
      obtain ⟨y, hy⟩ := get_lt (l := U) (i := j) (by have := hW.len; omega)
      obtain ⟨a1, c1, y3⟩ := y
      obtain ⟨hs1, hs2, hs3, hs4⟩ := hW.same j _ _ hx hy
      simp only at hs1 hs2 hs3 hs4
      subst hs1 hs2
      obtain rfl := hs4 (by omega)
      refine c_skip ?_
      refine k_then_n ?_
      refine c_seq ?_
      refine c_block ?_
      refine c_seq ?_
      refine c_plain (.q 0 (.q 1 (.q 2 (.q 3 (.q 4 (.done)))))) (by kernel_rfl) ?_
      refine q_move rfl rfl rfl rfl ?_
      refine q_move rfl rfl rfl rfl ?_
      refine q_idxR (sz := 0) (k := j) rfl rfl rfl rfl rfl Try.underlying49 Try.sizeOf53 (hrT) hx encHZ_len (by first | rfl | omega) (by omega) ?_
      intro ib97 io97 _ hd97
      refine q_load rfl rfl rfl rfl Try.isAgg53 (by with_reducible (repeat (first | exact Take.here | apply Take.there))) (hd97 0 (.slice a1 x3.length c1) rfl) ?_
      refine q_assign rfl rfl rfl rfl ?_
      refine r_done ?_
      refine s_keep [0, 1, 9, 12, 13, 14] (e' := [(0, _), (1, _), (9, _), (12, _), (13, _), (14, _)]) rfl ?_
      refine k_then_n ?_
      refine c_seq ?_
      refine c_seq ?_
      refine c_plain (.q 0 (.done)) (by kernel_rfl) ?_
      refine q_assign rfl rfl rfl rfl ?_
      refine r_done ?_
      refine k_then_n ?_
      refine c_block ?_
      refine s_big_take (f := owA 1 encZ) (L := U.drop j) (i := 0) (x := (a1, c1, mks (wmT j) x3.length)) (by with_reducible (repeat (first | exact Take.here | apply Take.there))) (by rw [List.getElem?_drop]; exact hy) ?_
      refine s_heap (fun _ h => app2_start h) ?_
      refine c_loop2 (α := Nat × Option Addr × Nat) (fun (x_ : Nat × Option Addr × Nat) => match x_ with | (k, an, cn) => k ≤ 20 ∧ True) (fun (x_ : Nat × Option Addr × Nat) => match x_ with | (k, an, cn) => [(14, .slice an (x3.length + k) cn), (15, .int .i64 ((k : Nat) : Int))]) (fun (x_ : Nat × Option Addr × Nat) => match x_ with | (k, an, cn) => [app2 1 encZ a1 c1 (mks (wmT j) x3.length) an cn (mks (wmT j) x3.length ++ mks (wvT j) k)]) (fun (x_ : Nat × Option Addr × Nat) => match x_ with | (k, an, cn) => 20 - k) [0, 1, 9, 12, 13] (er := [(0, _), (1, _), (9, _), (12, _), (13, _)]) rfl (0, a1, c1) ?_ (by exact ⟨rfl, rfl, trivial⟩) (by dsimp only; rw [show mks (wvT j) 0 = [] from rfl, List.append_nil]; exact Takes.cons Take.here Takes.nil) ?_
      · exact ⟨Nat.zero_le _, trivial⟩
      rintro ⟨k, an, cn⟩ ⟨hle_k, hc_⟩
      try simp only [List.cons_append, List.nil_append]
      refine c_seq ?_
      refine c_seq ?_
      refine c_plain (.q 0 (.q 1 (.done))) (by kernel_rfl) ?_
      refine q_move rfl rfl rfl rfl ?_
      refine q_int rfl rfl rfl rfl rfl (b_lss _ _ _ _) ?_
      refine r_done ?_
      refine k_then_n ?_
      refine c_cond_p rfl (fun hlk => ?_) (fun hlk => ?_)
      · skip
        refine c_skip ?_
        refine k_then_n ?_
        refine c_seq ?_
        refine c_block ?_
        refine c_plain (.q 0 (.q 1 (.q 2 ((.l 3 [] ((.l 4 [] (.q 5 (.done))))))))) (by kernel_rfl) ?_
        refine q_move rfl rfl rfl rfl ?_
        refine q_move rfl rfl rfl rfl ?_
        refine q_int rfl rfl rfl rfl rfl (b_sub' _ (by (first | exact fits_i64 (by omega) (by omega) | exact fits_u64 (by omega) (by omega) | exact fits_u32 (by omega) (by omega) | exact fits_u8 (by omega) (by omega)))) ?_
        refine l_buildSlice rfl rfl rfl rfl (run_build1 (us := [_]) Try.underlying53 Try.sizeOf3 rfl Try.zeroValue3 rfl rfl rfl) ?_
        intro b106
        refine ag_nil ?_
        refine l_appendA (sz := 1) rfl rfl rfl rfl rfl Try.underlying53 Try.typeInfo3 rfl rfl rfl (by decide) (by with_reducible (repeat (first | exact Take.here | apply Take.there))) (by with_reducible (repeat (first | exact Take.here | apply Take.there))) (by rw [List.length_append, mks_len, mks_len]) (ys := [wvT j k]) (rds_some rdn_cells) (by rfl) (by rfl) encZ_len encZ_one (by omega) (by show _ * 8 ≤ _; omega) (mks_take _ _ _) ?_
        intro an2 cn2
        refine ag_nil ?_
        refine q_assign rfl rfl rfl rfl ?_
        refine r_done ?_
        refine s_keep [0, 1, 9, 12, 13, 14, 15] (e' := [(0, _), (1, _), (9, _), (12, _), (13, _), (14, _), (15, _)]) rfl ?_
        refine k_blk_n ?_
        refine k_then_n ?_
        refine c_plain (.q 0 (.q 1 (.q 2 (.done)))) (by kernel_rfl) ?_
        refine q_move rfl rfl rfl rfl ?_
        refine q_int rfl rfl rfl rfl rfl (b_add' _ (by (first | exact fits_i64 (by omega) (by omega) | exact fits_u64 (by omega) (by omega) | exact fits_u32 (by omega) (by omega) | exact fits_u8 (by omega) (by omega)))) ?_
        refine q_assign rfl rfl rfl rfl ?_
        refine r_done ?_
        refine k_then_n ?_
        rw [List.append_assoc, mks_next]
        refine s_eq 14 rfl (v' := .slice an2 (x3.length + (k + 1)) cn2) (by first | rfl | (congr 1; done) | (congr 1 <;> first | rfl | omega | (simp; done) | (simp; omega))) ?_
        refine loop_next (x := (k, an, cn)) ((k + 1, an2, cn2)) ?_ ?_ ?_ ?_
        · try dsimp only
          exact ⟨by omega, trivial⟩
        · show 20 - (k + 1) < 20 - k; omega
        · exact ⟨rfl, rfl, rfl, rfl, rfl, rfl, rfl, trivial⟩
        · (try simp only [List.cons_append, List.nil_append]); (repeat ((with_reducible apply Takes.cons); focus (first | (with_reducible (repeat (first | exact Take.here | apply Take.there)); done) | (repeat (first | exact Take.here | apply Take.there))))); (repeat (first | exact Takes.nil | exact Takes.self | refine takes_drop2 ?_))
      · skip
        refine c_exit ?_
        refine k_then_exit ?_
        refine k_then_exit ?_
        refine k_blk_here ?_
        refine k_then_n ?_
        refine c_plain (.q 0 (.q 1 ((.l 2 [] ((.l 3 [] (.q 4 (.done)))))))) (by kernel_rfl) ?_
        refine q_move rfl rfl rfl rfl ?_
        refine q_move rfl rfl rfl rfl ?_
        refine l_buildSlice rfl rfl rfl rfl (run_build1 (us := [_]) Try.underlying49 Try.sizeOf53 rfl Try.zeroValue53 rfl rfl rfl) ?_
        intro b110
        refine ag_nil ?_
        refine l_append (sz := 1) (enc := encHZ) (xs := (M.map (·.2))) rfl rfl rfl rfl rfl Try.underlying49 Try.typeInfo53 rfl rfl rfl (by decide) (by with_reducible (repeat (first | exact Take.here | apply Take.there))) (by with_reducible (repeat (first | exact Take.here | apply Take.there))) (by first | rfl | omega | (simp; done) | (simp; omega)) (ys := [(an, cn, mks (wmT j) x3.length ++ mks (wvT j) 20)]) (rds_some rdn_cells) (by simp [encHZ, encH, mks_len]; omega) (by first | rfl | omega) (encHZ_len) (encHZ_one) (by omega) (by show _ * 24 ≤ _; omega) ?_
        intro ao111 cp111
        refine ag_nil ?_
        refine q_assign rfl rfl rfl rfl ?_
        refine r_done ?_
        refine s_keep [0, 1, 9, 12, 13] (e' := [(0, _), (1, _), (9, _), (12, _), (13, _)]) rfl ?_
        refine k_blk_n ?_
        refine k_then_n ?_
        refine c_plain (.q 0 (.q 1 (.q 2 (.done)))) (by kernel_rfl) ?_
        refine q_move rfl rfl rfl rfl ?_
        refine q_int rfl rfl rfl rfl rfl (b_add' _ (by (first | exact fits_i64 (by omega) (by omega) | exact fits_u64 (by omega) (by omega) | exact fits_u32 (by omega) (by omega) | exact fits_u8 (by omega) (by omega)))) ?_
        refine q_assign rfl rfl rfl rfl ?_
        refine r_done ?_
        refine k_then_n ?_
        obtain rfl : k = 20 := by omega
        refine s_big_push (f := f2A 1 encZ) (L := M) (x := ((a1, c1, mks (wmT j) x3.length), (an, cn, mks (wmT j) x3.length ++ mks (wvT j) 20))) (by (repeat ((with_reducible apply Takes.cons); focus (first | (with_reducible (repeat (first | exact Take.here | apply Take.there)); done) | (repeat (first | exact Take.here | apply Take.there))))); exact Takes.nil) ?_
        rw [List.eraseIdx_zero, List.tail_drop, show M.map (·.2) ++ [(an, cn, mks (wmT j) x3.length ++ mks (wvT j) 20)] = (M ++ [((a1, c1, mks (wmT j) x3.length), (an, cn, mks (wmT j) x3.length ++ mks (wvT j) 20))]).map (·.2) from by simp]
        refine s_eq 12 rfl (v' := .slice ao111 ((M ++ [((a1, c1, mks (wmT j) x3.length), (an, cn, mks (wmT j) x3.length ++ mks (wvT j) 20))]).map (·.2)).length cp111) (by simp) ?_
        refine s_eq 12 rfl (v' := .slice ao111 (((M ++ [((a1, c1, mks (wmT j) x3.length), (an, cn, mks (wmT j) x3.length ++ mks (wvT j) 20))]).map (·.2)).length) cp111) (by first | rfl | (congr 1; done) | (congr 1 <;> first | rfl | omega | (simp; done) | (simp; omega))) ?_
        refine loop_next (x := (j, M, am, cm)) ((j + 1, M ++ [((a1, c1, mks (wmT j) x3.length), (an, cn, mks (wmT j) x3.length ++ mks (wvT j) 20))], ao111, cp111)) ?_ ?_ ?_ ?_
        · try dsimp only
          exact ⟨by omega, moa_next hM hx rfl rfl⟩
        · show m - (j + 1) < m - j; omega
        · exact ⟨rfl, rfl, rfl, rfl, rfl, trivial⟩
        · (try simp only [List.cons_append, List.nil_append]); (repeat ((with_reducible apply Takes.cons); focus (first | (with_reducible (repeat (first | exact Take.here | apply Take.there)); done) | (repeat (first | exact Take.here | apply Take.there))))); (repeat (first | exact Takes.nil | exact Takes.self | refine takes_drop2 ?_))
    · skip
      refine c_exit ?_
      refine k_then_exit ?_
      refine k_then_exit ?_
      refine k_blk_here ?_
      refine k_then_n ?_
      refine c_seq ?_
      refine c_seq ?_
      refine c_plain (.q 0 (.done)) (by kernel_rfl) ?_
      refine q_assign rfl rfl rfl rfl ?_
      refine r_done ?_
      refine s_keep [0, 1, 9, 12, 16] (e' := [(0, _), (1, _), (9, _), (12, _), (16, _)]) rfl ?_
      refine k_then_n ?_
      refine c_block ?_
      obtain rfl : m = j := by omega
      refine c_loop2 (α := Nat) (fun (p : Nat) => p ≤ m) (fun (p : Nat) => [(16, .int .i64 ((p : Nat) : Int))]) (fun (p : Nat) => []) (fun (p : Nat) => m - p) [0, 1, 9, 12] (er := [(0, _), (1, _), (9, _), (12, _)]) rfl (0) ?_ (by exact ⟨rfl, trivial⟩) (by (try dsimp only); (try simp only [Nat.add_zero, Nat.zero_add]); (repeat ((with_reducible apply Takes.cons); focus (first | (with_reducible (repeat (first | exact Take.here | apply Take.there)); done) | (repeat (first | exact Take.here | apply Take.there))))); exact Takes.nil) ?_
      · exact Nat.zero_le _
      rintro p hle_p
      try simp only [List.cons_append, List.nil_append]
      have hml := hM.len
      have hmm : (M.map (·.2)).length = M.length := List.length_map _
      refine c_seq ?_
      refine c_seq ?_
      refine c_plain (.q 0 (.q 1 (.q 2 (.q 3 (.done))))) (by kernel_rfl) ?_
      refine q_move rfl rfl rfl rfl ?_
      refine q_move rfl rfl rfl rfl ?_
      refine q_len rfl rfl rfl rfl Try.underlying49 ?_
      refine q_int rfl rfl rfl rfl rfl (b_lss _ _ _ _) ?_
      refine r_done ?_
      refine k_then_n ?_
      refine c_cond_p rfl (fun hlp => ?_) (fun hlp => ?_)
      · skip
        try rw [List.length_map] at hlp
        obtain ⟨x, hx⟩ := get_lt (l := T) (i := p) (by omega)
        obtain ⟨y, hy⟩ := get_lt (l := M) (i := p) (by omega)
        obtain ⟨a1, c1, x3⟩ := x
        obtain ⟨⟨b1, b2, b3⟩, ⟨an, cn, l2⟩⟩ := y
        obtain ⟨hs1, hs2⟩ := hM.at_ p _ _ hx hy
        simp only [Prod.mk.injEq] at hs1 hs2
        obtain ⟨rfl, rfl, rfl⟩ := hs1
        subst hs2
        have hxb : x3.length ≤ 100000000 := hb2 _ (List.mem_of_getElem? hx)
        have hyM := List.mem_of_getElem? hy
        have hyp : (M.map (·.2))[p]? = some (an, cn, (mks (wmT p) x3.length ++ mks (wvT p) 20)) := by rw [List.getElem?_map, hy]; rfl
        have hll : (mks (wmT p) x3.length ++ mks (wvT p) 20).length = x3.length + 20 := by rw [List.length_append, mks_len, mks_len]
        refine s_f2A (M := M) (by with_reducible (repeat (first | exact Take.here | apply Take.there))) hy (mks_take _ _ _) fun hfx => ?_
        refine c_skip ?_
        refine k_then_n ?_
        refine c_seq ?_
        refine c_block ?_
        refine c_seq ?_
        refine c_plain (.q 0 (.done)) (by kernel_rfl) ?_
        refine q_assign rfl rfl rfl rfl ?_
        refine r_done ?_
        refine s_keep [0, 1, 9, 12, 16, 17] (e' := [(0, _), (1, _), (9, _), (12, _), (16, _), (17, _)]) rfl ?_
        refine k_then_n ?_
        refine c_block ?_
        refine c_loop2 (α := Nat) (fun (k : Nat) => k ≤ x3.length + 20) (fun (k : Nat) => [(17, .int .i64 ((k : Nat) : Int))]) (fun (k : Nat) => []) (fun (k : Nat) => x3.length + 20 - k) [0, 1, 9, 12, 16] (er := [(0, _), (1, _), (9, _), (12, _), (16, _)]) rfl (0) ?_ (by exact ⟨rfl, trivial⟩) (by (try dsimp only); (try simp only [Nat.add_zero, Nat.zero_add]); (repeat ((with_reducible apply Takes.cons); focus (first | (with_reducible (repeat (first | exact Take.here | apply Take.there)); done) | (repeat (first | exact Take.here | apply Take.there))))); exact Takes.nil) ?_
        · exact Nat.zero_le _
        rintro k hle_k
        try simp only [List.cons_append, List.nil_append]
        refine c_seq ?_
        refine c_seq ?_
        refine c_plain (.q 0 (.q 1 (.q 2 (.q 3 (.q 4 (.q 5 (.q 6 (.done)))))))) (by kernel_rfl) ?_
        refine q_move rfl rfl rfl rfl ?_
        refine q_move rfl rfl rfl rfl ?_
        refine q_move rfl rfl rfl rfl ?_
        refine q_idxO (sz := 0) (k := p) (enc := encHZ) (xs := (M.map (·.2))) rfl rfl rfl rfl rfl Try.underlying49 Try.sizeOf53 hyp (by first | rfl | omega) (by omega) (by with_reducible (repeat (first | exact Take.here | apply Take.there))) ?_
        intro ib121 io121 ha121 hl121 hc121
        refine q_load_O (v := (.slice an ((mks (wmT p) x3.length ++ mks (wvT p) 20).length) cn)) (j := 0) (k' := p) (enc := encHZ) (off := io121) rfl rfl rfl rfl Try.isAgg53 ha121 encHZ_len hyp (by with_reducible (repeat (first | exact Take.here | apply Take.there))) (by first | rfl | exact (Nat.add_zero _).symm | omega) (by rfl) ?_
        refine q_len rfl rfl rfl rfl Try.underlying53 ?_
        refine q_int rfl rfl rfl rfl rfl (b_lss _ _ _ _) ?_
        refine r_done ?_
        refine s_keep [0, 1, 9, 12, 16, 17, 124] (e' := [(0, _), (1, _), (9, _), (12, _), (16, _), (17, _), (124, _)]) rfl ?_
        refine k_then_n ?_
        refine c_cond_p rfl (fun hlk => ?_) (fun hlk => ?_)
        · skip
          have hlk : k < x3.length + 20 := by
            have h1 := hlk
            omega
          refine c_skip ?_
          refine k_then_n ?_
          refine c_seq ?_
          refine c_block ?_
          refine c_seq ?_
          refine c_plain (.q 0 (.q 1 (.q 2 (.q 3 (.q 4 (.q 5 (.q 6 (.q 7 (.q 8 (.q 9 (.q 10 (.q 11 (.q 12 (.q 13 (.q 14 (.q 15 (.q 16 (.q 17 (.q 18 (.q 19 (.q 20 (.q 21 (.q 22 (.q 23 (.q 24 (.q 25 (.q 26 (.q 27 (.q 28 (.q 29 (.q 30 (.q 31 (.q 32 (.q 33 (.q 34 (.q 35 (.q 36 (.q 37 (.q 38 (.q 39 (.q 40 (.q 41 (.q 42 (.q 43 (.q 44 (.q 45 (.q 46 (.q 47 (.q 48 (.q 49 (.q 50 (.q 51 (.done))))))))))))))))))))))))))))))))))))))))))))))))))))) (by kernel_rfl) ?_
          refine q_move rfl rfl rfl rfl ?_
          refine q_move rfl rfl rfl rfl ?_
          refine q_move rfl rfl rfl rfl ?_
          refine q_idxR (sz := 0) (k := p) rfl rfl rfl rfl rfl Try.underlying49 Try.sizeOf53 (hrT) hx encHZ_len (by first | rfl | omega) (by omega) ?_
          intro ib130 io130 _ hd130
          refine q_load rfl rfl rfl rfl Try.isAgg53 (by with_reducible (repeat (first | exact Take.here | apply Take.there))) (hd130 0 (.slice b1 x3.length b2) rfl) ?_
          refine q_len rfl rfl rfl rfl Try.underlying53 ?_
          refine q_int rfl rfl rfl rfl rfl (b_lss _ _ _ _) ?_
          refine q_move rfl rfl rfl rfl ?_
          refine s_bool_p 134 rfl (fun hkm => ?_) (fun hkm => ?_)
          · skip
            refine q_move rfl rfl rfl rfl ?_
            refine q_move rfl rfl rfl rfl ?_
            refine q_idxO (sz := 0) (k := p) (enc := encHZ) (xs := (M.map (·.2))) rfl rfl rfl rfl rfl Try.underlying49 Try.sizeOf53 hyp (by first | rfl | omega) (by omega) (by with_reducible (repeat (first | exact Take.here | apply Take.there))) ?_
            intro ib137 io137 ha137 hl137 hc137
            refine q_load_O (v := (.slice an ((mks (wmT p) x3.length ++ mks (wvT p) 20).length) cn)) (j := 0) (k' := p) (enc := encHZ) (off := io137) rfl rfl rfl rfl Try.isAgg53 ha137 encHZ_len hyp (by with_reducible (repeat (first | exact Take.here | apply Take.there))) (by first | rfl | exact (Nat.add_zero _).symm | omega) (by rfl) ?_
            refine q_move rfl rfl rfl rfl ?_
            refine q_idxR (sz := 0) (k := k) rfl rfl rfl rfl rfl Try.underlying53 Try.sizeOf3 (rds_big (f := f2A 1 encZ) hyM (rds_app2_l encZ_len hfx.1.1 hfx.1.2)) (mk2_lo (f := wmT p) (g := wvT p) (n := x3.length) (m := 20) (k := k) (by omega)) encZ_len (by first | rfl | omega) (by omega) ?_
            intro ib140 io140 _ hd140
            refine q_load rfl rfl rfl rfl Try.isAgg3 (by with_reducible (repeat (first | exact Take.here | apply Take.there))) (hd140 0 (.int .i64 (wmT p k)) rfl) ?_
            refine q_move rfl rfl rfl rfl ?_
            refine q_int rfl rfl rfl rfl rfl (b_sub' _ (by (first | exact fits_i64 (by omega) (by omega) | exact fits_u64 (by omega) (by omega) | exact fits_u32 (by omega) (by omega) | exact fits_u8 (by omega) (by omega)))) ?_
            refine q_int rfl rfl rfl rfl rfl (b_neq _ _ _ _) ?_
            refine q_move rfl rfl rfl rfl ?_
            refine s_bool_p 145 rfl (fun hg => by exfalso; first | omega | (apply hg; first | rfl | (simp only [wmT, wvT]; omega)) | (simp only [wmT, wvT] at hg; omega)) (fun hg => ?_)
            refine q_move rfl rfl rfl rfl ?_
            refine q_move rfl rfl rfl rfl ?_
            refine q_idxR (sz := 0) (k := p) rfl rfl rfl rfl rfl Try.underlying49 Try.sizeOf53 (hrT) hx encHZ_len (by first | rfl | omega) (by omega) ?_
            intro ib148 io148 _ hd148
            refine q_load rfl rfl rfl rfl Try.isAgg53 (by with_reducible (repeat (first | exact Take.here | apply Take.there))) (hd148 0 (.slice b1 x3.length b2) rfl) ?_
            refine q_move rfl rfl rfl rfl ?_
            refine q_idxR (sz := 0) (k := k) rfl rfl rfl rfl rfl Try.underlying53 Try.sizeOf3 (rds_big (f := f2A 1 encZ) hyM (rds_app2_r encZ_len (mks_take _ _ _) hfx.2.1 hfx.2.2)) (mks_get (wmT p) (n := x3.length) (k := k) (by omega)) encZ_len (by first | rfl | omega) (by omega) ?_
            intro ib151 io151 _ hd151
            refine q_load rfl rfl rfl rfl Try.isAgg3 (by with_reducible (repeat (first | exact Take.here | apply Take.there))) (hd151 0 (.int .i64 (wmT p k)) rfl) ?_
            refine q_move rfl rfl rfl rfl ?_
            refine q_int rfl rfl rfl rfl rfl (b_sub' _ (by (first | exact fits_i64 (by omega) (by omega) | exact fits_u64 (by omega) (by omega) | exact fits_u32 (by omega) (by omega) | exact fits_u8 (by omega) (by omega)))) ?_
            refine q_int rfl rfl rfl rfl rfl (b_neq _ _ _ _) ?_
            refine q_pick_f rfl rfl rfl rfl rfl ?_
            refine q_pick_t rfl rfl rfl rfl rfl ?_
            refine q_move rfl rfl rfl rfl ?_
            refine s_bool_p 158 rfl (fun hg => by exfalso; first | omega | (apply hg; first | rfl | (simp only [wmT, wvT]; omega)) | (simp only [wmT, wvT] at hg; omega)) (fun hg => ?_)
            refine q_move rfl rfl rfl rfl ?_
            refine q_move rfl rfl rfl rfl ?_
            refine q_move rfl rfl rfl rfl ?_
            refine q_idxR (sz := 0) (k := p) rfl rfl rfl rfl rfl Try.underlying49 Try.sizeOf53 (hrT) hx encHZ_len (by first | rfl | omega) (by omega) ?_
            intro ib162 io162 _ hd162
            refine q_load rfl rfl rfl rfl Try.isAgg53 (by with_reducible (repeat (first | exact Take.here | apply Take.there))) (hd162 0 (.slice b1 x3.length b2) rfl) ?_
            refine q_len rfl rfl rfl rfl Try.underlying53 ?_
            refine q_int rfl rfl rfl rfl rfl (b_geq _ _ _ _) ?_
            refine q_move rfl rfl rfl rfl ?_
            refine s_bool_p 166 rfl (fun hg39 => by exfalso; omega) (fun hg39 => ?_)
            refine q_skip rfl rfl rfl rfl ?_
            refine q_skip rfl rfl rfl rfl ?_
            refine q_skip rfl rfl rfl rfl ?_
            refine q_skip rfl rfl rfl rfl ?_
            refine q_skip rfl rfl rfl rfl ?_
            refine q_skip rfl rfl rfl rfl ?_
            refine q_skip rfl rfl rfl rfl ?_
            refine q_skip rfl rfl rfl rfl ?_
            refine q_skip rfl rfl rfl rfl ?_
            refine q_skip rfl rfl rfl rfl ?_
            refine q_pick_f rfl rfl rfl rfl rfl ?_
            refine q_pick_f rfl rfl rfl rfl rfl ?_
            refine r_done ?_
            refine s_keep [0, 1, 9, 12, 16, 17, 135, 136, 137, 138, 139, 140, 141, 142, 143, 144, 145, 146, 147, 148, 149, 150, 151, 152, 153, 154, 155, 156, 159, 160, 161, 162, 163, 164, 165, 166, 167, 168, 169, 170, 171, 172, 173, 174, 175, 176, 177, 178] (e' := [(0, _), (1, _), (9, _), (12, _), (16, _), (17, _), (135, _), (136, _), (137, _), (138, _), (139, _), (140, _), (141, _), (142, _), (143, _), (144, _), (145, _), (146, _), (147, _), (148, _), (149, _), (150, _), (151, _), (152, _), (153, _), (154, _), (155, _), (156, _), (159, _), (160, _), (161, _), (162, _), (163, _), (164, _), (165, _), (166, _), (167, _), (168, _), (169, _), (170, _), (171, _), (172, _), (173, _), (174, _), (175, _), (176, _), (177, _), (178, _)]) rfl ?_
            refine k_then_n ?_
            refine c_cond_f rfl ?_
            refine c_skip ?_
            refine k_blk_n ?_
            refine k_then_n ?_
            refine c_plain (.q 0 (.q 1 (.q 2 (.done)))) (by kernel_rfl) ?_
            refine q_move rfl rfl rfl rfl ?_
            refine q_int rfl rfl rfl rfl rfl (b_add' _ (by (first | exact fits_i64 (by omega) (by omega) | exact fits_u64 (by omega) (by omega) | exact fits_u32 (by omega) (by omega) | exact fits_u8 (by omega) (by omega)))) ?_
            refine q_assign rfl rfl rfl rfl ?_
            refine r_done ?_
            refine k_then_n ?_
            refine loop_next (x := k) (k + 1) ?_ ?_ ?_ ?_
            · exact by show k + 1 ≤ x3.length + 20; omega
            · show x3.length + 20 - (k + 1) < x3.length + 20 - k; omega
            · exact ⟨rfl, rfl, rfl, rfl, rfl, rfl, trivial⟩
            · (try simp only [List.cons_append, List.nil_append]); (repeat ((with_reducible apply Takes.cons); focus (first | (with_reducible (repeat (first | exact Take.here | apply Take.there)); done) | (repeat (first | exact Take.here | apply Take.there))))); (repeat (first | exact Takes.nil | exact Takes.self | refine takes_drop2 ?_))
          · skip
            refine q_skip rfl rfl rfl rfl ?_
            refine q_skip rfl rfl rfl rfl ?_
            refine q_skip rfl rfl rfl rfl ?_
            refine q_skip rfl rfl rfl rfl ?_
            refine q_skip rfl rfl rfl rfl ?_
            refine q_skip rfl rfl rfl rfl ?_
            refine q_skip rfl rfl rfl rfl ?_
            refine q_skip rfl rfl rfl rfl ?_
            refine q_skip rfl rfl rfl rfl ?_
            refine q_skip rfl rfl rfl rfl ?_
            refine q_skip rfl rfl rfl rfl ?_
            refine q_skip rfl rfl rfl rfl ?_
            refine q_skip rfl rfl rfl rfl ?_
            refine q_skip rfl rfl rfl rfl ?_
            refine q_skip rfl rfl rfl rfl ?_
            refine q_skip rfl rfl rfl rfl ?_
            refine q_skip rfl rfl rfl rfl ?_
            refine q_skip rfl rfl rfl rfl ?_
            refine q_skip rfl rfl rfl rfl ?_
            refine q_skip rfl rfl rfl rfl ?_
            refine q_skip rfl rfl rfl rfl ?_
            refine q_skip rfl rfl rfl rfl ?_
            refine q_pick_f rfl rfl rfl rfl rfl ?_
            refine q_move rfl rfl rfl rfl ?_
            refine q_move rfl rfl rfl rfl ?_
            refine q_move rfl rfl rfl rfl ?_
            refine q_move rfl rfl rfl rfl ?_
            refine q_idxR (sz := 0) (k := p) rfl rfl rfl rfl rfl Try.underlying49 Try.sizeOf53 (hrT) hx encHZ_len (by first | rfl | omega) (by omega) ?_
            intro ib162 io162 _ hd162
            refine q_load rfl rfl rfl rfl Try.isAgg53 (by with_reducible (repeat (first | exact Take.here | apply Take.there))) (hd162 0 (.slice b1 x3.length b2) rfl) ?_
            refine q_len rfl rfl rfl rfl Try.underlying53 ?_
            refine q_int rfl rfl rfl rfl rfl (b_geq _ _ _ _) ?_
            refine q_move rfl rfl rfl rfl ?_
            refine s_bool_p 166 rfl (fun hg39 => ?_) (fun hg39 => by exfalso; omega)
            refine q_move rfl rfl rfl rfl ?_
            refine q_move rfl rfl rfl rfl ?_
            refine q_idxO (sz := 0) (k := p) (enc := encHZ) (xs := (M.map (·.2))) rfl rfl rfl rfl rfl Try.underlying49 Try.sizeOf53 hyp (by first | rfl | omega) (by omega) (by with_reducible (repeat (first | exact Take.here | apply Take.there))) ?_
            intro ib169 io169 ha169 hl169 hc169
            refine q_load_O (v := (.slice an ((mks (wmT p) x3.length ++ mks (wvT p) 20).length) cn)) (j := 0) (k' := p) (enc := encHZ) (off := io169) rfl rfl rfl rfl Try.isAgg53 ha169 encHZ_len hyp (by with_reducible (repeat (first | exact Take.here | apply Take.there))) (by first | rfl | exact (Nat.add_zero _).symm | omega) (by rfl) ?_
            refine q_move rfl rfl rfl rfl ?_
            refine q_idxR (sz := 0) (k := k) rfl rfl rfl rfl rfl Try.underlying53 Try.sizeOf3 (rds_big (f := f2A 1 encZ) hyM (rds_app2_l encZ_len hfx.1.1 hfx.1.2)) (mk2_hi (f := wmT p) (g := wvT p) (n := x3.length) (m := 20) (k := k) (by omega) (by omega)) encZ_len (by first | rfl | omega) (by omega) ?_
            intro ib172 io172 _ hd172
            refine q_load rfl rfl rfl rfl Try.isAgg3 (by with_reducible (repeat (first | exact Take.here | apply Take.there))) (hd172 0 (.int .i64 (wvT p (k - x3.length))) rfl) ?_
            refine q_move rfl rfl rfl rfl ?_
            refine q_int rfl rfl rfl rfl rfl (b_sub' _ (by (first | exact fits_i64 (by omega) (by omega) | exact fits_u64 (by omega) (by omega) | exact fits_u32 (by omega) (by omega) | exact fits_u8 (by omega) (by omega)))) ?_
            refine q_int rfl rfl rfl rfl rfl (b_neq _ _ _ _) ?_
            refine q_pick_t rfl rfl rfl rfl rfl ?_
            refine q_pick_f rfl rfl rfl rfl rfl ?_
            refine r_done ?_
            refine s_keep [0, 1, 9, 12, 16, 17, 135, 136, 137, 138, 139, 140, 141, 142, 143, 144, 145, 146, 147, 148, 149, 150, 151, 152, 153, 154, 155, 156, 159, 160, 161, 162, 163, 164, 165, 166, 167, 168, 169, 170, 171, 172, 173, 174, 175, 176, 177, 178] (e' := [(0, _), (1, _), (9, _), (12, _), (16, _), (17, _), (135, _), (136, _), (137, _), (138, _), (139, _), (140, _), (141, _), (142, _), (143, _), (144, _), (145, _), (146, _), (147, _), (148, _), (149, _), (150, _), (151, _), (152, _), (153, _), (154, _), (155, _), (156, _), (159, _), (160, _), (161, _), (162, _), (163, _), (164, _), (165, _), (166, _), (167, _), (168, _), (169, _), (170, _), (171, _), (172, _), (173, _), (174, _), (175, _), (176, _), (177, _), (178, _)]) rfl ?_
            refine k_then_n ?_
            refine c_cond_p rfl (fun hg => by exfalso; first | omega | (apply hg; first | rfl | (simp only [wmT, wvT]; omega)) | (simp only [wmT, wvT] at hg; omega)) (fun hg => ?_)
            refine c_skip ?_
            refine k_blk_n ?_
            refine k_then_n ?_
            refine c_plain (.q 0 (.q 1 (.q 2 (.done)))) (by kernel_rfl) ?_
            refine q_move rfl rfl rfl rfl ?_
            refine q_int rfl rfl rfl rfl rfl (b_add' _ (by (first | exact fits_i64 (by omega) (by omega) | exact fits_u64 (by omega) (by omega) | exact fits_u32 (by omega) (by omega) | exact fits_u8 (by omega) (by omega)))) ?_
            refine q_assign rfl rfl rfl rfl ?_
            refine r_done ?_
            refine k_then_n ?_
            refine loop_next (x := k) (k + 1) ?_ ?_ ?_ ?_
            · exact by show k + 1 ≤ x3.length + 20; omega
            · show x3.length + 20 - (k + 1) < x3.length + 20 - k; omega
            · exact ⟨rfl, rfl, rfl, rfl, rfl, rfl, trivial⟩
            · (try simp only [List.cons_append, List.nil_append]); (repeat ((with_reducible apply Takes.cons); focus (first | (with_reducible (repeat (first | exact Take.here | apply Take.there)); done) | (repeat (first | exact Take.here | apply Take.there))))); (repeat (first | exact Takes.nil | exact Takes.self | refine takes_drop2 ?_))
        · skip
          refine c_exit ?_
          refine k_then_exit ?_
          refine k_then_exit ?_
          refine k_blk_here ?_
          refine k_blk_n ?_
          refine k_then_n ?_
          refine c_plain (.q 0 (.q 1 (.q 2 (.done)))) (by kernel_rfl) ?_
          refine q_move rfl rfl rfl rfl ?_
          refine q_int rfl rfl rfl rfl rfl (b_add' _ (by (first | exact fits_i64 (by omega) (by omega) | exact fits_u64 (by omega) (by omega) | exact fits_u32 (by omega) (by omega) | exact fits_u8 (by omega) (by omega)))) ?_
          refine q_assign rfl rfl rfl rfl ?_
          refine r_done ?_
          refine s_keep [0, 1, 9, 12, 16] (e' := [(0, _), (1, _), (9, _), (12, _), (16, _)]) rfl ?_
          refine k_then_n ?_
          refine loop_next (x := p) (p + 1) ?_ ?_ ?_ ?_
          · exact by show p + 1 ≤ m; omega
          · show m - (p + 1) < m - p; omega
          · exact ⟨rfl, rfl, rfl, rfl, rfl, trivial⟩
          · (try simp only [List.cons_append, List.nil_append]); (repeat ((with_reducible apply Takes.cons); focus (first | (with_reducible (repeat (first | exact Take.here | apply Take.there)); done) | (repeat (first | exact Take.here | apply Take.there))))); (repeat (first | exact Takes.nil | exact Takes.self | refine takes_drop2 ?_))
      · skip
        refine c_exit ?_
        refine k_then_exit ?_
        refine k_then_exit ?_
        refine k_blk_here ?_
        refine k_then_n ?_
        refine c_seq ?_
        refine c_plain (.q 0 ((.l 1 [] (.q 2 ((.l 3 [] ((.l 4 [] (.q 5 (.q 6 ((.l 7 [] (.q 8 ((.l 9 [] ((.l 10 [] (.q 11 (.q 12 (.done)))))))))))))))))))) (by kernel_rfl) ?_
        refine q_move rfl rfl rfl rfl ?_
        have sp_23 := order_spec b x hx.ok
        refine l_call rfl rfl rfl rfl rfl rfl Try.call25 (sp_23) (by (repeat ((with_reducible apply Takes.cons); focus (first | (with_reducible (repeat (first | exact Take.here | apply Take.there)); done) | (repeat (first | exact Take.here | apply Take.there))))); exact Takes.nil) ?_
        rintro ⟨oua, ouc, ous⟩ hoou
        simp only at hoou
        obtain rfl : oos = ous := ord_eq hooo hoou
        try simp only [List.cons_append, List.nil_append]
        refine ag_nil ?_
        refine q_move rfl rfl rfl rfl ?_
        have sp_24 := rorder_spec q x hx
        refine l_call rfl rfl rfl rfl rfl rfl Try.call56 (sp_24) (by (repeat ((with_reducible apply Takes.cons); focus (first | (with_reducible (repeat (first | exact Take.here | apply Take.there)); done) | (repeat (first | exact Take.here | apply Take.there))))); exact Takes.nil) ?_
        rintro ⟨ova, ovc, ovs⟩ hoov
        simp only at hoov
        obtain rfl : oos = ovs := ord_eq hooo hoov
        try simp only [List.cons_append, List.nil_append]
        refine ag_nil ?_
        refine s_take (A := own 1 encZ oua ouc oos) (by with_reducible (repeat (first | exact Take.here | apply Take.there))) ?_
        refine own_fc fun f_25a f_25b f_25c => ?_
        refine s_take (A := own 1 encZ ova ovc oos) (by with_reducible (repeat (first | exact Take.here | apply Take.there))) ?_
        refine own_fc fun f_26a f_26b f_26c => ?_
        refine s_heap (fun _ h => Bun.fold ((by (repeat ((with_reducible apply Takes.cons); focus (first | (with_reducible (repeat (first | exact Take.here | apply Take.there)); done) | (repeat (first | exact Take.here | apply Take.there))))); exact Takes.nil : Takes _ [own 1 encZ oua ouc oos, own 1 encZ ova ovc oos] _) _ h)) ?_
        have sp_27 := samei_spec oos oos oua ova x.rk.length x.rk.length ouc ovc (Bun [own 1 encZ oua ouc oos, own 1 encZ ova ovc oos]) (by first | rfl | assumption | omega | (simp; done) | (simp; omega)) (rds_bun (List.mem_cons_self) (rds_own encZ_len (fun h => (f_25b h).1) f_25c)) (by first | rfl | assumption | omega | (simp; done) | (simp; omega)) (rds_bun (List.mem_cons_of_mem _ (List.mem_cons_self)) (rds_own encZ_len (fun h => (f_26b h).1) f_26c)) (by omega)
        refine l_call rfl rfl rfl rfl rfl rfl Try.call29 (sp_27) (by (repeat ((with_reducible apply Takes.cons); focus (first | (with_reducible (repeat (first | exact Take.here | apply Take.there)); done) | (repeat (first | exact Take.here | apply Take.there))))); exact Takes.nil) ?_
        rintro ⟨⟩ -
        try simp only [List.cons_append, List.nil_append]
        refine s_take (A := Bun [own 1 encZ oua ouc oos, own 1 encZ ova ovc oos]) (by with_reducible (repeat (first | exact Take.here | apply Take.there))) ?_
        refine s_bun ?_
        try simp only [List.cons_append, List.nil_append]
        try simp only [List.cons_append, List.nil_append]
        refine ag_nil ?_
        refine q_move rfl rfl rfl rfl ?_
        refine s_bool_p 184 rfl (fun hg => ?_) (fun hg => by exfalso; first | exact hg rfl | exact hg trivial | simp at hg)
        refine q_move rfl rfl rfl rfl ?_
        have sp_28 := changes_spec b x hx.ok
        refine l_call rfl rfl rfl rfl rfl rfl Try.call23 (sp_28) (by (repeat ((with_reducible apply Takes.cons); focus (first | (with_reducible (repeat (first | exact Take.here | apply Take.there)); done) | (repeat (first | exact Take.here | apply Take.there))))); exact Takes.nil) ?_
        rintro ⟨cga, cgc⟩ -
        try simp only [List.cons_append, List.nil_append]
        refine ag_nil ?_
        refine q_move rfl rfl rfl rfl ?_
        have sp_29 := rchanges_spec q x hx.ok
        refine l_call rfl rfl rfl rfl rfl rfl Try.call57 (sp_29) (by (repeat ((with_reducible apply Takes.cons); focus (first | (with_reducible (repeat (first | exact Take.here | apply Take.there)); done) | (repeat (first | exact Take.here | apply Take.there))))); exact Takes.nil) ?_
        rintro ⟨cha, chc⟩ -
        try simp only [List.cons_append, List.nil_append]
        refine ag_nil ?_
        refine s_take (A := own 1 encZ cga cgc x.chs) (by with_reducible (repeat (first | exact Take.here | apply Take.there))) ?_
        refine own_fc fun f_30a f_30b f_30c => ?_
        refine s_take (A := own 1 encZ cha chc x.chs) (by with_reducible (repeat (first | exact Take.here | apply Take.there))) ?_
        refine own_fc fun f_31a f_31b f_31c => ?_
        refine s_heap (fun _ h => Bun.fold ((by (repeat ((with_reducible apply Takes.cons); focus (first | (with_reducible (repeat (first | exact Take.here | apply Take.there)); done) | (repeat (first | exact Take.here | apply Take.there))))); exact Takes.nil : Takes _ [own 1 encZ cga cgc x.chs, own 1 encZ cha chc x.chs] _) _ h)) ?_
        have sp_32 := samei_spec x.chs x.chs cga cha x.chs.length x.chs.length cgc chc (Bun [own 1 encZ cga cgc x.chs, own 1 encZ cha chc x.chs]) (by first | rfl | assumption | omega | (simp; done) | (simp; omega)) (rds_bun (List.mem_cons_self) (rds_own encZ_len (fun h => (f_30b h).1) f_30c)) (by first | rfl | assumption | omega | (simp; done) | (simp; omega)) (rds_bun (List.mem_cons_of_mem _ (List.mem_cons_self)) (rds_own encZ_len (fun h => (f_31b h).1) f_31c)) (by omega)
        refine l_call rfl rfl rfl rfl rfl rfl Try.call29 (sp_32) (by (repeat ((with_reducible apply Takes.cons); focus (first | (with_reducible (repeat (first | exact Take.here | apply Take.there)); done) | (repeat (first | exact Take.here | apply Take.there))))); exact Takes.nil) ?_
        rintro ⟨⟩ -
        try simp only [List.cons_append, List.nil_append]
        refine s_take (A := Bun [own 1 encZ cga cgc x.chs, own 1 encZ cha chc x.chs]) (by with_reducible (repeat (first | exact Take.here | apply Take.there))) ?_
        refine s_bun ?_
        try simp only [List.cons_append, List.nil_append]
        try simp only [List.cons_append, List.nil_append]
        refine ag_nil ?_
        refine q_pick_t rfl rfl rfl rfl rfl ?_
        refine q_assign rfl rfl rfl rfl ?_
        refine r_done ?_
        refine s_keep [4] (e' := [(4, _)]) rfl ?_
        refine k_then_n ?_
        refine c_ret ?_
        refine ret1 rfl rfl (()) (by first | rfl | (first | rfl | (congr 1; done) | (congr 1 <;> first | rfl | omega | (simp; done) | (simp; omega)))) (by trivial) ?_
        (repeat ((with_reducible apply Takes.cons); focus (first | (with_reducible (repeat (first | exact Take.here | apply Take.there)); done) | (repeat (first | exact Take.here | apply Take.there))))); (repeat (first | exact Takes.nil | exact Takes.self | refine takes_drop2 ?_))
end Go.Ab.Sc
