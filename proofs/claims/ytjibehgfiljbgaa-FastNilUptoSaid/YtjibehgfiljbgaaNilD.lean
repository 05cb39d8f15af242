/- What the law Nil rests on, part 4 of 4. -/
import Derived.Test.YtjibehgfiljbgaaNilC
import Derived.Test.YtjibehgfiljbgaaRows
import Derived.WalkKit
import Derived.ProofKit
import Derived.OpenShut
import Derived.JoinedCond
import Derived.Carry
set_option linter.unusedVariables false
set_option linter.unusedSimpArgs false
set_option maxRecDepth 100000
namespace Go.Ab.Fa
open Go Go.Proofs Go.Ab Go.Ab.Fe Go.Ab.Vc Go.Ab.Dj
theorem none_spec (b cb : Nat) (v1 v2 v3 v4 v5 v6 v7 : Value) : Spec Try.prog 32 [.pointer (some ⟨b, 0, none⟩)] [cells b 0 [.pointer (some ⟨cb, 0, none⟩), v1, v2, v3, v4, v5, v6, v7]] (fun (_ : Unit) => .bool false) (fun _ => True) (fun _ => [cells b 0 [.pointer (some ⟨cb, 0, none⟩), v1, v2, v3, v4, v5, v6, v7]]) := by
 refine spec_mk (n := 12) Try.func32 rfl rfl rfl ?_
 intro Γ w0
 simp only [argE, List.cons_append, List.nil_append, Nat.zero_add, Nat.reduceAdd]
 refine c_seq ?_
 refine c_plain (.q 0 (.done)) (by kernel_rfl) ?_
 refine q_assign rfl rfl rfl rfl ?_
 refine r_done ?_
 refine k_then_n ?_
 refine c_seq ?_
 refine c_plain (.q 0 (.q 1 (.q 2 (.q 3 (.q 4 (.q 5 (.q 6 (.q 7 (.q 8 (.q 9 (.done))))))))))) (by kernel_rfl) ?_
 refine q_move rfl rfl rfl rfl ?_
 refine q_eq_nil rfl rfl rfl rfl Try.underlying27 ?_
 refine s_eq 4 rfl (v' := .bool false) rfl ?_
 refine q_move rfl rfl rfl rfl ?_
 refine q_move rfl rfl rfl rfl ?_
 refine q_nil_p rfl rfl rfl rfl ?_
 refine q_field (k := 0) rfl rfl rfl rfl Try.underlying81 rfl Try.sizeOf76 rfl ?_
 refine q_load_c (j := 0) rfl rfl rfl rfl Try.isAgg76 Tk (by first | rfl | exact (Nat.add_zero _).symm) (by rfl) ?_
 refine q_eq_nil rfl rfl rfl rfl Try.underlying76 ?_
 refine s_eq 10 rfl (v' := .bool false) rfl ?_
 refine q_pick_f rfl rfl rfl rfl rfl ?_
 refine q_assign rfl rfl rfl rfl ?_
 refine r_done ?_
 refine s_keep [2] (e' := [(2, _)]) rfl ?_
 refine k_then_n ?_
 refine c_ret ?_
 refine ret1 rfl rfl (()) (by first | rfl | (first | rfl | (congr 1; done) | (congr 1 <;> first | rfl | omega | (simp; done) | (simp; omega)))) (by trivial) ?_
 exact Tf
theorem event_no (pa : Option Addr) (pc : Nat) (po : Option Addr) (poc b : Nat) (x : FS) (hx : FInv x) (hn : x.v.ck.n ≤ 100000000000000) (pl : List Int) (hpl : x.v.ck.pa = pl) (k t o : Int) (hc : ¬ canF x.v.ck k t o) : Spec Try.prog 14 [.pointer (some ⟨b, 0, none⟩), .agg #[.int .i64 k, .int .i64 t, .int .i64 o]] [dfR pa pc po poc b x, own 1 encZ pa pc pl, own 1 encZ po poc pl] (fun (_ : Unit) => .int .i64 6) (fun _ => True) (fun _ => [dfR pa pc po poc b x, own 1 encZ pa pc pl, own 1 encZ po poc pl]) := by
 refine spec_mk (n := 141) Try.func14 rfl rfl rfl ?_
 intro Γ w0
 simp only [argE, List.cons_append, List.nil_append, Nat.zero_add, Nat.reduceAdd]
 refine c_seq ?_
 refine c_plain ((.l 0 [] (.q 1 (.done)))) (by kernel_rfl) ?_
 refine l_box rfl rfl rfl rfl (us := [_, _, _]) rfl ?_
 intro b3
 refine ag_nil ?_
 refine q_assign rfl rfl rfl rfl ?_
 refine r_done ?_
 refine k_then_n ?_
 refine c_seq ?_
 refine c_seq ?_
 have hcc := hx.c0
 have hlen := hx.len
 have hn0 := hx.v.ck.n0
 refine s_take (A := dfR pa pc po poc b x) Tk ?_
 refine df_open fun cb m1 m2 m3 m4 va vc F1 F2 F3 F4 V hV => ?_
 refine c_plain (.q 0 ((.l 1 [] (.done)))) (by kernel_rfl) ?_
 refine q_move rfl rfl rfl rfl ?_
 have sp_1 := Fa.none_spec b cb (.slice po x.v.ck.pa.length poc) (.map (some m1)) (.map (some m2)) (.map (some m3)) (.map (some m4)) (.slice va x.vs.length vc) (.int .i64 x.cost)
 refine l_call rfl rfl rfl rfl rfl rfl Try.call32 (sp_1) Ts ?_
 rintro ⟨⟩ -
 try simp only [List.cons_append, List.nil_append]
 refine ag_nil ?_
 refine r_done ?_
 refine k_then_n ?_
 refine c_cond_f rfl ?_
 refine c_skip ?_
 refine k_then_n ?_
 refine c_seq ?_
 refine c_draw rfl (.q 0 (.q 1 (.q 2 (.q 3 (.q 4 (.q 5 ((.alt (.l 6 [] (.q 7 (.q 8 (.q 9 ((.l 10 [] ((.l 11 [] (.q 12 (.done)))))))))) (.l 10 [3, 5] ((.l 6 [] (.q 7 (.q 8 (.q 9 ((.l 11 [] (.q 12 (.done)))))))))))))))))) (by kernel_rfl) ?_
 refine q_move rfl rfl rfl rfl ?_
 refine q_nil_p rfl rfl rfl rfl ?_
 refine q_field (k := 0) rfl rfl rfl rfl Try.underlying81 rfl Try.sizeOf76 rfl ?_
 refine q_load_c (j := 0) rfl rfl rfl rfl Try.isAgg76 Tk (by first | rfl | exact (Nat.add_zero _).symm) (by rfl) ?_
 refine q_field (k := 1) rfl rfl rfl rfl Try.underlying36 rfl Try.sizeOf3 rfl ?_
 refine q_load_c (j := 1) rfl rfl rfl rfl Try.isAgg3 Tk (by first | rfl | exact (Nat.add_zero _).symm) (by rfl) ?_
 refine r_alt ?_ ?_
 ·
  have sp_2 := Fe.stand_spec pa pc cb x.v.ck t
  refine l_call rfl rfl rfl rfl rfl rfl Try.call45 (sp_2) Ts ?_
  rintro ⟨⟩ -
  try simp only [List.cons_append, List.nil_append]
  refine ag_nil ?_
  refine q_move rfl rfl rfl rfl ?_
  refine q_extract rfl rfl rfl rfl rfl ?_
  refine q_extract rfl rfl rfl rfl rfl ?_
  refine l_alloc rfl rfl rfl Try.zeroValue107 (zs := [.int .i64 0, .int .i64 0, .int .i64 0]) rfl ?_
  intro b5
  refine ag_nil ?_
  refine l_store (j := 0) rfl rfl rfl rfl Try.sizeOf107 (us := [_, _, _]) rfl rfl rfl Tk (by first | rfl | exact (Nat.add_zero _).symm) (by first | decide | (simp; done) | omega) ?_
  simp only [setL, List.set]
  refine ag_nil ?_
  refine q_assign rfl rfl rfl rfl ?_
  refine r_done ?_
  refine s_keep [0, 3, 5] (e' := [(0, _), (3, _), (5, _)]) rfl ?_
  refine k_then_n ?_
  refine c_seq ?_
  refine c_plain (.q 0 (.q 1 (.q 2 (.q 3 ((.l 4 [] (.q 5 (.done)))))))) (by kernel_rfl) ?_
  refine q_move rfl rfl rfl rfl ?_
  refine q_nil_p rfl rfl rfl rfl ?_
  refine q_field (k := 0) rfl rfl rfl rfl Try.underlying81 rfl Try.sizeOf76 rfl ?_
  refine q_load_c (j := 0) rfl rfl rfl rfl Try.isAgg76 Tk (by first | rfl | exact (Nat.add_zero _).symm) (by rfl) ?_
  have sp_3 := Fe.len_spec pa pc cb x.v.ck
  refine l_call rfl rfl rfl rfl rfl rfl Try.call46 (sp_3) Ts ?_
  rintro ⟨⟩ -
  try simp only [List.cons_append, List.nil_append]
  refine ag_nil ?_
  refine q_assign rfl rfl rfl rfl ?_
  refine r_done ?_
  refine s_keep [0, 3, 5, 7] (e' := [(0, _), (3, _), (5, _), (7, _)]) rfl ?_
  refine k_then_n ?_
  refine c_seq ?_
  refine c_seq ?_
  refine c_draw rfl (.q 0 (.q 1 (.q 2 (.q 3 (.q 4 ((.l 5 [] (.q 6 (.q 7 (.q 8 (.q 9 (.q 10 (.q 11 (.q 12 (.q 13 (.q 14 (.q 15 (.q 16 ((.l 17 [] (.q 18 (.q 19 (.q 20 (.q 21 ((.l 22 [] (.q 23 (.q 24 (.done))))))))))))))))))))))))))))) (by kernel_rfl) ?_
  refine q_move rfl rfl rfl rfl ?_
  refine q_nil_p rfl rfl rfl rfl ?_
  refine q_field (k := 0) rfl rfl rfl rfl Try.underlying81 rfl Try.sizeOf76 rfl ?_
  refine q_load_c (j := 0) rfl rfl rfl rfl Try.isAgg76 Tk (by first | rfl | exact (Nat.add_zero _).symm) (by rfl) ?_
  refine q_loadN_c rfl rfl rfl rfl Try.isAgg36 Try.sizeOf36 Tk 0 (us := [_, _, _]) (by first | rfl | exact (Nat.add_zero _).symm) rfl rfl ?_
  have sp_4 := Fe.can_spec pa pc cb x.v.ck hx.v.ck k t o
  refine l_call rfl rfl rfl rfl rfl rfl Try.call47 (sp_4) Ts ?_
  rintro ⟨⟩ -
  try simp only [List.cons_append, List.nil_append]
  refine ag_nil ?_
  refine q_not rfl rfl rfl rfl ?_
  refine q_move rfl rfl rfl rfl ?_
  refine s_bool_np 33 rfl (fun hg => ?_) (fun hg => by exfalso; exact hc hg)
  refine q_skip rfl rfl rfl rfl ?_
  refine q_skip rfl rfl rfl rfl ?_
  refine q_skip rfl rfl rfl rfl ?_
  refine q_skip rfl rfl rfl rfl ?_
  refine q_skip rfl rfl rfl rfl ?_
  refine q_skip rfl rfl rfl rfl ?_
  refine q_skip rfl rfl rfl rfl ?_
  refine q_skip rfl rfl rfl rfl ?_
  refine q_skip rfl rfl rfl rfl ?_
  refine l_skip rfl rfl rfl rfl ?_
  refine q_skip rfl rfl rfl rfl ?_
  refine q_skip rfl rfl rfl rfl ?_
  refine q_skip rfl rfl rfl rfl ?_
  refine q_skip rfl rfl rfl rfl ?_
  refine l_skip rfl rfl rfl rfl ?_
  refine q_skip rfl rfl rfl rfl ?_
  refine q_pick_t rfl rfl rfl rfl rfl ?_
  refine r_done ?_
  refine s_keep [0, 3, 5, 7, 50] (e' := [(0, _), (3, _), (5, _), (7, _), (50, _)]) rfl ?_
  refine k_then_n ?_
  refine c_cond_t rfl ?_
  refine c_seq ?_
  refine c_plain (.q 0 (.done)) (by kernel_rfl) ?_
  refine q_assign rfl rfl rfl rfl ?_
  refine r_done ?_
  refine s_keep [4] (e' := [(4, _)]) rfl ?_
  refine k_then_n ?_
  refine c_ret ?_
  refine k_then_ret ?_
  refine df_fold (b := b) x (pa := pa) (pc := pc) (po := po) (poc := poc) (cb := cb) (m1 := m1) (m2 := m2) (m3 := m3) (m4 := m4) (va := va) (vc := vc) (F1 := F1) (F2 := F2) (F3 := F3) (F4 := F4) (V := V) Ts (by rfl) (by rfl) (by rfl) (by first | exact hV | simp) ?_
  refine ret1 rfl rfl (()) (by first | rfl | (first | rfl | (congr 1; done) | (congr 1 <;> first | rfl | omega | (simp; done) | (simp; omega)))) (by trivial) ?_
  exact Tf
 refine l_alloc rfl rfl rfl Try.zeroValue107 (zs := [.int .i64 0, .int .i64 0, .int .i64 0]) rfl ?_
 intro b5
 refine ag_load_c (q := 0) rfl rfl rfl Try.isAgg76 Tk (by first | rfl | exact (Nat.add_zero _).symm) (by rfl) ?_
 refine ag_load_c (q := 1) rfl rfl rfl Try.isAgg3 Tk (by first | rfl | exact (Nat.add_zero _).symm) (by rfl) ?_
 refine ag_nil ?_
 have sp_5 := Fe.stand_spec pa pc cb x.v.ck t
 refine l_call rfl rfl rfl rfl rfl rfl Try.call45 (sp_5) Ts ?_
 rintro ⟨⟩ -
 try simp only [List.cons_append, List.nil_append]
 refine ag_nil ?_
 refine q_move rfl rfl rfl rfl ?_
 refine q_extract rfl rfl rfl rfl rfl ?_
 refine q_extract rfl rfl rfl rfl rfl ?_
 refine l_store (j := 0) rfl rfl rfl rfl Try.sizeOf107 (us := [_, _, _]) rfl rfl rfl Tk (by first | rfl | exact (Nat.add_zero _).symm) (by first | decide | (simp; done) | omega) ?_
 simp only [setL, List.set]
 refine ag_nil ?_
 refine q_assign rfl rfl rfl rfl ?_
 refine r_done ?_
 refine s_keep [0, 3, 5] (e' := [(0, _), (3, _), (5, _)]) rfl ?_
 refine k_then_n ?_
 refine c_seq ?_
 refine c_plain (.q 0 (.q 1 (.q 2 (.q 3 ((.l 4 [] (.q 5 (.done)))))))) (by kernel_rfl) ?_
 refine q_move rfl rfl rfl rfl ?_
 refine q_nil_p rfl rfl rfl rfl ?_
 refine q_field (k := 0) rfl rfl rfl rfl Try.underlying81 rfl Try.sizeOf76 rfl ?_
 refine q_load_c (j := 0) rfl rfl rfl rfl Try.isAgg76 Tk (by first | rfl | exact (Nat.add_zero _).symm) (by rfl) ?_
 have sp_6 := Fe.len_spec pa pc cb x.v.ck
 refine l_call rfl rfl rfl rfl rfl rfl Try.call46 (sp_6) Ts ?_
 rintro ⟨⟩ -
 try simp only [List.cons_append, List.nil_append]
 refine ag_nil ?_
 refine q_assign rfl rfl rfl rfl ?_
 refine r_done ?_
 refine s_keep [0, 3, 5, 7] (e' := [(0, _), (3, _), (5, _), (7, _)]) rfl ?_
 refine k_then_n ?_
 refine c_seq ?_
 refine c_seq ?_
 refine c_draw rfl (.q 0 (.q 1 (.q 2 (.q 3 (.q 4 ((.l 5 [] (.q 6 (.q 7 (.q 8 (.q 9 (.q 10 (.q 11 (.q 12 (.q 13 (.q 14 (.q 15 (.q 16 ((.l 17 [] (.q 18 (.q 19 (.q 20 (.q 21 ((.l 22 [] (.q 23 (.q 24 (.done))))))))))))))))))))))))))))) (by kernel_rfl) ?_
 refine q_move rfl rfl rfl rfl ?_
 refine q_nil_p rfl rfl rfl rfl ?_
 refine q_field (k := 0) rfl rfl rfl rfl Try.underlying81 rfl Try.sizeOf76 rfl ?_
 refine q_load_c (j := 0) rfl rfl rfl rfl Try.isAgg76 Tk (by first | rfl | exact (Nat.add_zero _).symm) (by rfl) ?_
 refine q_loadN_c rfl rfl rfl rfl Try.isAgg36 Try.sizeOf36 Tk 0 (us := [_, _, _]) (by first | rfl | exact (Nat.add_zero _).symm) rfl rfl ?_
 have sp_7 := Fe.can_spec pa pc cb x.v.ck hx.v.ck k t o
 refine l_call rfl rfl rfl rfl rfl rfl Try.call47 (sp_7) Ts ?_
 rintro ⟨⟩ -
 try simp only [List.cons_append, List.nil_append]
 refine ag_nil ?_
 refine q_not rfl rfl rfl rfl ?_
 refine q_move rfl rfl rfl rfl ?_
 refine s_bool_np 33 rfl (fun hg => ?_) (fun hg => by exfalso; exact hc hg)
 refine q_skip rfl rfl rfl rfl ?_
 refine q_skip rfl rfl rfl rfl ?_
 refine q_skip rfl rfl rfl rfl ?_
 refine q_skip rfl rfl rfl rfl ?_
 refine q_skip rfl rfl rfl rfl ?_
 refine q_skip rfl rfl rfl rfl ?_
 refine q_skip rfl rfl rfl rfl ?_
 refine q_skip rfl rfl rfl rfl ?_
 refine q_skip rfl rfl rfl rfl ?_
 refine l_skip rfl rfl rfl rfl ?_
 refine q_skip rfl rfl rfl rfl ?_
 refine q_skip rfl rfl rfl rfl ?_
 refine q_skip rfl rfl rfl rfl ?_
 refine q_skip rfl rfl rfl rfl ?_
 refine l_skip rfl rfl rfl rfl ?_
 refine q_skip rfl rfl rfl rfl ?_
 refine q_pick_t rfl rfl rfl rfl rfl ?_
 refine r_done ?_
 refine s_keep [0, 3, 5, 7, 50] (e' := [(0, _), (3, _), (5, _), (7, _), (50, _)]) rfl ?_
 refine k_then_n ?_
 refine c_cond_t rfl ?_
 refine c_seq ?_
 refine c_plain (.q 0 (.done)) (by kernel_rfl) ?_
 refine q_assign rfl rfl rfl rfl ?_
 refine r_done ?_
 refine s_keep [4] (e' := [(4, _)]) rfl ?_
 refine k_then_n ?_
 refine c_ret ?_
 refine k_then_ret ?_
 refine df_fold (b := b) x (pa := pa) (pc := pc) (po := po) (poc := poc) (cb := cb) (m1 := m1) (m2 := m2) (m3 := m3) (m4 := m4) (va := va) (vc := vc) (F1 := F1) (F2 := F2) (F3 := F3) (F4 := F4) (V := V) Ts (by rfl) (by rfl) (by rfl) (by first | exact hV | simp) ?_
 refine ret1 rfl rfl (()) (by first | rfl | (first | rfl | (congr 1; done) | (congr 1 <;> first | rfl | omega | (simp; done) | (simp; omega)))) (by trivial) ?_
 exact Tf
theorem event_max (pa : Option Addr) (pc : Nat) (po : Option Addr) (poc b : Nat) (x : FS) (hx : FInv x) (hn : x.v.ck.n ≤ 100000000000000) (pl : List Int) (hpl : x.v.ck.pa = pl) (k : Int) (t : Nat) (o : Int) (hc : canF x.v.ck k ((t : Nat) : Int) o) (hv : ¬ vcanF x.v k ((t : Nat) : Int) o) : Spec Try.prog 14 [.pointer (some ⟨b, 0, none⟩), .agg #[.int .i64 k, .int .i64 ((t : Nat) : Int), .int .i64 o]] [dfR pa pc po poc b x, own 1 encZ pa pc pl, own 1 encZ po poc pl] (fun (_ : Unit) => .int .i64 6) (fun _ => True) (fun _ => [dfR pa pc po poc b x, own 1 encZ pa pc pl, own 1 encZ po poc pl]) := by
 refine spec_mk (n := 141) Try.func14 rfl rfl rfl ?_
 intro Γ w0
 simp only [argE, List.cons_append, List.nil_append, Nat.zero_add, Nat.reduceAdd]
 refine c_seq ?_
 refine c_plain ((.l 0 [] (.q 1 (.done)))) (by kernel_rfl) ?_
 refine l_box rfl rfl rfl rfl (us := [_, _, _]) rfl ?_
 intro b3
 refine ag_nil ?_
 refine q_assign rfl rfl rfl rfl ?_
 refine r_done ?_
 refine k_then_n ?_
 refine c_seq ?_
 refine c_seq ?_
 have hcc := hx.c0
 have hlen := hx.len
 have hn0 := hx.v.ck.n0
 obtain ⟨l, hth⟩ := th_some hx.v (can_th hc)
 obtain ⟨h0, h1⟩ := th_rng hx.v (can_th hc)
 have hlc := hx.v.thc _ _ hth
 have hll := hlc.len
 have hvm := vmax hc hth hlc
 rw [Int.toNat_natCast] at hvm
 have hl1 := hx.own _ _ hth
 rw [Int.toNat_natCast] at hl1
 have hlg := g_rng hlc.rng (by decide) t
 have htn : t < 65535 := by omega
 refine s_take (A := dfR pa pc po poc b x) Tk ?_
 refine df_open fun cb m1 m2 m3 m4 va vc F1 F2 F3 F4 V hV => ?_
 refine c_plain (.q 0 ((.l 1 [] (.done)))) (by kernel_rfl) ?_
 refine q_move rfl rfl rfl rfl ?_
 have sp_1 := Fa.none_spec b cb (.slice po x.v.ck.pa.length poc) (.map (some m1)) (.map (some m2)) (.map (some m3)) (.map (some m4)) (.slice va x.vs.length vc) (.int .i64 x.cost)
 refine l_call rfl rfl rfl rfl rfl rfl Try.call32 (sp_1) Ts ?_
 rintro ⟨⟩ -
 try simp only [List.cons_append, List.nil_append]
 refine ag_nil ?_
 refine r_done ?_
 refine k_then_n ?_
 refine c_cond_f rfl ?_
 refine c_skip ?_
 refine k_then_n ?_
 refine c_seq ?_
 refine c_draw rfl (.q 0 (.q 1 (.q 2 (.q 3 (.q 4 (.q 5 ((.alt (.l 6 [] (.q 7 (.q 8 (.q 9 ((.l 10 [] ((.l 11 [] (.q 12 (.done)))))))))) (.l 10 [3, 5] ((.l 6 [] (.q 7 (.q 8 (.q 9 ((.l 11 [] (.q 12 (.done)))))))))))))))))) (by kernel_rfl) ?_
 refine q_move rfl rfl rfl rfl ?_
 refine q_nil_p rfl rfl rfl rfl ?_
 refine q_field (k := 0) rfl rfl rfl rfl Try.underlying81 rfl Try.sizeOf76 rfl ?_
 refine q_load_c (j := 0) rfl rfl rfl rfl Try.isAgg76 Tk (by first | rfl | exact (Nat.add_zero _).symm) (by rfl) ?_
 refine q_field (k := 1) rfl rfl rfl rfl Try.underlying36 rfl Try.sizeOf3 rfl ?_
 refine q_load_c (j := 1) rfl rfl rfl rfl Try.isAgg3 Tk (by first | rfl | exact (Nat.add_zero _).symm) (by rfl) ?_
 refine r_alt ?_ ?_
 ·
  have sp_2 := Fe.stand_spec pa pc cb x.v.ck ((t : Nat) : Int)
  refine l_call rfl rfl rfl rfl rfl rfl Try.call45 (sp_2) Ts ?_
  rintro ⟨⟩ -
  try simp only [List.cons_append, List.nil_append]
  refine ag_nil ?_
  refine q_move rfl rfl rfl rfl ?_
  refine q_extract rfl rfl rfl rfl rfl ?_
  refine q_extract rfl rfl rfl rfl rfl ?_
  refine l_alloc rfl rfl rfl Try.zeroValue107 (zs := [.int .i64 0, .int .i64 0, .int .i64 0]) rfl ?_
  intro b5
  refine ag_nil ?_
  refine l_store (j := 0) rfl rfl rfl rfl Try.sizeOf107 (us := [_, _, _]) rfl rfl rfl Tk (by first | rfl | exact (Nat.add_zero _).symm) (by first | decide | (simp; done) | omega) ?_
  simp only [setL, List.set]
  refine ag_nil ?_
  refine q_assign rfl rfl rfl rfl ?_
  refine r_done ?_
  refine s_keep [0, 3, 5] (e' := [(0, _), (3, _), (5, _)]) rfl ?_
  refine k_then_n ?_
  refine c_seq ?_
  refine c_plain (.q 0 (.q 1 (.q 2 (.q 3 ((.l 4 [] (.q 5 (.done)))))))) (by kernel_rfl) ?_
  refine q_move rfl rfl rfl rfl ?_
  refine q_nil_p rfl rfl rfl rfl ?_
  refine q_field (k := 0) rfl rfl rfl rfl Try.underlying81 rfl Try.sizeOf76 rfl ?_
  refine q_load_c (j := 0) rfl rfl rfl rfl Try.isAgg76 Tk (by first | rfl | exact (Nat.add_zero _).symm) (by rfl) ?_
  have sp_3 := Fe.len_spec pa pc cb x.v.ck
  refine l_call rfl rfl rfl rfl rfl rfl Try.call46 (sp_3) Ts ?_
  rintro ⟨⟩ -
  try simp only [List.cons_append, List.nil_append]
  refine ag_nil ?_
  refine q_assign rfl rfl rfl rfl ?_
  refine r_done ?_
  refine s_keep [0, 3, 5, 7] (e' := [(0, _), (3, _), (5, _), (7, _)]) rfl ?_
  refine k_then_n ?_
  refine c_seq ?_
  refine c_seq ?_
  refine s_rest_take (F := F1) (T := x.v.th) (S := []) ((t : Nat) : Int) Tk (by simp) hth fun tv htF => ?_
  refine s_vec Tk fun tb ta tc hta => ?_
  subst hta
  refine c_draw rfl (.q 0 (.q 1 (.q 2 (.q 3 (.q 4 ((.l 5 [] (.q 6 (.q 7 (.q 8 (.q 9 (.q 10 (.q 11 (.q 12 (.q 13 (.q 14 (.q 15 (.q 16 ((.l 17 [] (.q 18 (.q 19 (.q 20 (.q 21 ((.l 22 [] (.q 23 (.q 24 (.done))))))))))))))))))))))))))))) (by kernel_rfl) ?_
  refine q_move rfl rfl rfl rfl ?_
  refine q_nil_p rfl rfl rfl rfl ?_
  refine q_field (k := 0) rfl rfl rfl rfl Try.underlying81 rfl Try.sizeOf76 rfl ?_
  refine q_load_c (j := 0) rfl rfl rfl rfl Try.isAgg76 Tk (by first | rfl | exact (Nat.add_zero _).symm) (by rfl) ?_
  refine q_loadN_c rfl rfl rfl rfl Try.isAgg36 Try.sizeOf36 Tk 0 (us := [_, _, _]) (by first | rfl | exact (Nat.add_zero _).symm) rfl rfl ?_
  have sp_4 := Fe.can_spec pa pc cb x.v.ck hx.v.ck k ((t : Nat) : Int) o
  refine l_call rfl rfl rfl rfl rfl rfl Try.call47 (sp_4) Ts ?_
  rintro ⟨⟩ -
  try simp only [List.cons_append, List.nil_append]
  refine ag_nil ?_
  refine q_not rfl rfl rfl rfl ?_
  refine q_move rfl rfl rfl rfl ?_
  refine s_bool_np 33 rfl (fun hg => by exfalso; exact hg hc) (fun hg => ?_)
  refine q_move rfl rfl rfl rfl ?_
  refine q_nil_p rfl rfl rfl rfl ?_
  refine q_field (k := 2) rfl rfl rfl rfl Try.underlying81 rfl Try.sizeOf77 rfl ?_
  refine q_load_c (j := 2) rfl rfl rfl rfl Try.isAgg77 Tk (by first | rfl | exact (Nat.add_zero _).symm) (by rfl) ?_
  refine q_field (k := 1) rfl rfl rfl rfl Try.underlying36 rfl Try.sizeOf3 rfl ?_
  refine q_load_c (j := 1) rfl rfl rfl rfl Try.isAgg3 Tk (by first | rfl | exact (Nat.add_zero _).symm) (by rfl) ?_
  refine q_lookup1 (ek := ekZ) (ev1 := evA) (F := F1) (m := m1) (k := ((t : Nat) : Int)) none rfl rfl rfl rfl rfl Try.underlying77 (keyOK_int Try.underlying3) Try.zeroValue86 Tk ?_
  refine s_eq 40 rfl (v' := .pointer (some ⟨tb, 0, none⟩)) (by rw [htF]; rfl) ?_
  refine q_field (k := 1) rfl rfl rfl rfl Try.underlying36 rfl Try.sizeOf3 rfl ?_
  refine q_load_c (j := 1) rfl rfl rfl rfl Try.isAgg3 Tk (by first | rfl | exact (Nat.add_zero _).symm) (by rfl) ?_
  have sp_5 := Vc.get_spec tb l ta l.length tc (by first | rfl | assumption | omega | (simp; done) | (simp; omega)) t
  refine l_call rfl rfl rfl rfl rfl rfl Try.call48 (sp_5) Ts ?_
  rintro ⟨⟩ -
  try simp only [List.cons_append, List.nil_append]
  refine ag_nil ?_
  refine q_int rfl rfl rfl rfl rfl (b_eql _ _ _ _) ?_
  refine q_move rfl rfl rfl rfl ?_
  refine s_bool_p 45 rfl (fun hg => ?_) (fun hg => by exfalso; exact hg (Classical.byContradiction fun h9 => hv (hvm.2 fun h8 => absurd h8 h9)))
  refine q_field (k := 0) rfl rfl rfl rfl Try.underlying36 rfl Try.sizeOf34 rfl ?_
  refine q_load_c (j := 0) rfl rfl rfl rfl Try.isAgg34 Tk (by first | rfl | exact (Nat.add_zero _).symm) (by rfl) ?_
  have sp_6 := releases_spec k
  refine l_call rfl rfl rfl rfl rfl rfl Try.call49 (sp_6) Ts ?_
  rintro ⟨⟩ -
  try simp only [List.cons_append, List.nil_append]
  refine ag_nil ?_
  refine q_pick_t rfl rfl rfl rfl rfl ?_
  refine q_pick_f rfl rfl rfl rfl rfl ?_
  refine r_done ?_
  refine s_keep [0, 3, 5, 7, 50] (e' := [(0, _), (3, _), (5, _), (7, _), (50, _)]) rfl ?_
  refine k_then_n ?_
  refine c_cond_p rfl (fun hg => ?_) (fun hg => by exfalso; exact hv (hvm.2 fun _ => hg))
  refine c_seq ?_
  refine c_plain (.q 0 (.done)) (by kernel_rfl) ?_
  refine q_assign rfl rfl rfl rfl ?_
  refine r_done ?_
  refine s_keep [4] (e' := [(4, _)]) rfl ?_
  refine k_then_n ?_
  refine c_ret ?_
  refine k_then_ret ?_
  refine s_vecF tb ta tc l Ts ?_
  refine s_rest_put (F := F1) (T := x.v.th) (S := []) ((t : Nat) : Int) F1 x.v.th Ts (by simp) htF (fun _ _ _ => rfl) hth (fun _ _ _ => rfl) ?_
  refine df_fold (b := b) x (pa := pa) (pc := pc) (po := po) (poc := poc) (cb := cb) (m1 := m1) (m2 := m2) (m3 := m3) (m4 := m4) (va := va) (vc := vc) (F1 := F1) (F2 := F2) (F3 := F3) (F4 := F4) (V := V) Ts (by rfl) (by rfl) (by rfl) (by first | exact hV | simp) ?_
  refine ret1 rfl rfl (()) (by first | rfl | (first | rfl | (congr 1; done) | (congr 1 <;> first | rfl | omega | (simp; done) | (simp; omega)))) (by trivial) ?_
  exact Tf
 refine l_alloc rfl rfl rfl Try.zeroValue107 (zs := [.int .i64 0, .int .i64 0, .int .i64 0]) rfl ?_
 intro b5
 refine ag_load_c (q := 0) rfl rfl rfl Try.isAgg76 Tk (by first | rfl | exact (Nat.add_zero _).symm) (by rfl) ?_
 refine ag_load_c (q := 1) rfl rfl rfl Try.isAgg3 Tk (by first | rfl | exact (Nat.add_zero _).symm) (by rfl) ?_
 refine ag_nil ?_
 have sp_7 := Fe.stand_spec pa pc cb x.v.ck ((t : Nat) : Int)
 refine l_call rfl rfl rfl rfl rfl rfl Try.call45 (sp_7) Ts ?_
 rintro ⟨⟩ -
 try simp only [List.cons_append, List.nil_append]
 refine ag_nil ?_
 refine q_move rfl rfl rfl rfl ?_
 refine q_extract rfl rfl rfl rfl rfl ?_
 refine q_extract rfl rfl rfl rfl rfl ?_
 refine l_store (j := 0) rfl rfl rfl rfl Try.sizeOf107 (us := [_, _, _]) rfl rfl rfl Tk (by first | rfl | exact (Nat.add_zero _).symm) (by first | decide | (simp; done) | omega) ?_
 simp only [setL, List.set]
 refine ag_nil ?_
 refine q_assign rfl rfl rfl rfl ?_
 refine r_done ?_
 refine s_keep [0, 3, 5] (e' := [(0, _), (3, _), (5, _)]) rfl ?_
 refine k_then_n ?_
 refine c_seq ?_
 refine c_plain (.q 0 (.q 1 (.q 2 (.q 3 ((.l 4 [] (.q 5 (.done)))))))) (by kernel_rfl) ?_
 refine q_move rfl rfl rfl rfl ?_
 refine q_nil_p rfl rfl rfl rfl ?_
 refine q_field (k := 0) rfl rfl rfl rfl Try.underlying81 rfl Try.sizeOf76 rfl ?_
 refine q_load_c (j := 0) rfl rfl rfl rfl Try.isAgg76 Tk (by first | rfl | exact (Nat.add_zero _).symm) (by rfl) ?_
 have sp_8 := Fe.len_spec pa pc cb x.v.ck
 refine l_call rfl rfl rfl rfl rfl rfl Try.call46 (sp_8) Ts ?_
 rintro ⟨⟩ -
 try simp only [List.cons_append, List.nil_append]
 refine ag_nil ?_
 refine q_assign rfl rfl rfl rfl ?_
 refine r_done ?_
 refine s_keep [0, 3, 5, 7] (e' := [(0, _), (3, _), (5, _), (7, _)]) rfl ?_
 refine k_then_n ?_
 refine c_seq ?_
 refine c_seq ?_
 refine s_rest_take (F := F1) (T := x.v.th) (S := []) ((t : Nat) : Int) Tk (by simp) hth fun tv htF => ?_
 refine s_vec Tk fun tb ta tc hta => ?_
 subst hta
 refine c_draw rfl (.q 0 (.q 1 (.q 2 (.q 3 (.q 4 ((.l 5 [] (.q 6 (.q 7 (.q 8 (.q 9 (.q 10 (.q 11 (.q 12 (.q 13 (.q 14 (.q 15 (.q 16 ((.l 17 [] (.q 18 (.q 19 (.q 20 (.q 21 ((.l 22 [] (.q 23 (.q 24 (.done))))))))))))))))))))))))))))) (by kernel_rfl) ?_
 refine q_move rfl rfl rfl rfl ?_
 refine q_nil_p rfl rfl rfl rfl ?_
 refine q_field (k := 0) rfl rfl rfl rfl Try.underlying81 rfl Try.sizeOf76 rfl ?_
 refine q_load_c (j := 0) rfl rfl rfl rfl Try.isAgg76 Tk (by first | rfl | exact (Nat.add_zero _).symm) (by rfl) ?_
 refine q_loadN_c rfl rfl rfl rfl Try.isAgg36 Try.sizeOf36 Tk 0 (us := [_, _, _]) (by first | rfl | exact (Nat.add_zero _).symm) rfl rfl ?_
 have sp_9 := Fe.can_spec pa pc cb x.v.ck hx.v.ck k ((t : Nat) : Int) o
 refine l_call rfl rfl rfl rfl rfl rfl Try.call47 (sp_9) Ts ?_
 rintro ⟨⟩ -
 try simp only [List.cons_append, List.nil_append]
 refine ag_nil ?_
 refine q_not rfl rfl rfl rfl ?_
 refine q_move rfl rfl rfl rfl ?_
 refine s_bool_np 33 rfl (fun hg => by exfalso; exact hg hc) (fun hg => ?_)
 refine q_move rfl rfl rfl rfl ?_
 refine q_nil_p rfl rfl rfl rfl ?_
 refine q_field (k := 2) rfl rfl rfl rfl Try.underlying81 rfl Try.sizeOf77 rfl ?_
 refine q_load_c (j := 2) rfl rfl rfl rfl Try.isAgg77 Tk (by first | rfl | exact (Nat.add_zero _).symm) (by rfl) ?_
 refine q_field (k := 1) rfl rfl rfl rfl Try.underlying36 rfl Try.sizeOf3 rfl ?_
 refine q_load_c (j := 1) rfl rfl rfl rfl Try.isAgg3 Tk (by first | rfl | exact (Nat.add_zero _).symm) (by rfl) ?_
 refine q_lookup1 (ek := ekZ) (ev1 := evA) (F := F1) (m := m1) (k := ((t : Nat) : Int)) none rfl rfl rfl rfl rfl Try.underlying77 (keyOK_int Try.underlying3) Try.zeroValue86 Tk ?_
 refine s_eq 40 rfl (v' := .pointer (some ⟨tb, 0, none⟩)) (by rw [htF]; rfl) ?_
 refine q_field (k := 1) rfl rfl rfl rfl Try.underlying36 rfl Try.sizeOf3 rfl ?_
 refine q_load_c (j := 1) rfl rfl rfl rfl Try.isAgg3 Tk (by first | rfl | exact (Nat.add_zero _).symm) (by rfl) ?_
 have sp_10 := Vc.get_spec tb l ta l.length tc (by first | rfl | assumption | omega | (simp; done) | (simp; omega)) t
 refine l_call rfl rfl rfl rfl rfl rfl Try.call48 (sp_10) Ts ?_
 rintro ⟨⟩ -
 try simp only [List.cons_append, List.nil_append]
 refine ag_nil ?_
 refine q_int rfl rfl rfl rfl rfl (b_eql _ _ _ _) ?_
 refine q_move rfl rfl rfl rfl ?_
 refine s_bool_p 45 rfl (fun hg => ?_) (fun hg => by exfalso; exact hg (Classical.byContradiction fun h9 => hv (hvm.2 fun h8 => absurd h8 h9)))
 refine q_field (k := 0) rfl rfl rfl rfl Try.underlying36 rfl Try.sizeOf34 rfl ?_
 refine q_load_c (j := 0) rfl rfl rfl rfl Try.isAgg34 Tk (by first | rfl | exact (Nat.add_zero _).symm) (by rfl) ?_
 have sp_11 := releases_spec k
 refine l_call rfl rfl rfl rfl rfl rfl Try.call49 (sp_11) Ts ?_
 rintro ⟨⟩ -
 try simp only [List.cons_append, List.nil_append]
 refine ag_nil ?_
 refine q_pick_t rfl rfl rfl rfl rfl ?_
 refine q_pick_f rfl rfl rfl rfl rfl ?_
 refine r_done ?_
 refine s_keep [0, 3, 5, 7, 50] (e' := [(0, _), (3, _), (5, _), (7, _), (50, _)]) rfl ?_
 refine k_then_n ?_
 refine c_cond_p rfl (fun hg => ?_) (fun hg => by exfalso; exact hv (hvm.2 fun _ => hg))
 refine c_seq ?_
 refine c_plain (.q 0 (.done)) (by kernel_rfl) ?_
 refine q_assign rfl rfl rfl rfl ?_
 refine r_done ?_
 refine s_keep [4] (e' := [(4, _)]) rfl ?_
 refine k_then_n ?_
 refine c_ret ?_
 refine k_then_ret ?_
 refine s_vecF tb ta tc l Ts ?_
 refine s_rest_put (F := F1) (T := x.v.th) (S := []) ((t : Nat) : Int) F1 x.v.th Ts (by simp) htF (fun _ _ _ => rfl) hth (fun _ _ _ => rfl) ?_
 refine df_fold (b := b) x (pa := pa) (pc := pc) (po := po) (poc := poc) (cb := cb) (m1 := m1) (m2 := m2) (m3 := m3) (m4 := m4) (va := va) (vc := vc) (F1 := F1) (F2 := F2) (F3 := F3) (F4 := F4) (V := V) Ts (by rfl) (by rfl) (by rfl) (by first | exact hV | simp) ?_
 refine ret1 rfl rfl (()) (by first | rfl | (first | rfl | (congr 1; done) | (congr 1 <;> first | rfl | omega | (simp; done) | (simp; omega)))) (by trivial) ?_
 exact Tf
theorem read_spec (db m1 tb tc t vb of k vc : Nat) (v0 v1 v3 v4 v5 v6 : Value) (cost n : Int) (F1 : Int → Option (Option Addr)) (ta va : Option Addr) (l : List Int) (V : List P4F) (w0_ r0 : Nat) (so : Option Addr) (f0 : Int) (hF : F1 ((t : Nat) : Int) = some (some ⟨tb, 0, none⟩)) (ht : t < 65535) (hl : CV l) (hl1 : 1 ≤ l.getD t 0) (hc0 : 0 ≤ cost ∧ cost ≤ 1000000000000000) (hw0 : w0_ < 18446744073709551616) (hr0 : r0 < 18446744073709551616) (hv : V[k]? = some (w0_, r0, so, f0)) (ha : va = some ⟨vb, of, none⟩) (sh : Option (List Int)) (hs : ∀ s, sh = some s → CV s) : Spec Try.prog 51 [.pointer (some ⟨db, 0, none⟩), .int .i64 ((t : Nat) : Int), .pointer (some ⟨vb, of + k * (3 + 1), none⟩), .int .i64 n] [cells db 0 [v0, v1, .map (some m1), v3, v4, v5, v6, .int .i64 cost], mapO ekZ evA m1 F1, cells tb 0 [.slice ta l.length tc], own 1 encU ta tc l, own 4 encF va vc V, optA so sh] (fun (r : Option Addr) => .tuple #[]) (fun r => True) (fun r => [cells db 0 [v0, v1, .map (some m1), v3, v4, v5, v6, .int .i64 (cost + (rdV t l n (w0_, r0, sh, f0)).2)], mapO ekZ evA m1 F1, cells tb 0 [.slice ta l.length tc], own 1 encU ta tc l, own 4 encF va vc (V.set k ((rdV t l n (w0_, r0, sh, f0)).1.1, (rdV t l n (w0_, r0, sh, f0)).1.2.1, r, (rdV t l n (w0_, r0, sh, f0)).1.2.2.2)), optA r (rdV t l n (w0_, r0, sh, f0)).1.2.2.1]) := by
  cases sh with
  | none => exact read_none db m1 tb tc t vb of k vc v0 v1 v3 v4 v5 v6 cost n F1 ta va l V w0_ r0 so f0 hF ht hl hl1 hc0 hw0 hr0 hv ha
  | some s => exact read_some db m1 tb tc t vb of k vc v0 v1 v3 v4 v5 v6 cost n F1 ta va l V w0_ r0 so f0 hF ht hl hl1 hc0 hw0 hr0 hv ha s (hs s rfl)
theorem write_spec (db m1 tb tc t vb of k vc : Nat) (v0 v1 v3 v4 v5 v6 : Value) (cost n : Int) (F1 : Int → Option (Option Addr)) (ta va : Option Addr) (l : List Int) (V : List P4F) (w0_ r0 : Nat) (so : Option Addr) (f0 : Int) (hF : F1 ((t : Nat) : Int) = some (some ⟨tb, 0, none⟩)) (ht : t < 65535) (hl : CV l) (hl1 : 1 ≤ l.getD t 0) (hc0 : 0 ≤ cost ∧ cost ≤ 1000000000000000) (hw0 : w0_ < 18446744073709551616) (hr0 : r0 < 18446744073709551616) (hv : V[k]? = some (w0_, r0, so, f0)) (ha : va = some ⟨vb, of, none⟩) (sh : Option (List Int)) (hs : ∀ s, sh = some s → CV s) : Spec Try.prog 52 [.pointer (some ⟨db, 0, none⟩), .int .i64 ((t : Nat) : Int), .pointer (some ⟨vb, of + k * (3 + 1), none⟩), .int .i64 n] [cells db 0 [v0, v1, .map (some m1), v3, v4, v5, v6, .int .i64 cost], mapO ekZ evA m1 F1, cells tb 0 [.slice ta l.length tc], own 1 encU ta tc l, own 4 encF va vc V, optA so sh] (fun (r : Option Addr) => .tuple #[]) (fun r => True) (fun r => [cells db 0 [v0, v1, .map (some m1), v3, v4, v5, v6, .int .i64 (cost + (wrV t l n (w0_, r0, sh, f0)).2)], mapO ekZ evA m1 F1, cells tb 0 [.slice ta l.length tc], own 1 encU ta tc l, own 4 encF va vc (V.set k ((wrV t l n (w0_, r0, sh, f0)).1.1, (wrV t l n (w0_, r0, sh, f0)).1.2.1, r, (wrV t l n (w0_, r0, sh, f0)).1.2.2.2)), optA r (wrV t l n (w0_, r0, sh, f0)).1.2.2.1]) := by
  cases sh with
  | none => exact write_none db m1 tb tc t vb of k vc v0 v1 v3 v4 v5 v6 cost n F1 ta va l V w0_ r0 so f0 hF ht hl hl1 hc0 hw0 hr0 hv ha
  | some s => exact write_some db m1 tb tc t vb of k vc v0 v1 v3 v4 v5 v6 cost n F1 ta va l V w0_ r0 so f0 hF ht hl hl1 hc0 hw0 hr0 hv ha s (hs s rfl)
theorem event_can (pa : Option Addr) (pc : Nat) (po : Option Addr) (poc b : Nat) (x : FS) (hx : FInv x) (hn : x.v.ck.n ≤ 100000000000000) (pl : List Int) (hpl : x.v.ck.pa = pl) (k : Int) (t : Nat) (o : Int) (hv : vcanF x.v k ((t : Nat) : Int) o) : Spec Try.prog 14 [.pointer (some ⟨b, 0, none⟩), .agg #[.int .i64 k, .int .i64 ((t : Nat) : Int), .int .i64 o]] [dfR pa pc po poc b x, own 1 encZ pa pc pl, own 1 encZ po poc pl] (fun (_ : Unit) => .int .i64 0) (fun _ => True) (fun _ => [dfR pa pc po poc b (feF x k ((t : Nat) : Int) o), own 1 encZ pa pc pl, own 1 encZ po poc pl]) := by
 refine spec_mk (n := 141) Try.func14 rfl rfl rfl ?_
 intro Γ w0
 simp only [argE, List.cons_append, List.nil_append, Nat.zero_add, Nat.reduceAdd]
 refine c_seq ?_
 refine c_plain ((.l 0 [] (.q 1 (.done)))) (by kernel_rfl) ?_
 refine l_box rfl rfl rfl rfl (us := [_, _, _]) rfl ?_
 intro b3
 refine ag_nil ?_
 refine q_assign rfl rfl rfl rfl ?_
 refine r_done ?_
 refine k_then_n ?_
 refine c_seq ?_
 refine c_seq ?_
 have hcc := hx.c0
 have hlen := hx.len
 have hn0 := hx.v.ck.n0
 have hc := hv.1
 obtain ⟨l, hth⟩ := th_some hx.v (can_th hc)
 obtain ⟨h0, h1⟩ := th_rng hx.v (can_th hc)
 have hlc := hx.v.thc _ _ hth
 have hll := hlc.len
 have hvm := vmax hc hth hlc
 rw [Int.toNat_natCast] at hvm
 have hl1 := hx.own _ _ hth
 rw [Int.toNat_natCast] at hl1
 have hlg := g_rng hlc.rng (by decide) t
 have htn : t < 65535 := by omega
 refine s_take (A := dfR pa pc po poc b x) Tk ?_
 refine df_open fun cb m1 m2 m3 m4 va vc F1 F2 F3 F4 V hV => ?_
 refine c_plain (.q 0 ((.l 1 [] (.done)))) (by kernel_rfl) ?_
 refine q_move rfl rfl rfl rfl ?_
 have sp_1 := Fa.none_spec b cb (.slice po x.v.ck.pa.length poc) (.map (some m1)) (.map (some m2)) (.map (some m3)) (.map (some m4)) (.slice va x.vs.length vc) (.int .i64 x.cost)
 refine l_call rfl rfl rfl rfl rfl rfl Try.call32 (sp_1) Ts ?_
 rintro ⟨⟩ -
 try simp only [List.cons_append, List.nil_append]
 refine ag_nil ?_
 refine r_done ?_
 refine k_then_n ?_
 refine c_cond_f rfl ?_
 refine c_skip ?_
 refine k_then_n ?_
 refine c_seqJ (α := Nat) (fun (sb : Nat) => True) (fun (sb : Nat) => [(5, .pointer (some ⟨sb, 0, none⟩))]) (fun (sb : Nat) => [cells sb 0 [.int .i64 (stF x.v.ck ((t : Nat) : Int)).1, .int .i64 (stF x.v.ck ((t : Nat) : Int)).2.1, .int .i64 (stF x.v.ck ((t : Nat) : Int)).2.2]]) [0, 3] (er := [(0, _), (3, _)]) rfl [] Ts ?_ ?_
 ·
  refine c_draw rfl (.q 0 (.q 1 (.q 2 (.q 3 (.q 4 (.q 5 ((.alt (.l 6 [] (.q 7 (.q 8 (.q 9 ((.l 10 [] ((.l 11 [] (.q 12 (.done)))))))))) (.l 10 [3, 5] ((.l 6 [] (.q 7 (.q 8 (.q 9 ((.l 11 [] (.q 12 (.done)))))))))))))))))) (by kernel_rfl) ?_
  refine q_move rfl rfl rfl rfl ?_
  refine q_nil_p rfl rfl rfl rfl ?_
  refine q_field (k := 0) rfl rfl rfl rfl Try.underlying81 rfl Try.sizeOf76 rfl ?_
  refine q_load_c (j := 0) rfl rfl rfl rfl Try.isAgg76 Tk (by first | rfl | exact (Nat.add_zero _).symm) (by rfl) ?_
  refine q_field (k := 1) rfl rfl rfl rfl Try.underlying36 rfl Try.sizeOf3 rfl ?_
  refine q_load_c (j := 1) rfl rfl rfl rfl Try.isAgg3 Tk (by first | rfl | exact (Nat.add_zero _).symm) (by rfl) ?_
  refine r_alt ?_ ?_
  ·
   have sp_2 := Fe.stand_spec pa pc cb x.v.ck ((t : Nat) : Int)
   refine l_call rfl rfl rfl rfl rfl rfl Try.call45 (sp_2) Ts ?_
   rintro ⟨⟩ -
   try simp only [List.cons_append, List.nil_append]
   refine ag_nil ?_
   refine q_move rfl rfl rfl rfl ?_
   refine q_extract rfl rfl rfl rfl rfl ?_
   refine q_extract rfl rfl rfl rfl rfl ?_
   refine l_alloc rfl rfl rfl Try.zeroValue107 (zs := [.int .i64 0, .int .i64 0, .int .i64 0]) rfl ?_
   intro b5
   refine ag_nil ?_
   refine l_store (j := 0) rfl rfl rfl rfl Try.sizeOf107 (us := [_, _, _]) rfl rfl rfl Tk (by first | rfl | exact (Nat.add_zero _).symm) (by first | decide | (simp; done) | omega) ?_
   simp only [setL, List.set]
   refine ag_nil ?_
   refine q_assign rfl rfl rfl rfl ?_
   refine r_done ?_
   refine s_keep [0, 3, 5] (e' := [(0, _), (3, _), (5, _)]) rfl ?_
   refine k_then_n ?_
   refine join_next (b5) (by trivial) (by exact ⟨rfl, rfl, rfl, trivial⟩) (by (try simp only [List.cons_append, List.nil_append]); (repeat ((with_reducible apply Z2); focus (first | (with_reducible (repeat (first | exact Z0 | apply Z1)); done) | (repeat (first | exact Z0 | apply Z1))))); (repeat (first | exact Z3 | exact Takes.self | refine takes_drop2 ?_)))
  refine l_alloc rfl rfl rfl Try.zeroValue107 (zs := [.int .i64 0, .int .i64 0, .int .i64 0]) rfl ?_
  intro b5
  refine ag_load_c (q := 0) rfl rfl rfl Try.isAgg76 Tk (by first | rfl | exact (Nat.add_zero _).symm) (by rfl) ?_
  refine ag_load_c (q := 1) rfl rfl rfl Try.isAgg3 Tk (by first | rfl | exact (Nat.add_zero _).symm) (by rfl) ?_
  refine ag_nil ?_
  have sp_3 := Fe.stand_spec pa pc cb x.v.ck ((t : Nat) : Int)
  refine l_call rfl rfl rfl rfl rfl rfl Try.call45 (sp_3) Ts ?_
  rintro ⟨⟩ -
  try simp only [List.cons_append, List.nil_append]
  refine ag_nil ?_
  refine q_move rfl rfl rfl rfl ?_
  refine q_extract rfl rfl rfl rfl rfl ?_
  refine q_extract rfl rfl rfl rfl rfl ?_
  refine l_store (j := 0) rfl rfl rfl rfl Try.sizeOf107 (us := [_, _, _]) rfl rfl rfl Tk (by first | rfl | exact (Nat.add_zero _).symm) (by first | decide | (simp; done) | omega) ?_
  simp only [setL, List.set]
  refine ag_nil ?_
  refine q_assign rfl rfl rfl rfl ?_
  refine r_done ?_
  refine s_keep [0, 3, 5] (e' := [(0, _), (3, _), (5, _)]) rfl ?_
  refine k_then_n ?_
  refine join_next (b5) (by trivial) (by exact ⟨rfl, rfl, rfl, trivial⟩) (by (try simp only [List.cons_append, List.nil_append]); (repeat ((with_reducible apply Z2); focus (first | (with_reducible (repeat (first | exact Z0 | apply Z1)); done) | (repeat (first | exact Z0 | apply Z1))))); (repeat (first | exact Z3 | exact Takes.self | refine takes_drop2 ?_)))
 ·
  rintro sb -
  try simp only [List.cons_append, List.nil_append]
  refine c_seq ?_
  refine s_rest_take (F := F1) (T := x.v.th) (S := []) ((t : Nat) : Int) Tk (by simp) hth fun tv htF => ?_
  refine s_vec Tk fun tb ta tc hta => ?_
  subst hta
  refine c_plain (.q 0 (.q 1 (.q 2 (.q 3 ((.l 4 [] (.q 5 (.done)))))))) (by kernel_rfl) ?_
  refine q_move rfl rfl rfl rfl ?_
  refine q_nil_p rfl rfl rfl rfl ?_
  refine q_field (k := 0) rfl rfl rfl rfl Try.underlying81 rfl Try.sizeOf76 rfl ?_
  refine q_load_c (j := 0) rfl rfl rfl rfl Try.isAgg76 Tk (by first | rfl | exact (Nat.add_zero _).symm) (by rfl) ?_
  have sp_4 := Fe.len_spec pa pc cb x.v.ck
  refine l_call rfl rfl rfl rfl rfl rfl Try.call46 (sp_4) Ts ?_
  rintro ⟨⟩ -
  try simp only [List.cons_append, List.nil_append]
  refine ag_nil ?_
  refine q_assign rfl rfl rfl rfl ?_
  refine r_done ?_
  refine s_keep [0, 3, 5, 7] (e' := [(0, _), (3, _), (5, _), (7, _)]) rfl ?_
  refine k_then_n ?_
  refine c_seq ?_
  refine c_seqJ (α := Unit) (fun (z_ : Unit) => True) (fun (z_ : Unit) => [(50, .bool false)]) (fun (z_ : Unit) => []) [0, 3, 5, 7] (er := [(0, _), (3, _), (5, _), (7, _)]) rfl [] Ts ?_ ?_
  ·
   refine c_draw rfl (.q 0 (.q 1 (.q 2 (.q 3 (.q 4 ((.l 5 [] (.q 6 (.q 7 (.q 8 (.q 9 (.q 10 (.q 11 (.q 12 (.q 13 (.q 14 (.q 15 (.q 16 ((.l 17 [] (.q 18 (.q 19 (.q 20 (.q 21 ((.l 22 [] (.q 23 (.q 24 (.done))))))))))))))))))))))))))))) (by kernel_rfl) ?_
   refine q_move rfl rfl rfl rfl ?_
   refine q_nil_p rfl rfl rfl rfl ?_
   refine q_field (k := 0) rfl rfl rfl rfl Try.underlying81 rfl Try.sizeOf76 rfl ?_
   refine q_load_c (j := 0) rfl rfl rfl rfl Try.isAgg76 Tk (by first | rfl | exact (Nat.add_zero _).symm) (by rfl) ?_
   refine q_loadN_c rfl rfl rfl rfl Try.isAgg36 Try.sizeOf36 Tk 0 (us := [_, _, _]) (by first | rfl | exact (Nat.add_zero _).symm) rfl rfl ?_
   have sp_5 := Fe.can_spec pa pc cb x.v.ck hx.v.ck k ((t : Nat) : Int) o
   refine l_call rfl rfl rfl rfl rfl rfl Try.call47 (sp_5) Ts ?_
   rintro ⟨⟩ -
   try simp only [List.cons_append, List.nil_append]
   refine ag_nil ?_
   refine q_not rfl rfl rfl rfl ?_
   refine q_move rfl rfl rfl rfl ?_
   refine s_bool_np 33 rfl (fun hg => by exfalso; exact hg hc) (fun hg => ?_)
   refine q_move rfl rfl rfl rfl ?_
   refine q_nil_p rfl rfl rfl rfl ?_
   refine q_field (k := 2) rfl rfl rfl rfl Try.underlying81 rfl Try.sizeOf77 rfl ?_
   refine q_load_c (j := 2) rfl rfl rfl rfl Try.isAgg77 Tk (by first | rfl | exact (Nat.add_zero _).symm) (by rfl) ?_
   refine q_field (k := 1) rfl rfl rfl rfl Try.underlying36 rfl Try.sizeOf3 rfl ?_
   refine q_load_c (j := 1) rfl rfl rfl rfl Try.isAgg3 Tk (by first | rfl | exact (Nat.add_zero _).symm) (by rfl) ?_
   refine q_lookup1 (ek := ekZ) (ev1 := evA) (F := F1) (m := m1) (k := ((t : Nat) : Int)) none rfl rfl rfl rfl rfl Try.underlying77 (keyOK_int Try.underlying3) Try.zeroValue86 Tk ?_
   refine s_eq 40 rfl (v' := .pointer (some ⟨tb, 0, none⟩)) (by rw [htF]; rfl) ?_
   refine q_field (k := 1) rfl rfl rfl rfl Try.underlying36 rfl Try.sizeOf3 rfl ?_
   refine q_load_c (j := 1) rfl rfl rfl rfl Try.isAgg3 Tk (by first | rfl | exact (Nat.add_zero _).symm) (by rfl) ?_
   have sp_6 := Vc.get_spec tb l ta l.length tc (by first | rfl | assumption | omega | (simp; done) | (simp; omega)) t
   refine l_call rfl rfl rfl rfl rfl rfl Try.call48 (sp_6) Ts ?_
   rintro ⟨⟩ -
   try simp only [List.cons_append, List.nil_append]
   refine ag_nil ?_
   refine q_int rfl rfl rfl rfl rfl (b_eql _ _ _ _) ?_
   refine q_move rfl rfl rfl rfl ?_
   refine s_bool_p 45 rfl (fun hmx => ?_) (fun hmx => ?_)
   ·
    refine q_field (k := 0) rfl rfl rfl rfl Try.underlying36 rfl Try.sizeOf34 rfl ?_
    refine q_load_c (j := 0) rfl rfl rfl rfl Try.isAgg34 Tk (by first | rfl | exact (Nat.add_zero _).symm) (by rfl) ?_
    have sp_7 := releases_spec k
    refine l_call rfl rfl rfl rfl rfl rfl Try.call49 (sp_7) Ts ?_
    rintro ⟨⟩ -
    try simp only [List.cons_append, List.nil_append]
    refine ag_nil ?_
    refine q_pick_t rfl rfl rfl rfl rfl ?_
    refine q_pick_f rfl rfl rfl rfl rfl ?_
    refine r_done ?_
    refine s_keep [0, 3, 5, 7, 50] (e' := [(0, _), (3, _), (5, _), (7, _), (50, _)]) rfl ?_
    refine k_then_n ?_
    refine s_eq 50 rfl (v' := .bool false) (by rw [decide_eq_false (hvm.1 hv hmx)]) ?_
    refine join_next (()) (by trivial) (by exact ⟨rfl, rfl, rfl, rfl, rfl, trivial⟩) (by (try simp only [List.cons_append, List.nil_append]); (repeat ((with_reducible apply Z2); focus (first | (with_reducible (repeat (first | exact Z0 | apply Z1)); done) | (repeat (first | exact Z0 | apply Z1))))); (repeat (first | exact Z3 | exact Takes.self | refine takes_drop2 ?_)))
   ·
    refine q_skip rfl rfl rfl rfl ?_
    refine q_skip rfl rfl rfl rfl ?_
    refine l_skip rfl rfl rfl rfl ?_
    refine q_pick_f rfl rfl rfl rfl rfl ?_
    refine q_pick_f rfl rfl rfl rfl rfl ?_
    refine r_done ?_
    refine s_keep [0, 3, 5, 7, 50] (e' := [(0, _), (3, _), (5, _), (7, _), (50, _)]) rfl ?_
    refine k_then_n ?_
    refine join_next (()) (by trivial) (by exact ⟨rfl, rfl, rfl, rfl, rfl, trivial⟩) (by (try simp only [List.cons_append, List.nil_append]); (repeat ((with_reducible apply Z2); focus (first | (with_reducible (repeat (first | exact Z0 | apply Z1)); done) | (repeat (first | exact Z0 | apply Z1))))); (repeat (first | exact Z3 | exact Takes.self | refine takes_drop2 ?_)))
  ·
   rintro ⟨⟩ -
   try simp only [List.cons_append, List.nil_append]
   refine c_cond_f rfl ?_
   refine c_skip ?_
   refine k_then_n ?_
   refine c_seq ?_
   refine c_draw rfl (.q 0 (.q 1 (.q 2 (.q 3 (.q 4 ((.l 5 [] (.done)))))))) (by kernel_rfl) ?_
   refine q_move rfl rfl rfl rfl ?_
   refine q_nil_p rfl rfl rfl rfl ?_
   refine q_field (k := 0) rfl rfl rfl rfl Try.underlying81 rfl Try.sizeOf76 rfl ?_
   refine q_load_c (j := 0) rfl rfl rfl rfl Try.isAgg76 Tk (by first | rfl | exact (Nat.add_zero _).symm) (by rfl) ?_
   refine q_loadN_c rfl rfl rfl rfl Try.isAgg36 Try.sizeOf36 Tk 0 (us := [_, _, _]) (by first | rfl | exact (Nat.add_zero _).symm) rfl rfl ?_
   have sp_8 := Fe.next_spec pa pc cb x.v.ck hx.v.ck (by omega) pl (hpl) k ((t : Nat) : Int) o
   refine l_call rfl rfl rfl rfl rfl rfl Try.call50 (sp_8) Ts ?_
   rintro ⟨⟩ -
   try simp only [List.cons_append, List.nil_append]
   refine ag_nil ?_
   refine r_done ?_
   refine s_keep [0, 3, 5, 7] (e' := [(0, _), (3, _), (5, _), (7, _)]) rfl ?_
   refine k_then_n ?_
   refine c_seq ?_
   refine c_draw rfl (.q 0 (.q 1 (.q 2 (.q 3 (.q 4 (.q 5 (.q 6 (.q 7 (.done))))))))) (by kernel_rfl) ?_
   refine q_move rfl rfl rfl rfl ?_
   refine q_nil_p rfl rfl rfl rfl ?_
   refine q_field (k := 2) rfl rfl rfl rfl Try.underlying81 rfl Try.sizeOf77 rfl ?_
   refine q_load_c (j := 2) rfl rfl rfl rfl Try.isAgg77 Tk (by first | rfl | exact (Nat.add_zero _).symm) (by rfl) ?_
   refine q_field (k := 1) rfl rfl rfl rfl Try.underlying36 rfl Try.sizeOf3 rfl ?_
   refine q_load_c (j := 1) rfl rfl rfl rfl Try.isAgg3 Tk (by first | rfl | exact (Nat.add_zero _).symm) (by rfl) ?_
   refine q_lookup1 (ek := ekZ) (ev1 := evA) (F := F1) (m := m1) (k := ((t : Nat) : Int)) none rfl rfl rfl rfl rfl Try.underlying77 (keyOK_int Try.underlying3) Try.zeroValue86 Tk ?_
   refine s_eq 63 rfl (v' := .pointer (some ⟨tb, 0, none⟩)) (by rw [htF]; rfl) ?_
   refine q_assign rfl rfl rfl rfl ?_
   refine r_done ?_
   refine s_keep [0, 3, 5, 7, 8] (e' := [(0, _), (3, _), (5, _), (7, _), (8, _)]) rfl ?_
   refine k_then_n ?_
   refine c_seq ?_
   refine c_seq ?_
   refine c_plain (.q 0 (.q 1 (.done))) (by kernel_rfl) ?_
   refine q_field (k := 0) rfl rfl rfl rfl Try.underlying36 rfl Try.sizeOf34 rfl ?_
   refine q_load_c (j := 0) rfl rfl rfl rfl Try.isAgg34 Tk (by first | rfl | exact (Nat.add_zero _).symm) (by rfl) ?_
   refine r_done ?_
   refine k_then_n ?_
   refine c_block ?_
   refine c_seq ?_
   refine c_plain (.q 0 (.q 1 (.done))) (by kernel_rfl) ?_
   refine q_int rfl rfl rfl rfl rfl (b_eql _ _ _ _) ?_
   refine q_assign rfl rfl rfl rfl ?_
   refine r_done ?_
   refine k_then_n ?_
   refine c_cond_p rfl (fun k1 => ?_) (fun k1 => ?_)
   ·
    obtain ⟨p0, p1⟩ := acc_obj hc (by omega)
    obtain ⟨w, hw⟩ := get_lt (l := x.vs) (i := o.toNat) (by omega)
    obtain ⟨hw0, hr0, hws, hf1, hf2⟩ := hx.vs w (List.mem_of_getElem? hw)
    obtain ⟨ww, wr, ws, wf⟩ := w
    refine s_restL_take (res := fvarA) (V := V) (Y := x.vs) (S := []) o.toNat Tk (by simp) hw fun v_ hv_ => ?_
    obtain ⟨w0_, r0, so, f0⟩ := v_
    refine s_fvar Tk fun he1 he2 he3 => ?_
    simp only at he1 he2 he3 hw0 hr0 hws hf1 hf2
    subst he1 he2 he3
    refine c_draw rfl (.q 0 (.q 1 (.q 2 (.q 3 (.q 4 (.q 5 (.q 6 (.q 7 (.q 8 (.q 9 (.q 10 ((.l 11 [] (.done)))))))))))))) (by kernel_rfl) ?_
    refine q_move rfl rfl rfl rfl ?_
    refine q_field (k := 1) rfl rfl rfl rfl Try.underlying36 rfl Try.sizeOf3 rfl ?_
    refine q_load_c (j := 1) rfl rfl rfl rfl Try.isAgg3 Tk (by first | rfl | exact (Nat.add_zero _).symm) (by rfl) ?_
    refine q_move rfl rfl rfl rfl ?_
    refine q_nil_p rfl rfl rfl rfl ?_
    refine q_field (k := 6) rfl rfl rfl rfl Try.underlying81 rfl Try.sizeOf79 rfl ?_
    refine q_load_c (j := 6) rfl rfl rfl rfl Try.isAgg79 Tk (by first | rfl | exact (Nat.add_zero _).symm) (by rfl) ?_
    refine q_field (k := 2) rfl rfl rfl rfl Try.underlying36 rfl Try.sizeOf3 rfl ?_
    refine q_load_c (j := 2) rfl rfl rfl rfl Try.isAgg3 Tk (by first | rfl | exact (Nat.add_zero _).symm) (by rfl) ?_
    refine q_idxO (sz := 3) (k := o.toNat) (enc := encF) (xs := V) rfl rfl rfl rfl rfl Try.underlying79 Try.sizeOf88 hv_ (by omega) (by omega) Tk ?_
    intro ib81 io81 ha81 hl81 hc81
    refine q_move rfl rfl rfl rfl ?_
    have sp_9 := Fa.read_spec b m1 tb tc t ib81 io81 o.toNat vc (.pointer (some ⟨cb, 0, none⟩)) (.slice po x.v.ck.pa.length poc) (.map (some m2)) (.map (some m3)) (.map (some m4)) (.slice va x.vs.length vc) x.cost x.v.ck.n F1 ta va l V w0_ r0 so f0 htF htn hlc hl1 (by omega) hw0 hr0 hv_ ha81 ws hws
    refine l_call rfl rfl rfl rfl rfl rfl Try.call51 (sp_9) Ts ?_
    rintro rp -
    try simp only [List.cons_append, List.nil_append]
    try simp only [List.cons_append, List.nil_append]
    refine ag_nil ?_
    refine r_done ?_
    refine s_fvarF ((rdV t l x.v.ck.n (w0_, r0, ws, f0)).1.1, (rdV t l x.v.ck.n (w0_, r0, ws, f0)).1.2.1, rp, (rdV t l x.v.ck.n (w0_, r0, ws, f0)).1.2.2.2) (rdV t l x.v.ck.n (w0_, r0, ws, f0)).1 Td rfl rfl rfl ?_
    refine s_restL_put (res := fvarA) (V := V) (Y := x.vs) (S := []) o.toNat ((rdV t l x.v.ck.n (w0_, r0, ws, f0)).1.1, (rdV t l x.v.ck.n (w0_, r0, ws, f0)).1.2.1, rp, (rdV t l x.v.ck.n (w0_, r0, ws, f0)).1.2.2.2) (rdV t l x.v.ck.n (w0_, r0, ws, f0)).1 Ts (by simp) (List.getElem?_eq_some_iff.1 hv_).1 (by omega) ?_
    refine s_keep [] (e' := []) rfl ?_
    refine k_blk_n ?_
    refine k_then_n ?_
    refine c_seq ?_
    refine c_plain (.q 0 (.done)) (by kernel_rfl) ?_
    refine q_assign rfl rfl rfl rfl ?_
    refine r_done ?_
    refine k_then_n ?_
    refine c_ret ?_
    refine s_vecF tb ta tc l Ts ?_
    refine s_rest_put (F := F1) (T := x.v.th) (S := []) ((t : Nat) : Int) F1 x.v.th Ts (by simp) htF (fun _ _ _ => rfl) hth (fun _ _ _ => rfl) ?_
    refine df_fold (b := b) (feF x k ((t : Nat) : Int) o) (pa := pa) (pc := pc) (po := po) (poc := poc) (cb := cb) (m1 := m1) (m2 := m2) (m3 := m3) (m4 := m4) (va := va) (vc := vc) (F1 := F1) (F2 := F2) (F3 := F3) (F4 := F4) (V := (V.set o.toNat ((rdV t l x.v.ck.n (w0_, r0, ws, f0)).1.1, (rdV t l x.v.ck.n (w0_, r0, ws, f0)).1.2.1, rp, (rdV t l x.v.ck.n (w0_, r0, ws, f0)).1.2.2.2))) Ts (by rw [fe_rd hv k1 hw hth, Int.toNat_natCast, vn0 (by omega) (by omega) (by omega) (by omega) (by omega) (by omega) (by omega) (by omega)]) (by rw [nx_pa]) (by rw [List.length_set]) (by first | exact (by simp [hV]) | simp) ?_
    refine ret1 rfl rfl (()) (by rfl) (by trivial) ?_
    exact Tf
   ·
    refine c_seq ?_
    refine c_plain (.q 0 (.q 1 (.done))) (by kernel_rfl) ?_
    refine q_int rfl rfl rfl rfl rfl (b_eql _ _ _ _) ?_
    refine q_assign rfl rfl rfl rfl ?_
    refine r_done ?_
    refine s_keep [0, 3, 5, 7, 8, 65, 84] (e' := [(0, _), (3, _), (5, _), (7, _), (8, _), (65, _), (84, _)]) rfl ?_
    refine k_then_n ?_
    refine c_cond_p rfl (fun k2 => ?_) (fun k2 => ?_)
    ·
     obtain ⟨p0, p1⟩ := acc_obj hc (by omega)
     obtain ⟨w, hw⟩ := get_lt (l := x.vs) (i := o.toNat) (by omega)
     obtain ⟨hw0, hr0, hws, hf1, hf2⟩ := hx.vs w (List.mem_of_getElem? hw)
     obtain ⟨ww, wr, ws, wf⟩ := w
     refine s_restL_take (res := fvarA) (V := V) (Y := x.vs) (S := []) o.toNat Tk (by simp) hw fun v_ hv_ => ?_
     obtain ⟨w0_, r0, so, f0⟩ := v_
     refine s_fvar Tk fun he1 he2 he3 => ?_
     simp only at he1 he2 he3 hw0 hr0 hws hf1 hf2
     subst he1 he2 he3
     refine c_draw rfl (.q 0 (.q 1 (.q 2 (.q 3 (.q 4 (.q 5 (.q 6 (.q 7 (.q 8 (.q 9 (.q 10 ((.l 11 [] (.done)))))))))))))) (by kernel_rfl) ?_
     refine q_move rfl rfl rfl rfl ?_
     refine q_field (k := 1) rfl rfl rfl rfl Try.underlying36 rfl Try.sizeOf3 rfl ?_
     refine q_load_c (j := 1) rfl rfl rfl rfl Try.isAgg3 Tk (by first | rfl | exact (Nat.add_zero _).symm) (by rfl) ?_
     refine q_move rfl rfl rfl rfl ?_
     refine q_nil_p rfl rfl rfl rfl ?_
     refine q_field (k := 6) rfl rfl rfl rfl Try.underlying81 rfl Try.sizeOf79 rfl ?_
     refine q_load_c (j := 6) rfl rfl rfl rfl Try.isAgg79 Tk (by first | rfl | exact (Nat.add_zero _).symm) (by rfl) ?_
     refine q_field (k := 2) rfl rfl rfl rfl Try.underlying36 rfl Try.sizeOf3 rfl ?_
     refine q_load_c (j := 2) rfl rfl rfl rfl Try.isAgg3 Tk (by first | rfl | exact (Nat.add_zero _).symm) (by rfl) ?_
     refine q_idxO (sz := 3) (k := o.toNat) (enc := encF) (xs := V) rfl rfl rfl rfl rfl Try.underlying79 Try.sizeOf88 hv_ (by omega) (by omega) Tk ?_
     intro ib95 io95 ha95 hl95 hc95
     refine q_move rfl rfl rfl rfl ?_
     have sp_10 := Fa.write_spec b m1 tb tc t ib95 io95 o.toNat vc (.pointer (some ⟨cb, 0, none⟩)) (.slice po x.v.ck.pa.length poc) (.map (some m2)) (.map (some m3)) (.map (some m4)) (.slice va x.vs.length vc) x.cost x.v.ck.n F1 ta va l V w0_ r0 so f0 htF htn hlc hl1 (by omega) hw0 hr0 hv_ ha95 ws hws
     refine l_call rfl rfl rfl rfl rfl rfl Try.call52 (sp_10) Ts ?_
     rintro rp -
     try simp only [List.cons_append, List.nil_append]
     try simp only [List.cons_append, List.nil_append]
     refine ag_nil ?_
     refine r_done ?_
     refine s_fvarF ((wrV t l x.v.ck.n (w0_, r0, ws, f0)).1.1, (wrV t l x.v.ck.n (w0_, r0, ws, f0)).1.2.1, rp, (wrV t l x.v.ck.n (w0_, r0, ws, f0)).1.2.2.2) (wrV t l x.v.ck.n (w0_, r0, ws, f0)).1 Td rfl rfl rfl ?_
     refine s_restL_put (res := fvarA) (V := V) (Y := x.vs) (S := []) o.toNat ((wrV t l x.v.ck.n (w0_, r0, ws, f0)).1.1, (wrV t l x.v.ck.n (w0_, r0, ws, f0)).1.2.1, rp, (wrV t l x.v.ck.n (w0_, r0, ws, f0)).1.2.2.2) (wrV t l x.v.ck.n (w0_, r0, ws, f0)).1 Ts (by simp) (List.getElem?_eq_some_iff.1 hv_).1 (by omega) ?_
     refine s_keep [] (e' := []) rfl ?_
     refine k_blk_n ?_
     refine k_then_n ?_
     refine c_seq ?_
     refine c_plain (.q 0 (.done)) (by kernel_rfl) ?_
     refine q_assign rfl rfl rfl rfl ?_
     refine r_done ?_
     refine k_then_n ?_
     refine c_ret ?_
     refine s_vecF tb ta tc l Ts ?_
     refine s_rest_put (F := F1) (T := x.v.th) (S := []) ((t : Nat) : Int) F1 x.v.th Ts (by simp) htF (fun _ _ _ => rfl) hth (fun _ _ _ => rfl) ?_
     refine df_fold (b := b) (feF x k ((t : Nat) : Int) o) (pa := pa) (pc := pc) (po := po) (poc := poc) (cb := cb) (m1 := m1) (m2 := m2) (m3 := m3) (m4 := m4) (va := va) (vc := vc) (F1 := F1) (F2 := F2) (F3 := F3) (F4 := F4) (V := (V.set o.toNat ((wrV t l x.v.ck.n (w0_, r0, ws, f0)).1.1, (wrV t l x.v.ck.n (w0_, r0, ws, f0)).1.2.1, rp, (wrV t l x.v.ck.n (w0_, r0, ws, f0)).1.2.2.2))) Ts (by rw [fe_wr hv k2 hw hth, Int.toNat_natCast, vn0 (by omega) (by omega) (by omega) (by omega) (by omega) (by omega) (by omega) (by omega)]) (by rw [nx_pa]) (by rw [List.length_set]) (by first | exact (by simp [hV]) | simp) ?_
     refine ret1 rfl rfl (()) (by rfl) (by trivial) ?_
     exact Tf
    ·
     refine c_seq ?_
     refine c_plain (.q 0 (.q 1 (.done))) (by kernel_rfl) ?_
     refine q_int rfl rfl rfl rfl rfl (b_eql _ _ _ _) ?_
     refine q_assign rfl rfl rfl rfl ?_
     refine r_done ?_
     refine k_then_n ?_
     refine c_cond_p rfl (fun k5 => ?_) (fun k5 => ?_)
     ·
      refine s_rest_opt (F := F2) (T := x.v.lk) (S := []) o Tk (by simp) fun hso => ?_
      refine c_draw rfl (.q 0 (.q 1 (.q 2 (.q 3 (.q 4 (.q 5 (.q 6 (.q 7 ((.l 8 [] (.done))))))))))) (by kernel_rfl) ?_
      refine q_move rfl rfl rfl rfl ?_
      refine q_move rfl rfl rfl rfl ?_
      refine q_nil_p rfl rfl rfl rfl ?_
      refine q_field (k := 3) rfl rfl rfl rfl Try.underlying81 rfl Try.sizeOf77 rfl ?_
      refine q_load_c (j := 3) rfl rfl rfl rfl Try.isAgg77 Tk (by first | rfl | exact (Nat.add_zero _).symm) (by rfl) ?_
      refine q_field (k := 2) rfl rfl rfl rfl Try.underlying36 rfl Try.sizeOf3 rfl ?_
      refine q_load_c (j := 2) rfl rfl rfl rfl Try.isAgg3 Tk (by first | rfl | exact (Nat.add_zero _).symm) (by rfl) ?_
      refine q_lookup1 (ek := ekZ) (ev1 := evA) (F := F2) (m := m2) (k := o) none rfl rfl rfl rfl rfl Try.underlying77 (keyOK_int Try.underlying3) Try.zeroValue86 Tk ?_
      have sp_11 := Fa.join_spec ((F2 o).getD none) (x.v.lk o) (hx.v.lkc _) tb l ta tc hlc
      refine l_call rfl rfl rfl rfl rfl rfl Try.call53 (sp_11) Ts ?_
      rintro ⟨ja, jc⟩ -
      try simp only [List.cons_append, List.nil_append]
      refine ag_nil ?_
      refine r_done ?_
      refine s_opt_back (F := F2) (T := x.v.lk) (S := []) o Ts (by simp) hso ?_
      refine s_vecF tb ja jc (mgF (x.v.lk o) l) Ts ?_
      refine s_rest_put (F := F1) (T := x.v.th) (S := []) ((t : Nat) : Int) F1 (upd x.v.th ((t : Nat) : Int) (some (mgF (x.v.lk o) l))) Ts (by simp) htF (fun _ _ _ => rfl) upd_same (fun q h _ => upd_ne h) ?_
      refine s_keep [] (e' := []) rfl ?_
      refine k_blk_n ?_
      refine k_then_n ?_
      refine c_seq ?_
      refine c_plain (.q 0 (.done)) (by kernel_rfl) ?_
      refine q_assign rfl rfl rfl rfl ?_
      refine r_done ?_
      refine k_then_n ?_
      refine c_ret ?_
      refine df_fold (b := b) (feF x k ((t : Nat) : Int) o) (pa := pa) (pc := pc) (po := po) (poc := poc) (cb := cb) (m1 := m1) (m2 := m2) (m3 := m3) (m4 := m4) (va := va) (vc := vc) (F1 := F1) (F2 := F2) (F3 := F3) (F4 := F4) (V := V) Ts (by rw [fe_no hv (by omega) (by omega), vn5 hth k5]) (by rw [nx_pa]) (by rfl) (by first | exact hV | simp) ?_
      refine ret1 rfl rfl (()) (by rfl) (by trivial) ?_
      exact Tf
     ·
      refine c_seq ?_
      refine c_plain (.q 0 (.q 1 (.done))) (by kernel_rfl) ?_
      refine q_int rfl rfl rfl rfl rfl (b_eql _ _ _ _) ?_
      refine q_assign rfl rfl rfl rfl ?_
      refine r_done ?_
      refine s_keep [0, 3, 5, 8, 65, 109] (e' := [(0, _), (3, _), (5, _), (8, _), (65, _), (109, _)]) rfl ?_
      refine k_then_n ?_
      refine c_cond_p rfl (fun k3 => ?_) (fun k3 => ?_)
      ·
       refine s_rest_opt (F := F3) (T := x.v.vo) (S := []) o Tk (by simp) fun hso => ?_
       refine c_draw rfl (.q 0 (.q 1 (.q 2 (.q 3 (.q 4 (.q 5 (.q 6 (.q 7 ((.l 8 [] (.done))))))))))) (by kernel_rfl) ?_
       refine q_move rfl rfl rfl rfl ?_
       refine q_move rfl rfl rfl rfl ?_
       refine q_nil_p rfl rfl rfl rfl ?_
       refine q_field (k := 4) rfl rfl rfl rfl Try.underlying81 rfl Try.sizeOf77 rfl ?_
       refine q_load_c (j := 4) rfl rfl rfl rfl Try.isAgg77 Tk (by first | rfl | exact (Nat.add_zero _).symm) (by rfl) ?_
       refine q_field (k := 2) rfl rfl rfl rfl Try.underlying36 rfl Try.sizeOf3 rfl ?_
       refine q_load_c (j := 2) rfl rfl rfl rfl Try.isAgg3 Tk (by first | rfl | exact (Nat.add_zero _).symm) (by rfl) ?_
       refine q_lookup1 (ek := ekZ) (ev1 := evA) (F := F3) (m := m3) (k := o) none rfl rfl rfl rfl rfl Try.underlying77 (keyOK_int Try.underlying3) Try.zeroValue86 Tk ?_
       have sp_12 := Fa.join_spec ((F3 o).getD none) (x.v.vo o) (hx.v.voc _) tb l ta tc hlc
       refine l_call rfl rfl rfl rfl rfl rfl Try.call53 (sp_12) Ts ?_
       rintro ⟨ja, jc⟩ -
       try simp only [List.cons_append, List.nil_append]
       refine ag_nil ?_
       refine r_done ?_
       refine s_opt_back (F := F3) (T := x.v.vo) (S := []) o Ts (by simp) hso ?_
       refine s_vecF tb ja jc (mgF (x.v.vo o) l) Ts ?_
       refine s_rest_put (F := F1) (T := x.v.th) (S := []) ((t : Nat) : Int) F1 (upd x.v.th ((t : Nat) : Int) (some (mgF (x.v.vo o) l))) Ts (by simp) htF (fun _ _ _ => rfl) upd_same (fun q h _ => upd_ne h) ?_
       refine s_keep [] (e' := []) rfl ?_
       refine k_blk_n ?_
       refine k_then_n ?_
       refine c_seq ?_
       refine c_plain (.q 0 (.done)) (by kernel_rfl) ?_
       refine q_assign rfl rfl rfl rfl ?_
       refine r_done ?_
       refine k_then_n ?_
       refine c_ret ?_
       refine df_fold (b := b) (feF x k ((t : Nat) : Int) o) (pa := pa) (pc := pc) (po := po) (poc := poc) (cb := cb) (m1 := m1) (m2 := m2) (m3 := m3) (m4 := m4) (va := va) (vc := vc) (F1 := F1) (F2 := F2) (F3 := F3) (F4 := F4) (V := V) Ts (by rw [fe_no hv (by omega) (by omega), vn3 hth k3]) (by rw [nx_pa]) (by rfl) (by first | exact hV | simp) ?_
       refine ret1 rfl rfl (()) (by rfl) (by trivial) ?_
       exact Tf
      ·
       refine c_seq ?_
       refine c_plain (.q 0 (.q 1 (.done))) (by kernel_rfl) ?_
       refine q_int rfl rfl rfl rfl rfl (b_eql _ _ _ _) ?_
       refine q_assign rfl rfl rfl rfl ?_
       refine r_done ?_
       refine k_then_n ?_
       refine c_cond_p rfl (fun k8 => ?_) (fun k8 => ?_)
       ·
        have hne : o ≠ ((t : Nat) : Int) := by
          intro e; rw [e] at hc
          exact join_ne hc k8
        refine s_rest_opt (F := F1) (T := x.v.th) (S := [((t : Nat) : Int)]) o Tk (by simpa using hne) fun hso => ?_
        refine c_draw rfl (.q 0 (.q 1 (.q 2 (.q 3 (.q 4 (.q 5 (.q 6 (.q 7 ((.l 8 [] (.done))))))))))) (by kernel_rfl) ?_
        refine q_move rfl rfl rfl rfl ?_
        refine q_move rfl rfl rfl rfl ?_
        refine q_nil_p rfl rfl rfl rfl ?_
        refine q_field (k := 2) rfl rfl rfl rfl Try.underlying81 rfl Try.sizeOf77 rfl ?_
        refine q_load_c (j := 2) rfl rfl rfl rfl Try.isAgg77 Tk (by first | rfl | exact (Nat.add_zero _).symm) (by rfl) ?_
        refine q_field (k := 2) rfl rfl rfl rfl Try.underlying36 rfl Try.sizeOf3 rfl ?_
        refine q_load_c (j := 2) rfl rfl rfl rfl Try.isAgg3 Tk (by first | rfl | exact (Nat.add_zero _).symm) (by rfl) ?_
        refine q_lookup1 (ek := ekZ) (ev1 := evA) (F := F1) (m := m1) (k := o) none rfl rfl rfl rfl rfl Try.underlying77 (keyOK_int Try.underlying3) Try.zeroValue86 Tk ?_
        have sp_13 := Fa.join_spec ((F1 o).getD none) (x.v.th o) (hx.v.thc _) tb l ta tc hlc
        refine l_call rfl rfl rfl rfl rfl rfl Try.call53 (sp_13) Ts ?_
        rintro ⟨ja, jc⟩ -
        try simp only [List.cons_append, List.nil_append]
        refine ag_nil ?_
        refine r_done ?_
        refine s_opt_back (F := F1) (T := x.v.th) (S := [((t : Nat) : Int)]) o Ts (by simpa using hne) hso ?_
        refine s_vecF tb ja jc (mgF (x.v.th o) l) Ts ?_
        refine s_rest_put (F := F1) (T := x.v.th) (S := []) ((t : Nat) : Int) F1 (upd x.v.th ((t : Nat) : Int) (some (mgF (x.v.th o) l))) Ts (by simp) htF (fun _ _ _ => rfl) upd_same (fun q h _ => upd_ne h) ?_
        refine s_keep [] (e' := []) rfl ?_
        refine k_blk_n ?_
        refine k_then_n ?_
        refine c_seq ?_
        refine c_plain (.q 0 (.done)) (by kernel_rfl) ?_
        refine q_assign rfl rfl rfl rfl ?_
        refine r_done ?_
        refine k_then_n ?_
        refine c_ret ?_
        refine df_fold (b := b) (feF x k ((t : Nat) : Int) o) (pa := pa) (pc := pc) (po := po) (poc := poc) (cb := cb) (m1 := m1) (m2 := m2) (m3 := m3) (m4 := m4) (va := va) (vc := vc) (F1 := F1) (F2 := F2) (F3 := F3) (F4 := F4) (V := V) Ts (by rw [fe_no hv (by omega) (by omega), vn8 hth k8]) (by rw [nx_pa]) (by rfl) (by first | exact hV | simp) ?_
        refine ret1 rfl rfl (()) (by rfl) (by trivial) ?_
        exact Tf
       ·
        refine c_seq ?_
        refine c_plain (.q 0 (.q 1 (.done))) (by kernel_rfl) ?_
        refine q_int rfl rfl rfl rfl rfl (b_eql _ _ _ _) ?_
        refine q_assign rfl rfl rfl rfl ?_
        refine r_done ?_
        refine s_keep [0, 3, 5, 8, 131] (e' := [(0, _), (3, _), (5, _), (8, _), (131, _)]) rfl ?_
        refine k_then_n ?_
        refine c_cond_p rfl (fun k10 => ?_) (fun k10 => ?_)
        ·
         obtain ⟨o5, o7, o9, o10, o11⟩ := can_obj hx.v.ck hc
         have hsh := hx.v.ck.sh
         obtain ⟨q1, q2, q3⟩ := o10 k10
         obtain ⟨p, hrd, hp1⟩ := rd_some hx.v q1 q3
         have hpc := hx.v.rdc _ _ hrd
         have hps := hx.v.rds _ _ hrd
         have hrf : rdF x.v (o, (stF x.v.ck ((t : Nat) : Int)).2.2) = p := by rw [rdF, hrd]; rfl
         have hrd2 : x.v.rd ((stF x.v.ck ((t : Nat) : Int)).2.1, (stF x.v.ck ((t : Nat) : Int)).2.2) = some p := by rw [← q3]; exact hrd
         refine c_plain (.q 0 (.q 1 (.q 2 (.q 3 (.q 4 (.q 5 (.q 6 ((.l 7 [] (.done)))))))))) (by kernel_rfl) ?_
         refine q_move rfl rfl rfl rfl ?_
         refine q_move rfl rfl rfl rfl ?_
         refine q_field (k := 1) rfl rfl rfl rfl Try.underlying107 rfl Try.sizeOf3 rfl ?_
         refine q_load_c (j := 1) rfl rfl rfl rfl Try.isAgg3 Tk (by first | rfl | exact (Nat.add_zero _).symm) (by rfl) ?_
         refine q_field (k := 2) rfl rfl rfl rfl Try.underlying107 rfl Try.sizeOf3 rfl ?_
         refine q_load_c (j := 2) rfl rfl rfl rfl Try.isAgg3 Tk (by first | rfl | exact (Nat.add_zero _).symm) (by rfl) ?_
         refine q_build rfl rfl rfl rfl (vs := [_, _]) (run_buildS Try.underlying125 Try.zeroValue125 (ps := [(0, 1), (1, 1)]) ⟨rfl, Try.sizeOf3, rfl, Try.sizeOf3, trivial⟩ rfl) ?_
         have sp_14 := Fa.leave_spec b m4 (.pointer (some ⟨cb, 0, none⟩)) (.slice po x.v.ck.pa.length poc) (.map (some m1)) (.map (some m2)) (.map (some m3)) (.slice va x.vs.length vc) (.int .i64 x.cost) F4 x.v.rd tb l ta tc hlc (stF x.v.ck ((t : Nat) : Int)).2.1 (stF x.v.ck ((t : Nat) : Int)).2.2 p hrd2 hpc (by omega)
         refine l_call rfl rfl rfl rfl rfl rfl Try.call54 (sp_14) Ts ?_
         rintro ⟨G4, ja, jc⟩ -
         try simp only [List.cons_append, List.nil_append]
         rw [← q3]
         try simp only [List.cons_append, List.nil_append]
         refine ag_nil ?_
         refine r_done ?_
         refine s_vecF tb ja jc (jn l p.1) Ts ?_
         refine s_rest_put (F := F1) (T := x.v.th) (S := []) ((t : Nat) : Int) F1 (upd x.v.th ((t : Nat) : Int) (some (jn l p.1))) Ts (by simp) htF (fun _ _ _ => rfl) upd_same (fun q h _ => upd_ne h) ?_
         refine s_keep [] (e' := []) rfl ?_
         refine k_blk_n ?_
         refine k_then_n ?_
         refine c_seq ?_
         refine c_plain (.q 0 (.done)) (by kernel_rfl) ?_
         refine q_assign rfl rfl rfl rfl ?_
         refine r_done ?_
         refine k_then_n ?_
         refine c_ret ?_
         refine df_fold (b := b) (feF x k ((t : Nat) : Int) o) (pa := pa) (pc := pc) (po := po) (poc := poc) (cb := cb) (m1 := m1) (m2 := m2) (m3 := m3) (m4 := m4) (va := va) (vc := vc) (F1 := F1) (F2 := F2) (F3 := F3) (F4 := G4) (V := V) Ts (by rw [fe_no hv (by omega) (by omega), vn10 hth k10]; simp only [dpF, thF_eq hth, hrf]) (by rw [nx_pa]) (by rfl) (by first | exact hV | simp) ?_
         refine ret1 rfl rfl (()) (by rfl) (by trivial) ?_
         exact Tf
        ·
         refine c_plain (.q 0 (.q 1 (.q 2 ((.l 3 [] (.done)))))) (by kernel_rfl) ?_
         refine q_move rfl rfl rfl rfl ?_
         refine q_loadN_c rfl rfl rfl rfl Try.isAgg36 Try.sizeOf36 Tk 0 (us := [_, _, _]) (by first | rfl | exact (Nat.add_zero _).symm) rfl rfl ?_
         refine q_move rfl rfl rfl rfl ?_
         rcases (show k = 7 ∨ k = 6 ∨ (k = 4 ∧ x.v.vo o = none) ∨ (k = 4 ∧ ∃ q, x.v.vo o = some q) ∨ (k = 9 ∧ x.v.rd (o, (opF x.v.ck o).1) = none) ∨ (k = 9 ∧ ∃ q, x.v.rd (o, (opF x.v.ck o).1) = some q) ∨ (k ≠ 7 ∧ k ≠ 6 ∧ k ≠ 4 ∧ k ≠ 9) by
             cases x.v.vo o <;> cases x.v.rd (o, (opF x.v.ck o).1) <;> simp <;> omega) with k7 | k6 | ⟨k4, hq⟩ | ⟨k4, q, hq⟩ | ⟨k9, hq⟩ | ⟨k9, q, hq⟩ | ⟨h7, h6, h4, h9⟩
         ·
          obtain ⟨o5, o7, o9, o10, o11⟩ := can_obj hx.v.ck hc
          have hsh := hx.v.ck.sh
          have hlt : l.getD t 0 < maxC := by
            have h9 := hv.2 (by unfold relK; omega)
            rw [thF_eq hth, Int.toNat_natCast] at h9; exact h9
          obtain ⟨p0, p1, p2⟩ := o7 k7
          have htl := hx.v.ck.tl
          have hst1 := hsh.th
          have hot : o ≠ ((t : Nat) : Int) := by intro e; rw [e] at p2; exact can_th hc p2
          have sp_15 := Fa.rel_fork b (.pointer (some ⟨cb, 0, none⟩)) (.slice po x.v.ck.pa.length poc) (.map (some m2)) (.map (some m3)) (.map (some m4)) (.slice va x.vs.length vc) (.int .i64 x.cost) tb l ta tc hlc k t o htn hlt m1 F1 x.v.th k7 (by omega) hot
          refine l_call rfl rfl rfl rfl rfl rfl Try.call55 (sp_15) Ts ?_
          rintro ⟨ia, ic, G1⟩ hG1
          try simp only [List.cons_append, List.nil_append]
          try simp only [List.cons_append, List.nil_append]
          refine ag_nil ?_
          refine s_vecF tb ia ic (icL l t) Ts ?_
          refine s_rest_put (F := G1) (T := (upd x.v.th o (some (stL l o.toNat 1)))) (S := []) ((t : Nat) : Int) G1 (upd (upd x.v.th o (some (stL l o.toNat 1))) ((t : Nat) : Int) (some (icL l t))) Ts (by simp) (hG1.trans htF) (fun _ _ _ => rfl) upd_same (fun q h _ => upd_ne h) ?_
          refine r_done ?_
          refine s_keep [] (e' := []) rfl ?_
          refine k_blk_n ?_
          refine k_then_n ?_
          refine c_seq ?_
          refine c_plain (.q 0 (.done)) (by kernel_rfl) ?_
          refine q_assign rfl rfl rfl rfl ?_
          refine r_done ?_
          refine k_then_n ?_
          refine c_ret ?_
          refine df_fold (b := b) (feF x k ((t : Nat) : Int) o) (pa := pa) (pc := pc) (po := po) (poc := poc) (cb := cb) (m1 := m1) (m2 := m2) (m3 := m3) (m4 := m4) (va := va) (vc := vc) (F1 := G1) (F2 := F2) (F3 := F3) (F4 := F4) (V := V) Ts (by rw [fe_no hv (by omega) (by omega), vn7 hth k7, Int.toNat_natCast]) (by rw [nx_pa]) (by rfl) (by first | exact hV | simp) ?_
          refine ret1 rfl rfl (()) (by rfl) (by trivial) ?_
          exact Tf
         ·
          have hlt : l.getD t 0 < maxC := by
            have h9 := hv.2 (by unfold relK; omega)
            rw [thF_eq hth, Int.toNat_natCast] at h9; exact h9
          have sp_16 := Fa.rel_unlock b (.pointer (some ⟨cb, 0, none⟩)) (.slice po x.v.ck.pa.length poc) (.map (some m1)) (.map (some m3)) (.map (some m4)) (.slice va x.vs.length vc) (.int .i64 x.cost) tb l ta tc hlc k t o htn hlt m2 F2 x.v.lk k6
          refine l_call rfl rfl rfl rfl rfl rfl Try.call55 (sp_16) Ts ?_
          rintro ⟨ia, ic, G2⟩ -
          try simp only [List.cons_append, List.nil_append]
          try simp only [List.cons_append, List.nil_append]
          refine ag_nil ?_
          refine s_vecF tb ia ic (icL l t) Ts ?_
          refine s_rest_put (F := F1) (T := x.v.th) (S := []) ((t : Nat) : Int) F1 (upd x.v.th ((t : Nat) : Int) (some (icL l t))) Ts (by simp) htF (fun _ _ _ => rfl) upd_same (fun q h _ => upd_ne h) ?_
          refine r_done ?_
          refine s_keep [] (e' := []) rfl ?_
          refine k_blk_n ?_
          refine k_then_n ?_
          refine c_seq ?_
          refine c_plain (.q 0 (.done)) (by kernel_rfl) ?_
          refine q_assign rfl rfl rfl rfl ?_
          refine r_done ?_
          refine k_then_n ?_
          refine c_ret ?_
          refine df_fold (b := b) (feF x k ((t : Nat) : Int) o) (pa := pa) (pc := pc) (po := po) (poc := poc) (cb := cb) (m1 := m1) (m2 := m2) (m3 := m3) (m4 := m4) (va := va) (vc := vc) (F1 := F1) (F2 := G2) (F3 := F3) (F4 := F4) (V := V) Ts (by rw [fe_no hv (by omega) (by omega), vn6 hth k6, Int.toNat_natCast]) (by rw [nx_pa]) (by rfl) (by first | exact hV | simp) ?_
          refine ret1 rfl rfl (()) (by rfl) (by trivial) ?_
          exact Tf
         ·
          have hlt : l.getD t 0 < maxC := by
            have h9 := hv.2 (by unfold relK; omega)
            rw [thF_eq hth, Int.toNat_natCast] at h9; exact h9
          have sp_17 := Fa.rel_set0 b (.pointer (some ⟨cb, 0, none⟩)) (.slice po x.v.ck.pa.length poc) (.map (some m1)) (.map (some m2)) (.map (some m4)) (.slice va x.vs.length vc) (.int .i64 x.cost) tb l ta tc hlc k t o htn hlt m3 F3 x.v.vo k4 hq
          refine l_call rfl rfl rfl rfl rfl rfl Try.call55 (sp_17) Ts ?_
          rintro ⟨ia, ic, G3⟩ -
          try simp only [List.cons_append, List.nil_append]
          try simp only [List.cons_append, List.nil_append]
          refine ag_nil ?_
          refine s_vecF tb ia ic (icL l t) Ts ?_
          refine s_rest_put (F := F1) (T := x.v.th) (S := []) ((t : Nat) : Int) F1 (upd x.v.th ((t : Nat) : Int) (some (icL l t))) Ts (by simp) htF (fun _ _ _ => rfl) upd_same (fun q h _ => upd_ne h) ?_
          refine r_done ?_
          refine s_keep [] (e' := []) rfl ?_
          refine k_blk_n ?_
          refine k_then_n ?_
          refine c_seq ?_
          refine c_plain (.q 0 (.done)) (by kernel_rfl) ?_
          refine q_assign rfl rfl rfl rfl ?_
          refine r_done ?_
          refine k_then_n ?_
          refine c_ret ?_
          refine df_fold (b := b) (feF x k ((t : Nat) : Int) o) (pa := pa) (pc := pc) (po := po) (poc := poc) (cb := cb) (m1 := m1) (m2 := m2) (m3 := m3) (m4 := m4) (va := va) (vc := vc) (F1 := F1) (F2 := F2) (F3 := G3) (F4 := F4) (V := V) Ts (by rw [fe_no hv (by omega) (by omega), vn4 hth k4, Int.toNat_natCast]) (by rw [nx_pa]) (by rfl) (by first | exact hV | simp) ?_
          refine ret1 rfl rfl (()) (by rfl) (by trivial) ?_
          exact Tf
         ·
          have hlt : l.getD t 0 < maxC := by
            have h9 := hv.2 (by unfold relK; omega)
            rw [thF_eq hth, Int.toNat_natCast] at h9; exact h9
          have sp_18 := Fa.rel_set1 b (.pointer (some ⟨cb, 0, none⟩)) (.slice po x.v.ck.pa.length poc) (.map (some m1)) (.map (some m2)) (.map (some m4)) (.slice va x.vs.length vc) (.int .i64 x.cost) tb l ta tc hlc k t o htn hlt m3 F3 x.v.vo k4 q hq (hx.v.voc _ _ hq)
          refine l_call rfl rfl rfl rfl rfl rfl Try.call55 (sp_18) Ts ?_
          rintro ⟨ia, ic, G3⟩ -
          try simp only [List.cons_append, List.nil_append]
          try simp only [List.cons_append, List.nil_append]
          refine ag_nil ?_
          refine s_vecF tb ia ic (icL l t) Ts ?_
          refine s_rest_put (F := F1) (T := x.v.th) (S := []) ((t : Nat) : Int) F1 (upd x.v.th ((t : Nat) : Int) (some (icL l t))) Ts (by simp) htF (fun _ _ _ => rfl) upd_same (fun q h _ => upd_ne h) ?_
          refine r_done ?_
          refine s_keep [] (e' := []) rfl ?_
          refine k_blk_n ?_
          refine k_then_n ?_
          refine c_seq ?_
          refine c_plain (.q 0 (.done)) (by kernel_rfl) ?_
          refine q_assign rfl rfl rfl rfl ?_
          refine r_done ?_
          refine k_then_n ?_
          refine c_ret ?_
          refine df_fold (b := b) (feF x k ((t : Nat) : Int) o) (pa := pa) (pc := pc) (po := po) (poc := poc) (cb := cb) (m1 := m1) (m2 := m2) (m3 := m3) (m4 := m4) (va := va) (vc := vc) (F1 := F1) (F2 := F2) (F3 := G3) (F4 := F4) (V := V) Ts (by rw [fe_no hv (by omega) (by omega), vn4 hth k4, Int.toNat_natCast]) (by rw [nx_pa]) (by rfl) (by first | exact hV | simp) ?_
          refine ret1 rfl rfl (()) (by rfl) (by trivial) ?_
          exact Tf
         ·
          obtain ⟨o5, o7, o9, o10, o11⟩ := can_obj hx.v.ck hc
          have hsh := hx.v.ck.sh
          have hlt : l.getD t 0 < maxC := by
            have h9 := hv.2 (by unfold relK; omega)
            rw [thF_eq hth, Int.toNat_natCast] at h9; exact h9
          obtain ⟨p0, p1, p2, p3⟩ := o9 k9
          obtain ⟨pp, hpp⟩ := get_lt (l := pl) (i := o.toNat) (by rw [← hpl]; omega)
          obtain ⟨s0, s1, s2⟩ := stF_nz (can_th hc)
          have hst2 : stF (nxF x.v.ck k ((t : Nat) : Int) o) ((t : Nat) : Int) = (2, o, (opF x.v.ck o).1) := by
            rw [(nxF_k hc).2.2.2.1 k9, stF_set s0 s1 rfl, if_pos rfl]
          have sp_19 := Fa.rel_arr0 b (.map (some m1)) (.map (some m2)) (.map (some m3)) (.slice va x.vs.length vc) (.int .i64 x.cost) tb l ta tc hlc k t o htn hlt cb x.v.ck.pa.length pa pc (nxF x.v.ck k ((t : Nat) : Int) o) (next_inv hx.v.ck _ _ _) pl (by rw [hpl]) po poc pp hpp p0 (by rw [← hpl, ← hx.v.ck.bl]; have := hx.v.ck.sh.pl; rw [← hx.v.ck.bl] at this; exact this) (opF x.v.ck o).1 hst2 m4 F4 x.v.rd k9 hq
          refine l_call rfl rfl rfl rfl rfl rfl Try.call55 (sp_19) Ts ?_
          rintro ⟨ia, ic, G4⟩ -
          try simp only [List.cons_append, List.nil_append]
          try simp only [List.cons_append, List.nil_append]
          refine ag_nil ?_
          refine s_vecF tb ia ic (icL l t) Ts ?_
          refine s_rest_put (F := F1) (T := x.v.th) (S := []) ((t : Nat) : Int) F1 (upd x.v.th ((t : Nat) : Int) (some (icL l t))) Ts (by simp) htF (fun _ _ _ => rfl) upd_same (fun q h _ => upd_ne h) ?_
          refine r_done ?_
          refine s_keep [] (e' := []) rfl ?_
          refine k_blk_n ?_
          refine k_then_n ?_
          refine c_seq ?_
          refine c_plain (.q 0 (.done)) (by kernel_rfl) ?_
          refine q_assign rfl rfl rfl rfl ?_
          refine r_done ?_
          refine k_then_n ?_
          refine c_ret ?_
          refine df_fold (b := b) (feF x k ((t : Nat) : Int) o) (pa := pa) (pc := pc) (po := po) (poc := poc) (cb := cb) (m1 := m1) (m2 := m2) (m3 := m3) (m4 := m4) (va := va) (vc := vc) (F1 := F1) (F2 := F2) (F3 := F3) (F4 := G4) (V := V) Ts (by rw [fe_no hv (by omega) (by omega), vn9 hth k9, Int.toNat_natCast, show x.v.ck.pa.getD o.toNat 0 = pp from by rw [hpl]; exact getD_some hpp]) (by rw [nx_pa]) (by rfl) (by first | exact hV | simp) ?_
          refine ret1 rfl rfl (()) (by rfl) (by trivial) ?_
          exact Tf
         ·
          obtain ⟨o5, o7, o9, o10, o11⟩ := can_obj hx.v.ck hc
          have hsh := hx.v.ck.sh
          have hlt : l.getD t 0 < maxC := by
            have h9 := hv.2 (by unfold relK; omega)
            rw [thF_eq hth, Int.toNat_natCast] at h9; exact h9
          obtain ⟨p0, p1, p2, p3⟩ := o9 k9
          obtain ⟨pp, hpp⟩ := get_lt (l := pl) (i := o.toNat) (by rw [← hpl]; omega)
          obtain ⟨s0, s1, s2⟩ := stF_nz (can_th hc)
          have hst2 : stF (nxF x.v.ck k ((t : Nat) : Int) o) ((t : Nat) : Int) = (2, o, (opF x.v.ck o).1) := by
            rw [(nxF_k hc).2.2.2.1 k9, stF_set s0 s1 rfl, if_pos rfl]
          have sp_20 := Fa.rel_arr1 b (.map (some m1)) (.map (some m2)) (.map (some m3)) (.slice va x.vs.length vc) (.int .i64 x.cost) tb l ta tc hlc k t o htn hlt cb x.v.ck.pa.length pa pc (nxF x.v.ck k ((t : Nat) : Int) o) (next_inv hx.v.ck _ _ _) pl (by rw [hpl]) po poc pp hpp p0 (by rw [← hpl, ← hx.v.ck.bl]; have := hx.v.ck.sh.pl; rw [← hx.v.ck.bl] at this; exact this) (opF x.v.ck o).1 hst2 m4 F4 x.v.rd k9 q hq (hx.v.rdc _ _ hq)
          refine l_call rfl rfl rfl rfl rfl rfl Try.call55 (sp_20) Ts ?_
          rintro ⟨ia, ic, G4⟩ -
          try simp only [List.cons_append, List.nil_append]
          try simp only [List.cons_append, List.nil_append]
          refine ag_nil ?_
          refine s_vecF tb ia ic (icL l t) Ts ?_
          refine s_rest_put (F := F1) (T := x.v.th) (S := []) ((t : Nat) : Int) F1 (upd x.v.th ((t : Nat) : Int) (some (icL l t))) Ts (by simp) htF (fun _ _ _ => rfl) upd_same (fun q h _ => upd_ne h) ?_
          refine r_done ?_
          refine s_keep [] (e' := []) rfl ?_
          refine k_blk_n ?_
          refine k_then_n ?_
          refine c_seq ?_
          refine c_plain (.q 0 (.done)) (by kernel_rfl) ?_
          refine q_assign rfl rfl rfl rfl ?_
          refine r_done ?_
          refine k_then_n ?_
          refine c_ret ?_
          refine df_fold (b := b) (feF x k ((t : Nat) : Int) o) (pa := pa) (pc := pc) (po := po) (poc := poc) (cb := cb) (m1 := m1) (m2 := m2) (m3 := m3) (m4 := m4) (va := va) (vc := vc) (F1 := F1) (F2 := F2) (F3 := F3) (F4 := G4) (V := V) Ts (by rw [fe_no hv (by omega) (by omega), vn9 hth k9, Int.toNat_natCast, ← hx.rp o _ q p0 hq rfl]) (by rw [nx_pa]) (by rfl) (by first | exact hV | simp) ?_
          refine ret1 rfl rfl (()) (by rfl) (by trivial) ?_
          exact Tf
         ·
          have sp_21 := Fa.rel_none b tb k t o h7 h6 h4 h9
          refine l_call rfl rfl rfl rfl rfl rfl Try.call55 (sp_21) Ts ?_
          rintro ⟨⟩ -
          try simp only [List.cons_append, List.nil_append]
          refine ag_nil ?_
          refine s_vecF tb ta tc l Ts ?_
          refine s_rest_put (F := F1) (T := x.v.th) (S := []) ((t : Nat) : Int) F1 x.v.th Ts (by simp) htF (fun _ _ _ => rfl) hth (fun _ _ _ => rfl) ?_
          refine r_done ?_
          refine s_keep [] (e' := []) rfl ?_
          refine k_blk_n ?_
          refine k_then_n ?_
          refine c_seq ?_
          refine c_plain (.q 0 (.done)) (by kernel_rfl) ?_
          refine q_assign rfl rfl rfl rfl ?_
          refine r_done ?_
          refine k_then_n ?_
          refine c_ret ?_
          refine df_fold (b := b) (feF x k ((t : Nat) : Int) o) (pa := pa) (pc := pc) (po := po) (poc := poc) (cb := cb) (m1 := m1) (m2 := m2) (m3 := m3) (m4 := m4) (va := va) (vc := vc) (F1 := F1) (F2 := F2) (F3 := F3) (F4 := F4) (V := V) Ts (by rw [fe_no hv (by omega) (by omega), vn0 k5 k3 k8 k10 h6 h4 h9 h7]) (by rw [nx_pa]) (by rfl) (by first | exact hV | simp) ?_
          refine ret1 rfl rfl (()) (by rfl) (by trivial) ?_
          exact Tf
theorem event_spec (pa : Option Addr) (pc : Nat) (po : Option Addr) (poc b : Nat) (x : FS) (hx : FInv x) (hn : x.v.ck.n ≤ 100000000000000) (pl : List Int) (hpl : x.v.ck.pa = pl) (k t o : Int) : Spec Try.prog 14 [.pointer (some ⟨b, 0, none⟩), .agg #[.int .i64 k, .int .i64 t, .int .i64 o]] [dfR pa pc po poc b x, own 1 encZ pa pc pl, own 1 encZ po poc pl] (fun (_ : Unit) => .int .i64 (feE x k t o)) (fun _ => True) (fun _ => [dfR pa pc po poc b (feF x k t o), own 1 encZ pa pc pl, own 1 encZ po poc pl]) := by
  by_cases hv : vcanF x.v k t o
  · obtain ⟨h0, -⟩ := th_rng hx.v (can_th hv.1)
    obtain ⟨i, rfl⟩ := Int.eq_ofNat_of_zero_le h0
    rw [feE, if_pos hv]
    exact event_can pa pc po poc b x hx hn pl hpl k i o hv
  · rw [feE, feF, if_neg hv, if_neg hv]
    by_cases hc : canF x.v.ck k t o
    · obtain ⟨h0, -⟩ := th_rng hx.v (can_th hc)
      obtain ⟨i, rfl⟩ := Int.eq_ofNat_of_zero_le h0
      exact event_max pa pc po poc b x hx hn pl hpl k i o hc hv
    · exact event_no pa pc po poc b x hx hn pl hpl k t o hc
end Go.Ab.Fa
set_option linter.unusedVariables false
set_option linter.unusedSimpArgs false
set_option maxRecDepth 100000
namespace Go.Ab.Fa
open Go Go.Proofs Go.Ab Go.Ab.Fe Go.Ab.Vc Go.Ab.Dj
def vNew (th va vo lk : Int) (pl : List Int) : VS := ⟨newF th va vo lk pl, upd noF 0 (some [1]), noF, noF, noF⟩
theorem one_cv : CV [1] := ⟨by simp [Tr], by decide, by decide⟩
theorem new_vinv {th va vo lk : Int} {pl : List Int} (hok : OkS th va vo lk pl) (hc : CInv (newF th va vo lk pl)) : VInv (vNew th va vo lk pl) := by
  have h1 := hok.th
  have hst : ∀ t, stF (newF th va vo lk pl) t = if t = 0 then (1, 0, 0) else (0, 0, 0) := fun t => by
    have h := (rel_new hok).st t
    rw [← h]
    unfold upd noF
    split <;> rfl
  have hT : ∀ b r : Int, wtN (newF th va vo lk pl) b r = 0 := fun b r => by
    unfold wtN
    rw [List.countP_eq_zero]
    intro s hs h2
    have h3 := of_decide_eq_true h2
    obtain ⟨i, hi⟩ := List.getElem?_of_mem hs
    have h4 := hst (i : Int)
    rw [stF, if_neg (by omega), Int.toNat_natCast, getD_some hi, h3] at h4
    split at h4 <;> simp at h4
  have hB : ∀ b : Int, 0 ≤ (opF (newF th va vo lk pl) b).2 := fun b => by
    unfold opF newF
    rcases getD_mem' (List.replicate pl.length ((0 : Int), (0 : Int))) b.toNat (0, 0) with h | h
    · rw [h]; decide
    · rw [(List.mem_replicate.1 h).2]; decide
  refine ⟨hc, fun t => ?_, fun t l h => ?_, fun t l h => (by cases h), fun t l h => (by cases h), fun r p h => (by cases h), fun r p h => (by cases h), fun b r => ?_, fun b _ _ => ?_⟩
  · show (upd noF 0 (some [1]) t).isSome = true ↔ (stF (newF th va vo lk pl) t).1 ≠ 0
    rw [isS_upd, hst]
    split <;> simp_all [noF]
  · rcases upd_some (show upd noF 0 (some [1]) t = some l from h) with ⟨-, h⟩ | ⟨-, h⟩
    · cases h; exact one_cv
    · cases h
  · show ((wtN (newF th va vo lk pl) b r : Nat) : Int) ≤ _
    rw [hT]; exact Int.le_refl _
  · show ((wtN (newF th va vo lk pl) b _ : Nat) : Int) ≤ (opF (newF th va vo lk pl) b).2
    rw [hT]; exact hB b
def fNew (th va vo lk : Int) (pl : List Int) : FS := ⟨vNew th va vo lk pl, List.replicate va.toNat f0V, 0⟩
theorem new_finv {th va vo lk : Int} {pl : List Int} (hok : OkS th va vo lk pl) (hc : CInv (newF th va vo lk pl)) : FInv (fNew th va vo lk pl) := by
  have hva := hok.va
  refine ⟨new_vinv hok hc, by simp [fNew, vNew, newF]; omega, fun w hw => ?_, by simp [fNew, vNew, newF], fun t l h => ?_, fun o r ho hr => rfl, fun o r p ho h => (by cases h)⟩
  · rw [(List.mem_replicate.1 hw).2]
    exact ⟨by decide, by decide, fun s h => (by cases h), by decide, by show (-1 : Int) < 0; decide⟩
  · rcases upd_some (show upd noF 0 (some [1]) t = some l from h) with ⟨rfl, h⟩ | ⟨-, h⟩
    · cases h; decide
    · cases h
def fEv (x : FS) (e : T3) : FS := feF x e.1 e.2.1 e.2.2
def fAll (x : FS) (es : List T3) : FS := es.foldl fEv x
def canFE (x : FS) (e : T3) : Prop := vcanF x.v e.1 e.2.1 e.2.2
instance (x : FS) (e : T3) : Decidable (canFE x e) := by unfold canFE; infer_instance
def okFAll (x : FS) (es : List T3) : Prop := ∀ (i : Nat) e, es[i]? = some e → canFE (fAll x (es.take i)) e
theorem fAll_next {x : FS} {es : List T3} {i : Nat} {e : T3} (h : es[i]? = some e) : fAll x (es.take (i + 1)) = fEv (fAll x (es.take i)) e := by
  rw [List.take_add_one, h, fAll, fAll, List.foldl_append]; rfl
theorem fAll_inv {x : FS} (hx : FInv x) : ∀ es, FInv (fAll x es)
  | [] => hx
  | e :: es => fAll_inv (fe_inv hx _ _ _) es
theorem fe_len {x : FS} (k t o : Int) : (feF x k t o).vs.length = x.vs.length := by
  unfold feF
  split
  · unfold feA
    split
    · simp
    split
    · simp
    · rfl
  · rfl
theorem fe_n {x : FS} (k t o : Int) : (feF x k t o).v.ck.n ≤ x.v.ck.n + 1 ∧ (feF x k t o).v.ck.pa = x.v.ck.pa ∧ (feF x k t o).v.ck.th = x.v.ck.th ∧ (feF x k t o).v.ck.va = x.v.ck.va := by
  by_cases hv : vcanF x.v k t o
  · obtain ⟨h1, h2, h3⟩ := nx_all hv.1
    rw [feF, if_pos hv]
    show (vnF x.v k t o).ck.n ≤ _ ∧ (vnF x.v k t o).ck.pa = _ ∧ (vnF x.v k t o).ck.th = _ ∧ (vnF x.v k t o).ck.va = _
    rw [vn_ck, h1, h2, h3, nx_pa]
    exact ⟨Int.le_refl _, rfl, rfl, rfl⟩
  · rw [feF, if_neg hv]; exact ⟨by omega, rfl, rfl, rfl⟩
theorem fAll_n : ∀ (es : List T3) (x : FS), (fAll x es).v.ck.n ≤ x.v.ck.n + es.length ∧ (fAll x es).v.ck.pa = x.v.ck.pa ∧ (fAll x es).v.ck.th = x.v.ck.th ∧ (fAll x es).v.ck.va = x.v.ck.va ∧ (fAll x es).vs.length = x.vs.length
  | [], x => ⟨by simp [fAll], rfl, rfl, rfl, rfl⟩
  | e :: es, x => by
    have h := fAll_n es (fEv x e)
    have h2 := fe_n (x := x) e.1 e.2.1 e.2.2
    refine ⟨?_, h.2.1.trans h2.2.1, h.2.2.1.trans h2.2.2.1, h.2.2.2.1.trans h2.2.2.2, h.2.2.2.2.trans (fe_len _ _ _)⟩
    have h3 := h.1
    have h4 : (fEv x e).v.ck.n ≤ x.v.ck.n + 1 := h2.1
    simp only [List.length_cons]
    show (fAll (fEv x e) es).v.ck.n ≤ _
    omega
theorem okF_next {x : FS} {es : List T3} {i : Nat} {e : T3} (h : es[i]? = some e) (ho : okFAll x (es.take i)) (hc : canFE (fAll x (es.take i)) e) : okFAll x (es.take (i + 1)) := by
  intro j q hj
  have hi := (List.getElem?_eq_some_iff.1 h).1
  have hj2 := (List.getElem?_eq_some_iff.1 hj).1
  rw [List.length_take] at hj2
  rw [List.getElem?_take_of_lt (by omega)] at hj
  rw [List.take_take, Nat.min_eq_left (by omega)]
  rcases Nat.lt_or_ge j i with h1 | h1
  · have := ho j q (by rw [List.getElem?_take_of_lt h1]; exact hj)
    rwa [List.take_take, Nat.min_eq_left (by omega)] at this
  · obtain rfl : j = i := by omega
    rw [h] at hj; cases hj; exact hc
/-- What is told of variables. -/
def wFF (x : FS) (z : Int) : Option V4F := if 0 ≤ z then x.vs[z.toNat]? else none
def wrE (w : Option V4F) : Nat := (w.map (·.1)).getD 0
def rdE (w : Option V4F) : Nat := (w.map (·.2.1)).getD 0
def shE (w : Option V4F) : Option (List Int) := (w.map (·.2.2.1)).getD none
def flFF (vs : List V4F) : List T2 := (vs.zipIdx.filter (fun p => decide (0 ≤ p.1.2.2.2))).map fun p => ((p.2 : Int), p.1.2.2.2)
theorem flFF_next {vs : List V4F} {i : Nat} {w : V4F} (h : vs[i]? = some w) : flFF (vs.take (i + 1)) = flFF (vs.take i) ++ (if 0 ≤ w.2.2.2 then [((i : Int), w.2.2.2)] else []) := by
  have hi := (List.getElem?_eq_some_iff.1 h).1
  unfold flFF
  rw [List.take_add_one, h, List.zipIdx_append, List.filter_append, List.map_append, List.length_take, Nat.min_eq_left (by omega)]
  congr 1
  by_cases hw : 0 ≤ w.2.2.2
  · simp [hw]
  · simp [hw]
theorem flFF_len (vs : List V4F) : (flFF vs).length ≤ vs.length := by
  unfold flFF
  rw [List.length_map]
  exact Nat.le_trans (List.length_filter_le _ _) (by simp)
theorem events_spec (pa : Option Addr) (pc : Nat) (po : Option Addr) (poc b : Nat) (x : FS) (hx : FInv x) (hn : x.v.ck.n ≤ 10000000000000) (pl : List Int) (hpl : x.v.ck.pa = pl) (xs : List T3) (ao : Option Addr) (n c : Nat) (A : HProp) (hr : RdS A ao (xs.flatMap enc3)) (hxn : xs.length = n) (hb : n ≤ 4000000) : Spec Try.prog 12 [.pointer (some ⟨b, 0, none⟩), .slice ao n c] [A, dfR pa pc po poc b x, own 1 encZ pa pc pl, own 1 encZ po poc pl] (fun (i : Nat) => .tuple #[.int .i64 ((i : Nat) : Int), .int .i64 (if i = n then 0 else 6)]) (fun i => i ≤ n ∧ okFAll x (xs.take i) ∧ (i < n → ∀ e, xs[i]? = some e → ¬ canFE (fAll x (xs.take i)) e)) (fun i => [A, dfR pa pc po poc b (fAll x (xs.take i)), own 1 encZ pa pc pl, own 1 encZ po poc pl]) := by
 refine spec_mk (n := 28) Try.func12 rfl rfl rfl ?_
 intro Γ w0
 simp only [argE, List.cons_append, List.nil_append, Nat.zero_add, Nat.reduceAdd]
 refine c_seq ?_
 refine c_plain (.q 0 (.q 1 (.done))) (by kernel_rfl) ?_
 refine q_assign rfl rfl rfl rfl ?_
 refine q_assign rfl rfl rfl rfl ?_
 refine r_done ?_
 refine k_then_n ?_
 refine c_seq ?_
 refine c_seq ?_
 refine c_plain (.q 0 ((.l 1 [] (.done)))) (by kernel_rfl) ?_
 refine q_move rfl rfl rfl rfl ?_
 refine s_take (A := dfR pa pc po poc b x) Tk ?_
 refine df_open fun cb m1 m2 m3 m4 va vc F1 F2 F3 F4 V hV => ?_
 have sp_1 := Fa.none_spec b cb (.slice po x.v.ck.pa.length poc) (.map (some m1)) (.map (some m2)) (.map (some m3)) (.map (some m4)) (.slice va x.vs.length vc) (.int .i64 x.cost)
 refine l_call rfl rfl rfl rfl rfl rfl Try.call32 (sp_1) Ts ?_
 rintro ⟨⟩ -
 try simp only [List.cons_append, List.nil_append]
 refine ag_nil ?_
 refine df_fold (b := b) x (pa := pa) (pc := pc) (po := po) (poc := poc) (cb := cb) (m1 := m1) (m2 := m2) (m3 := m3) (m4 := m4) (va := va) (vc := vc) (F1 := F1) (F2 := F2) (F3 := F3) (F4 := F4) (V := V) Ts (by rfl) (by rfl) (by rfl) (by first | exact hV | simp) ?_
 refine r_done ?_
 refine k_then_n ?_
 refine c_cond_f rfl ?_
 refine c_skip ?_
 refine k_then_n ?_
 refine c_seq ?_
 refine c_seq ?_
 refine c_plain (.q 0 (.q 1 (.q 2 (.done)))) (by kernel_rfl) ?_
 refine q_move rfl rfl rfl rfl ?_
 refine q_len rfl rfl rfl rfl Try.underlying26 ?_
 refine q_move rfl rfl rfl rfl ?_
 refine r_done ?_
 refine s_keep [0, 1, 11, 12, 13] (e' := [(0, _), (1, _), (11, _), (12, _), (13, _)]) rfl ?_
 refine k_then_n ?_
 refine c_block ?_
 refine c_loop2 (α := Nat) (fun (i : Nat) => i ≤ n ∧ (okFAll x (xs.take i))) (fun (i : Nat) => [(13, .int .i64 ((i : Nat) : Int))]) (fun (i : Nat) => [dfR pa pc po poc b (fAll x (xs.take i)), own 1 encZ pa pc pl, own 1 encZ po poc pl]) (fun (i : Nat) => n - i) [0, 1, 11, 12] (er := [(0, _), (1, _), (11, _), (12, _)]) rfl (0) ?_ (by exact ⟨rfl, trivial⟩) (by (try dsimp only); (try simp only [Nat.add_zero, Nat.zero_add]); (repeat ((with_reducible apply Z2); focus (first | (with_reducible (repeat (first | exact Z0 | apply Z1)); done) | (repeat (first | exact Z0 | apply Z1))))); exact Z3) ?_
 · exact ⟨Nat.zero_le _, fun j e h => by simp at h⟩
 rintro i ⟨hle_i, ho⟩
 try simp only [List.cons_append, List.nil_append]
 obtain ⟨hdn, hdp, hdt, hdv, -⟩ := fAll_n (xs.take i) x
 rw [List.length_take] at hdn
 refine c_seq ?_
 refine c_plain (.q 0 (.done)) (by kernel_rfl) ?_
 refine q_int rfl rfl rfl rfl rfl (b_lss _ _ _ _) ?_
 refine r_done ?_
 refine k_then_n ?_
 refine c_seq ?_
 refine c_cond_p rfl (fun hlt => ?_) (fun hlt => ?_)
 ·
  refine c_skip ?_
  refine k_then_n ?_
  refine c_seq ?_
  refine c_block ?_
  refine c_seq ?_
  refine c_plain (.q 0 (.q 1 (.q 2 ((.l 3 [] (.q 4 ((.l 5 [] (.done))))))))) (by kernel_rfl) ?_
  refine q_move rfl rfl rfl rfl ?_
  obtain ⟨e, he⟩ := get_lt (l := xs) (i := i) (by first | omega | (simp; done) | (simp; omega))
  refine q_idxR (sz := 2) (k := i) rfl rfl rfl rfl rfl Try.underlying26 Try.sizeOf36 (hr) he enc3_len (by first | rfl | omega) (by omega) ?_
  intro ib16 io16 _ hd16
  refine q_loadN (vs := [_, _, _]) rfl rfl rfl rfl Try.isAgg36 Try.sizeOf36 Tk (hd16) rfl ?_
  refine l_alloc rfl rfl rfl Try.zeroValue36 (zs := [.int .i64 0, .int .i64 0, .int .i64 0]) rfl ?_
  intro b7
  refine ag_nil ?_
  refine q_assign rfl rfl rfl rfl ?_
  refine l_store (j := 0) rfl rfl rfl rfl Try.sizeOf36 (us := [_, _, _]) rfl rfl rfl Tk (by first | rfl | exact (Nat.add_zero _).symm) (by first | decide | (simp; done) | omega) ?_
  simp only [setL, List.set]
  refine ag_nil ?_
  refine r_done ?_
  refine s_keep [0, 1, 6, 7, 11, 12, 13] (e' := [(0, _), (1, _), (6, _), (7, _), (11, _), (12, _), (13, _)]) rfl ?_
  refine k_then_n ?_
  refine c_seq ?_
  refine c_plain (.q 0 (.q 1 ((.l 2 [] (.q 3 (.done)))))) (by kernel_rfl) ?_
  refine q_move rfl rfl rfl rfl ?_
  refine q_loadN_c rfl rfl rfl rfl Try.isAgg36 Try.sizeOf36 Tk 0 (us := [_, _, _]) (by first | rfl | exact (Nat.add_zero _).symm) rfl rfl ?_
  have sp_2 := Fa.event_spec pa pc po poc b (fAll x (xs.take i)) (fAll_inv hx _) (by omega) pl (hdp.trans hpl) e.1 e.2.1 e.2.2
  refine l_call rfl rfl rfl rfl rfl rfl Try.call14 (sp_2) Ts ?_
  rintro ⟨⟩ -
  try simp only [List.cons_append, List.nil_append]
  refine ag_nil ?_
  refine q_assign rfl rfl rfl rfl ?_
  refine r_done ?_
  refine s_keep [0, 1, 6, 8, 11, 12, 13] (e' := [(0, _), (1, _), (6, _), (8, _), (11, _), (12, _), (13, _)]) rfl ?_
  refine k_then_n ?_
  refine c_seq ?_
  refine c_plain (.q 0 (.q 1 (.done))) (by kernel_rfl) ?_
  refine q_move rfl rfl rfl rfl ?_
  refine q_int rfl rfl rfl rfl rfl (b_neq _ _ _ _) ?_
  refine r_done ?_
  refine k_then_n ?_
  refine c_cond_p rfl (fun hne => ?_) (fun hne => ?_)
  ·
   have hncan : ¬ canFE (fAll x (xs.take i)) e := fun h => hne (if_pos h)
   rw [show (feF (fAll x (xs.take i)) e.1 e.2.1 e.2.2) = (fAll x (xs.take i)) from if_neg hncan]
   refine c_seq ?_
   refine c_plain (.q 0 (.q 1 (.q 2 (.q 3 (.done))))) (by kernel_rfl) ?_
   refine q_move rfl rfl rfl rfl ?_
   refine q_move rfl rfl rfl rfl ?_
   refine q_assign rfl rfl rfl rfl ?_
   refine q_assign rfl rfl rfl rfl ?_
   refine r_done ?_
   refine s_keep [4, 5] (e' := [(4, _), (5, _)]) rfl ?_
   refine k_then_n ?_
   refine c_ret ?_
   refine k_blk_ret ?_
   refine k_then_ret ?_
   refine k_then_ret ?_
   refine k_blk_ret ?_
   refine k_then_ret ?_
   refine ret2 rfl rfl rfl (i) (by rw [if_neg (by omega), show feE (fAll x (xs.take i)) e.1 e.2.1 e.2.2 = 6 from if_neg hncan]) (by exact ⟨by omega, ho, fun _ e2 h2 => by rw [he] at h2; cases h2; exact hncan⟩) ?_
   exact Tf
  ·
   have hcan : canFE (fAll x (xs.take i)) e := Classical.byContradiction fun h => hne (by rw [show feE (fAll x (xs.take i)) e.1 e.2.1 e.2.2 = 6 from if_neg h]; decide)
   refine c_skip ?_
   refine k_blk_n ?_
   refine k_then_n ?_
   refine c_plain (.q 0 (.q 1 (.done))) (by kernel_rfl) ?_
   refine q_int rfl rfl rfl rfl rfl (b_add' _ (by exact fits_i64 (by omega) (by omega))) ?_
   refine q_move rfl rfl rfl rfl ?_
   refine r_done ?_
   refine s_keep [0, 1, 11, 12, 13] (e' := [(0, _), (1, _), (11, _), (12, _), (13, _)]) rfl ?_
   refine k_then_n ?_
   rw [show (feF (fAll x (xs.take i)) e.1 e.2.1 e.2.2) = fAll x (xs.take (i + 1)) from (fAll_next he).symm]
   refine loop_next (x := i) (i + 1) ?_ ?_ ?_ ?_
   · exact ⟨by omega, okF_next he ho hcan⟩
   · show n - (i + 1) < n - i; omega
   · exact ⟨rfl, rfl, rfl, rfl, rfl, trivial⟩
   · (try simp only [List.cons_append, List.nil_append]); exact Tf
 ·
  refine c_exit ?_
  refine k_then_exit ?_
  refine k_then_exit ?_
  refine k_blk_here ?_
  refine k_then_n ?_
  refine c_seq ?_
  refine c_plain (.q 0 (.q 1 (.q 2 (.q 3 (.done))))) (by kernel_rfl) ?_
  refine q_move rfl rfl rfl rfl ?_
  refine q_len rfl rfl rfl rfl Try.underlying26 ?_
  refine q_assign rfl rfl rfl rfl ?_
  refine q_assign rfl rfl rfl rfl ?_
  refine r_done ?_
  refine s_keep [4, 5] (e' := [(4, _), (5, _)]) rfl ?_
  refine k_then_n ?_
  refine c_ret ?_
  obtain rfl : i = n := by omega
  refine ret2 rfl rfl rfl (i) (by rw [if_pos rfl]) (by exact ⟨Nat.le_refl _, ho, fun h => absurd h (Nat.lt_irrefl _)⟩) ?_
  exact Tf
theorem flags_spec (pa : Option Addr) (pc : Nat) (po : Option Addr) (poc b : Nat) (x : FS) (hx : FInv x) : Spec Try.prog 22 [.pointer (some ⟨b, 0, none⟩)] [dfR pa pc po poc b x] (fun (r : Option Addr × Nat) => .slice r.1 (flFF x.vs).length r.2) (fun r => True) (fun r => [dfR pa pc po poc b x, own 2 enc2 r.1 r.2 (flFF x.vs)]) := by
 refine spec_mk (n := 30) Try.func22 rfl rfl rfl ?_
 intro Γ w0
 simp only [argE, List.cons_append, List.nil_append, Nat.zero_add, Nat.reduceAdd]
 have hva := hx.v.ck.sh.va
 have hvl := hx.len
 refine c_seq ?_
 refine c_plain (.q 0 (.done)) (by kernel_rfl) ?_
 refine q_assign rfl rfl rfl rfl ?_
 refine r_done ?_
 refine k_then_n ?_
 refine c_seq ?_
 refine c_seq ?_
 refine s_take (A := dfR pa pc po poc b x) Tk ?_
 refine df_open fun cb m1 m2 m3 m4 va vc F1 F2 F3 F4 V hV => ?_
 refine c_plain (.q 0 ((.l 1 [] (.done)))) (by kernel_rfl) ?_
 refine q_move rfl rfl rfl rfl ?_
 have sp_1 := Fa.none_spec b cb (.slice po x.v.ck.pa.length poc) (.map (some m1)) (.map (some m2)) (.map (some m3)) (.map (some m4)) (.slice va x.vs.length vc) (.int .i64 x.cost)
 refine l_call rfl rfl rfl rfl rfl rfl Try.call32 (sp_1) Ts ?_
 rintro ⟨⟩ -
 try simp only [List.cons_append, List.nil_append]
 refine ag_nil ?_
 refine r_done ?_
 refine k_then_n ?_
 refine c_cond_f rfl ?_
 refine c_skip ?_
 refine k_then_n ?_
 refine c_seq ?_
 refine c_plain (.q 0 (.done)) (by kernel_rfl) ?_
 refine q_assign rfl rfl rfl rfl ?_
 refine r_done ?_
 refine k_then_n ?_
 refine c_seq ?_
 refine c_seq ?_
 refine c_plain (.q 0 (.q 1 (.q 2 (.q 3 (.q 4 (.q 5 (.done))))))) (by kernel_rfl) ?_
 refine q_move rfl rfl rfl rfl ?_
 refine q_nil_p rfl rfl rfl rfl ?_
 refine q_field (k := 6) rfl rfl rfl rfl Try.underlying81 rfl Try.sizeOf79 rfl ?_
 refine q_load_c (j := 6) rfl rfl rfl rfl Try.isAgg79 Tk (by first | rfl | exact (Nat.add_zero _).symm) (by rfl) ?_
 refine q_len rfl rfl rfl rfl Try.underlying79 ?_
 refine q_move rfl rfl rfl rfl ?_
 refine r_done ?_
 refine s_keep [3, 11, 12, 13] (e' := [(3, _), (11, _), (12, _), (13, _)]) rfl ?_
 refine k_then_n ?_
 refine c_block ?_
 refine s_heap (fun _ h => own_nil (sz := 2) (enc := enc2) h) ?_
 refine c_loop2 (α := Nat × Option Addr × Nat) (fun (x_ : Nat × Option Addr × Nat) => match x_ with | (k, ga, gc) => k ≤ x.vs.length) (fun (x_ : Nat × Option Addr × Nat) => match x_ with | (k, ga, gc) => [(3, .slice ga ((flFF (x.vs.take k)).length) gc), (13, .int .i64 ((k : Nat) : Int))]) (fun (x_ : Nat × Option Addr × Nat) => match x_ with | (k, ga, gc) => [restL fvarA V x.vs [], own 2 enc2 ga gc (flFF (x.vs.take k))]) (fun (x_ : Nat × Option Addr × Nat) => match x_ with | (k, ga, gc) => x.vs.length - k) [11, 12] (er := [(11, _), (12, _)]) rfl (0, none, 0) ?_ (by exact ⟨rfl, rfl, trivial⟩) (by (try dsimp only); (try simp only [Nat.add_zero, Nat.zero_add]); rw [List.take_zero, show flFF ([] : List V4F) = [] from rfl]; (repeat ((with_reducible apply Z2); focus (first | (with_reducible (repeat (first | exact Z0 | apply Z1)); done) | (repeat (first | exact Z0 | apply Z1))))); exact Z3) ?_
 · exact Nat.zero_le _
 rintro ⟨k, ga, gc⟩ hle_k
 try simp only [List.cons_append, List.nil_append]
 have hfl := flFF_len (x.vs.take k)
 rw [List.length_take] at hfl
 refine c_seq ?_
 refine c_plain (.q 0 (.done)) (by kernel_rfl) ?_
 refine q_int rfl rfl rfl rfl rfl (b_lss _ _ _ _) ?_
 refine r_done ?_
 refine k_then_n ?_
 refine c_seq ?_
 refine c_cond_p rfl (fun hlt => ?_) (fun hlt => ?_)
 ·
  obtain ⟨w, hw⟩ := get_lt (l := x.vs) (i := k) (by omega)
  refine s_restL_take (res := fvarA) (V := V) (Y := x.vs) (S := []) k Tk (by simp) hw fun v_ hv_ => ?_
  obtain ⟨w0_, r0, so, f0⟩ := v_
  refine s_fvar Tk fun he1 he2 he3 => ?_
  simp only at he1 he2 he3
  refine c_skip ?_
  refine k_then_n ?_
  refine c_seq ?_
  refine c_block ?_
  refine c_seq ?_
  refine c_plain (.q 0 (.q 1 (.q 2 ((.l 3 [] (.q 4 ((.l 5 [] (.done))))))))) (by kernel_rfl) ?_
  refine q_move rfl rfl rfl rfl ?_
  refine q_idxO (sz := 3) (k := k) (enc := encF) (xs := V) rfl rfl rfl rfl rfl Try.underlying79 Try.sizeOf88 hv_ (by first | rfl | omega) (by omega) Tk ?_
  intro ib16 io16 ha16 hl16 hc16
  refine q_loadN_O (j := 0) (k' := k) (us := [_, _, _, _]) (enc := encF) (off := io16) rfl rfl rfl rfl Try.isAgg88 Try.sizeOf88 ha16 encF_len hv_ Tk (by first | rfl | exact (Nat.add_zero _).symm | omega) (by rfl) rfl ?_
  refine l_alloc rfl rfl rfl Try.zeroValue88 (zs := [.int .u64 0, .int .u64 0, .pointer none, .int .i64 0]) rfl ?_
  intro b5
  refine ag_nil ?_
  refine q_assign rfl rfl rfl rfl ?_
  refine l_store (j := 0) rfl rfl rfl rfl Try.sizeOf88 (us := [_, _, _, _]) rfl rfl rfl Tk (by first | rfl | exact (Nat.add_zero _).symm) (by first | decide | (simp; done) | omega) ?_
  simp only [setL, List.set]
  refine ag_nil ?_
  refine r_done ?_
  refine s_keep [3, 4, 5, 11, 12, 13] (e' := [(3, _), (4, _), (5, _), (11, _), (12, _), (13, _)]) rfl ?_
  refine k_then_n ?_
  refine c_seq ?_
  refine c_plain (.q 0 (.q 1 (.q 2 (.done)))) (by kernel_rfl) ?_
  refine q_field (k := 3) rfl rfl rfl rfl Try.underlying88 rfl Try.sizeOf3 rfl ?_
  refine q_load_c (j := 3) rfl rfl rfl rfl Try.isAgg3 Tk (by first | rfl | exact (Nat.add_zero _).symm) (by rfl) ?_
  refine q_int rfl rfl rfl rfl rfl (b_geq _ _ _ _) ?_
  refine r_done ?_
  refine k_then_n ?_
  refine c_cond_p rfl (fun hfg => ?_) (fun hfg => ?_)
  ·
   refine c_plain (.q 0 (.q 1 (.q 2 (.q 3 (.q 4 ((.l 5 [] ((.l 6 [] (.q 7 (.done))))))))))) (by kernel_rfl) ?_
   refine q_move rfl rfl rfl rfl ?_
   refine q_move rfl rfl rfl rfl ?_
   refine q_field (k := 3) rfl rfl rfl rfl Try.underlying88 rfl Try.sizeOf3 rfl ?_
   refine q_load_c (j := 3) rfl rfl rfl rfl Try.isAgg3 Tk (by first | rfl | exact (Nat.add_zero _).symm) (by rfl) ?_
   refine q_build rfl rfl rfl rfl (vs := [_, _]) (run_buildS Try.underlying101 Try.zeroValue101 (ps := [(0, 1), (1, 1)]) ⟨rfl, Try.sizeOf3, rfl, Try.sizeOf3, trivial⟩ rfl) ?_
   refine l_buildSlice rfl rfl rfl rfl (run_build1 (us := [_, _]) Try.underlying61 Try.sizeOf101 rfl Try.zeroValue101 rfl rfl rfl) ?_
   intro b26
   refine ag_nil ?_
   refine l_append (sz := 2) (enc := enc2) (xs := (flFF (x.vs.take k))) rfl rfl rfl rfl rfl Try.underlying61 Try.typeInfo101 rfl rfl rfl (by decide) Tk Tk (by first | rfl | omega | (simp; done) | (simp; omega)) (ys := [(((k : Nat) : Int), f0)]) (rds_some rdn_cells) (by rfl) (by first | rfl | omega) (enc2_len) (enc2_one) (by omega) (by show _ * 16 ≤ _; omega) ?_
   intro ao27 cp27
   refine ag_nil ?_
   refine q_assign rfl rfl rfl rfl ?_
   refine r_done ?_
   refine s_keep [3, 11, 12, 13] (e' := [(3, _), (11, _), (12, _), (13, _)]) rfl ?_
   refine k_blk_n ?_
   refine k_then_n ?_
   refine c_plain (.q 0 (.q 1 (.done))) (by kernel_rfl) ?_
   refine q_int rfl rfl rfl rfl rfl (b_add' _ (by exact fits_i64 (by omega) (by omega))) ?_
   refine q_move rfl rfl rfl rfl ?_
   refine r_done ?_
   refine k_then_n ?_
   have hnx := flFF_next hw
   rw [if_pos (by rw [← he3]; exact hfg)] at hnx
   rw [show ((k : Int), w.2.2.2) = ((k : Int), f0) from by rw [← he3]] at hnx
   rw [← hnx]
   refine s_fvarF (w0_, r0, so, f0) w Td he1 he2 he3 ?_
   refine s_restL_back (res := fvarA) (V := V) (Y := x.vs) (S := []) k Ts (by simp) hv_ hw ?_
   refine s_eq 3 rfl (v' := .slice ao27 (flFF (x.vs.take (k + 1))).length cp27) (by rw [hnx, List.length_append]; rfl) ?_
   refine s_eq 3 rfl (v' := .slice ao27 ((flFF (x.vs.take (k + 1))).length) cp27) (by first | rfl | (congr 1; done) | (congr 1 <;> first | rfl | omega | (simp; done) | (simp; omega))) ?_
   refine loop_next (x := (k, ga, gc)) ((k + 1, ao27, cp27)) ?_ ?_ ?_ ?_
   · try dsimp only
     omega
   · show x.vs.length - (k + 1) < x.vs.length - k; omega
   · exact ⟨rfl, rfl, rfl, rfl, trivial⟩
   · (try simp only [List.cons_append, List.nil_append]); exact Tf
  ·
   refine c_skip ?_
   refine k_blk_n ?_
   refine k_then_n ?_
   refine c_plain (.q 0 (.q 1 (.done))) (by kernel_rfl) ?_
   refine q_int rfl rfl rfl rfl rfl (b_add' _ (by exact fits_i64 (by omega) (by omega))) ?_
   refine q_move rfl rfl rfl rfl ?_
   refine r_done ?_
   refine s_keep [3, 11, 12, 13] (e' := [(3, _), (11, _), (12, _), (13, _)]) rfl ?_
   refine k_then_n ?_
   have hnx := flFF_next hw
   rw [if_neg (by rw [← he3]; exact hfg), List.append_nil] at hnx
   rw [← hnx]
   refine s_fvarF (w0_, r0, so, f0) w Td he1 he2 he3 ?_
   refine s_restL_back (res := fvarA) (V := V) (Y := x.vs) (S := []) k Ts (by simp) hv_ hw ?_
   refine s_eq 3 rfl (v' := .slice ga ((flFF (x.vs.take (k + 1))).length) gc) (by first | rfl | (congr 1; done) | (congr 1 <;> first | rfl | omega | (simp; done) | (simp; omega))) ?_
   refine loop_next (x := (k, ga, gc)) ((k + 1, ga, gc)) ?_ ?_ ?_ ?_
   · try dsimp only
     omega
   · show x.vs.length - (k + 1) < x.vs.length - k; omega
   · exact ⟨rfl, rfl, rfl, rfl, trivial⟩
   · (try simp only [List.cons_append, List.nil_append]); exact Tf
 ·
  refine c_exit ?_
  refine k_then_exit ?_
  refine k_then_exit ?_
  refine k_blk_here ?_
  refine k_then_n ?_
  refine c_seq ?_
  refine c_plain (.q 0 (.q 1 (.done))) (by kernel_rfl) ?_
  refine q_move rfl rfl rfl rfl ?_
  refine q_assign rfl rfl rfl rfl ?_
  refine r_done ?_
  refine s_keep [2] (e' := [(2, _)]) rfl ?_
  refine k_then_n ?_
  refine c_ret ?_
  obtain rfl : k = x.vs.length := by omega
  rw [List.take_length]
  refine df_fold (b := b) x (pa := pa) (pc := pc) (po := po) (poc := poc) (cb := cb) (m1 := m1) (m2 := m2) (m3 := m3) (m4 := m4) (va := va) (vc := vc) (F1 := F1) (F2 := F2) (F3 := F3) (F4 := F4) (V := V) Ts (by rfl) (by rfl) (by rfl) (by first | exact hV | simp) ?_
  refine ret1 rfl rfl ((ga, gc)) (by first | rfl | (first | rfl | (congr 1; done) | (congr 1 <;> first | rfl | omega | (simp; done) | (simp; omega)))) (by trivial) ?_
  exact Tf
end Go.Ab.Fa
set_option linter.unusedVariables false
set_option linter.unusedSimpArgs false
set_option maxRecDepth 100000
namespace Go.Ab.Fa
open Go Go.Proofs Go.Ab Go.Ab.Fe Go.Ab.Vc Go.Ab.Dj
theorem new_spec (th va vo lk : Int) (pl : List Int) (ao : Option Addr) (n c : Nat) (A : HProp) (hr : RdS A ao (pl.flatMap encZ)) (hn : pl.length = n) (hb : n ≤ 4000000) (hok : OkS th va vo lk pl) : Spec Try.prog 9 [.agg #[.int .i64 th, .int .i64 va, .int .i64 vo, .int .i64 lk, .slice ao n c]] [A] (fun (r : Nat × (Option Addr × Nat) × Option Addr × Nat) => .tuple #[.pointer (some ⟨r.1, 0, none⟩), .int .i64 0]) (fun r => True) (fun r => [A, own 1 encZ r.2.1.1 r.2.1.2 pl, own 1 encZ r.2.2.1 r.2.2.2 pl, dfR r.2.1.1 r.2.1.2 r.2.2.1 r.2.2.2 r.1 (fNew th va vo lk pl)]) := by
 refine spec_mk (n := 52) Try.func9 rfl rfl rfl ?_
 intro Γ w0
 simp only [argE, List.cons_append, List.nil_append, Nat.zero_add, Nat.reduceAdd]
 refine c_seq ?_
 refine c_plain ((.l 0 [] (.q 1 (.q 2 (.done))))) (by kernel_rfl) ?_
 refine l_box rfl rfl rfl rfl (us := [_, _, _, _, _]) rfl ?_
 intro b1
 refine ag_nil ?_
 refine q_assign rfl rfl rfl rfl ?_
 refine q_assign rfl rfl rfl rfl ?_
 refine r_done ?_
 refine k_then_n ?_
 refine c_seq ?_
 refine c_plain (.q 0 ((.l 1 [] (.q 2 (.q 3 (.q 4 (.q 5 (.q 6 (.done))))))))) (by kernel_rfl) ?_
 refine q_loadN_c rfl rfl rfl rfl Try.isAgg25 Try.sizeOf25 Tk 0 (us := [_, _, _, _, _]) (by first | rfl | exact (Nat.add_zero _).symm) rfl rfl ?_
 have sp_1 := Fe.new_spec th va vo lk pl ao n c A (hr) (by first | rfl | assumption | omega | (simp; done) | (simp; omega)) (by omega) hok
 refine l_call rfl rfl rfl rfl rfl rfl Try.call27 (sp_1) Ts ?_
 rintro ⟨nb, nbp, nbc⟩ -
 try simp only [List.cons_append, List.nil_append]
 refine ag_nil ?_
 refine q_move rfl rfl rfl rfl ?_
 refine q_extract rfl rfl rfl rfl rfl ?_
 refine q_extract rfl rfl rfl rfl rfl ?_
 refine q_assign rfl rfl rfl rfl ?_
 refine q_assign rfl rfl rfl rfl ?_
 refine r_done ?_
 refine s_keep [1, 4, 5] (e' := [(1, _), (4, _), (5, _)]) rfl ?_
 refine k_then_n ?_
 refine c_seq ?_
 refine c_seq ?_
 refine c_plain (.q 0 (.q 1 (.done))) (by kernel_rfl) ?_
 refine q_move rfl rfl rfl rfl ?_
 refine q_int rfl rfl rfl rfl rfl (b_neq _ _ _ _) ?_
 refine s_eq 13 rfl (v' := .bool false) (by first | rfl | simp) ?_
 refine r_done ?_
 refine k_then_n ?_
 refine c_cond_f rfl ?_
 refine c_skip ?_
 refine k_then_n ?_
 refine c_seq ?_
 refine c_plain (.q 0 (.q 1 (.q 2 ((.l 3 [] ((.l 4 [] ((.l 5 [] ((.l 6 [] ((.l 7 [] (.q 8 ((.l 9 [] (.q 10 (.done)))))))))))))))))) (by kernel_rfl) ?_
 refine q_move rfl rfl rfl rfl ?_
 refine q_field (k := 4) rfl rfl rfl rfl Try.underlying25 rfl Try.sizeOf23 rfl ?_
 refine q_load_c (j := 4) rfl rfl rfl rfl Try.isAgg23 Tk (by first | rfl | exact (Nat.add_zero _).symm) (by rfl) ?_
 have sp_2 := Fe.clonez_spec pl ao n c A (by first | rfl | assumption | omega | (simp; done) | (simp; omega)) (hr) (by omega)
 refine l_call rfl rfl rfl rfl rfl rfl Try.call28 (sp_2) Ts ?_
 rintro ⟨qa, qc⟩ -
 try simp only [List.cons_append, List.nil_append]
 refine ag_nil ?_
 refine l_makeMap Int (Option Addr) ekZ evA rfl rfl rfl ?_
 intro m1
 refine ag_nil ?_
 refine l_makeMap Int (Option Addr) ekZ evA rfl rfl rfl ?_
 intro m2
 refine ag_nil ?_
 refine l_makeMap Int (Option Addr) ekZ evA rfl rfl rfl ?_
 intro m3
 refine ag_nil ?_
 refine l_makeMap (Int × Int) (Option Addr) ek2 evA rfl rfl rfl ?_
 intro m4
 refine ag_nil ?_
 refine q_build rfl rfl rfl rfl (vs := [_, _, _, _, _, _, _, _]) (run_buildS Try.underlying81 Try.zeroValue81 (ps := [(0, 1), (1, 1), (2, 1), (3, 1), (4, 1), (5, 1), (6, 1), (7, 1)]) ⟨rfl, Try.sizeOf76, rfl, Try.sizeOf23, rfl, Try.sizeOf77, rfl, Try.sizeOf77, rfl, Try.sizeOf77, rfl, Try.sizeOf78, rfl, Try.sizeOf79, rfl, Try.sizeOf3, trivial⟩ rfl) ?_
 refine l_box rfl rfl rfl rfl (us := [_, _, _, _, _, _, _, _]) rfl ?_
 intro bd
 refine ag_nil ?_
 refine q_assign rfl rfl rfl rfl ?_
 refine r_done ?_
 refine s_keep [1, 6] (e' := [(1, _), (6, _)]) rfl ?_
 refine k_then_n ?_
 refine c_seq ?_
 refine c_seq ?_
 obtain ⟨nv, hnv⟩ : ∃ q : Nat, va = (q : Int) := ⟨va.toNat, by have := hok.va; omega⟩
 have hvb := hok.va
 refine s_restL_nil (res := fvarA) ?_
 refine s_heap (fun _ h => own_nil (sz := 4) (enc := encF) h) ?_
 refine c_plain (.q 0 (.q 1 (.q 2 (.done)))) (by kernel_rfl) ?_
 refine q_field (k := 1) rfl rfl rfl rfl Try.underlying25 rfl Try.sizeOf3 rfl ?_
 refine q_load_c (j := 1) rfl rfl rfl rfl Try.isAgg3 Tk (by first | rfl | exact (Nat.add_zero _).symm) (by rfl) ?_
 refine s_eq 26 rfl (v' := .int .i64 ((nv : Nat) : Int)) (by rw [hnv]) ?_
 refine q_move rfl rfl rfl rfl ?_
 refine r_done ?_
 refine k_then_n ?_
 refine c_block ?_
 refine c_loop2 (α := Nat × List P4F × Option Addr × Nat) (fun (x_ : Nat × List P4F × Option Addr × Nat) => match x_ with | (k, GV, ga, gc) => k ≤ nv ∧ (GV.length = k)) (fun (x_ : Nat × List P4F × Option Addr × Nat) => match x_ with | (k, GV, ga, gc) => [(27, .int .i64 ((k : Nat) : Int))]) (fun (x_ : Nat × List P4F × Option Addr × Nat) => match x_ with | (k, GV, ga, gc) => [restL fvarA GV (List.replicate k f0V) [], cells bd 0 [.pointer (some ⟨nb, 0, none⟩), .slice qa n qc, .map (some m1), .map (some m2), .map (some m3), .map (some m4), .slice ga GV.length gc, .int .i64 0], own 4 encF ga gc GV]) (fun (x_ : Nat × List P4F × Option Addr × Nat) => match x_ with | (k, GV, ga, gc) => nv - k) [6, 26] (er := [(6, _), (26, _)]) rfl (0, ([] : List P4F), none, 0) ?_ (by exact ⟨rfl, trivial⟩) (by (try dsimp only); (try simp only [Nat.add_zero, Nat.zero_add]); (repeat ((with_reducible apply Z2); focus (first | (with_reducible (repeat (first | exact Z0 | apply Z1)); done) | (repeat (first | exact Z0 | apply Z1))))); exact Z3) ?_
 · exact ⟨Nat.zero_le _, rfl⟩
 rintro ⟨k, GV, ga, gc⟩ ⟨hle_k, hGV⟩
 try simp only [List.cons_append, List.nil_append]
 refine c_seq ?_
 refine c_plain (.q 0 (.done)) (by kernel_rfl) ?_
 refine q_int rfl rfl rfl rfl rfl (b_lss _ _ _ _) ?_
 refine r_done ?_
 refine k_then_n ?_
 refine c_seq ?_
 refine c_cond_p rfl (fun hlt => ?_) (fun hlt => ?_)
 ·
  refine c_skip ?_
  refine k_then_n ?_
  refine c_seq ?_
  refine c_block ?_
  refine c_plain (.q 0 (.q 1 (.q 2 (.q 3 (.q 4 (.q 5 ((.l 6 [] ((.l 7 [] (.q 8 (.q 9 ((.l 10 [] (.done))))))))))))))) (by kernel_rfl) ?_
  refine q_move rfl rfl rfl rfl ?_
  refine q_move rfl rfl rfl rfl ?_
  refine q_nil_p rfl rfl rfl rfl ?_
  refine q_field (k := 6) rfl rfl rfl rfl Try.underlying81 rfl Try.sizeOf79 rfl ?_
  refine q_load_c (j := 6) rfl rfl rfl rfl Try.isAgg79 Tk (by first | rfl | exact (Nat.add_zero _).symm) (by rfl) ?_
  refine q_build rfl rfl rfl rfl (vs := [_, _, _, _]) (run_buildS Try.underlying88 Try.zeroValue88 (ps := [(0, 1), (1, 1), (2, 1), (3, 1)]) ⟨rfl, Try.sizeOf49, rfl, Try.sizeOf49, rfl, Try.sizeOf86, rfl, Try.sizeOf3, trivial⟩ rfl) ?_
  refine l_buildSlice rfl rfl rfl rfl (run_build1 (us := [_, _, _, _]) Try.underlying79 Try.sizeOf88 rfl Try.zeroValue88 rfl rfl rfl) ?_
  intro b35
  refine ag_nil ?_
  refine l_append (sz := 4) (enc := encF) (xs := GV) rfl rfl rfl rfl rfl Try.underlying79 Try.typeInfo88 rfl rfl rfl (by decide) Tk Tk (by first | rfl | omega | (simp; done) | (simp; omega)) (ys := [(0, 0, none, (-1))]) (rds_some rdn_cells) (by rfl) (by first | rfl | omega) (encF_len) (encF_one) (by omega) (by show _ * 32 ≤ _; omega) ?_
  intro ao36 cp36
  refine ag_nil ?_
  refine q_nil_p rfl rfl rfl rfl ?_
  refine q_field (k := 6) rfl rfl rfl rfl Try.underlying81 rfl Try.sizeOf79 rfl ?_
  refine l_store (j := 6) rfl rfl rfl rfl Try.sizeOf79 (us := [_]) rfl rfl rfl Tk (by first | rfl | exact (Nat.add_zero _).symm) (by first | decide | (simp; done) | omega) ?_
  simp only [setL, List.set]
  refine ag_nil ?_
  refine r_done ?_
  refine s_optNF ?_
  refine s_fvarF ((0, 0, none, -1) : P4F) f0V Td rfl rfl rfl ?_
  refine s_restL_push ((0, 0, none, -1) : P4F) f0V Ts (by simp [hGV]) ?_
  rw [← List.replicate_succ']
  refine s_keep [6, 26, 27] (e' := [(6, _), (26, _), (27, _)]) rfl ?_
  refine k_blk_n ?_
  refine k_then_n ?_
  refine c_plain (.q 0 (.q 1 (.done))) (by kernel_rfl) ?_
  refine q_int rfl rfl rfl rfl rfl (b_add' _ (by exact fits_i64 (by omega) (by omega))) ?_
  refine q_move rfl rfl rfl rfl ?_
  refine r_done ?_
  refine k_then_n ?_
  have hgl2 : (GV ++ [((0, 0, none, -1) : P4F)]).length = GV.length + 1 := by simp
  refine s_take (A := cells bd 0 [.pointer (some ⟨nb, 0, none⟩), .slice qa n qc, .map (some m1), .map (some m2), .map (some m3), .map (some m4), .slice ao36 (GV.length + 1) cp36, .int .i64 0]) Td ?_
  refine s_heap (Γ' := cells bd 0 [.pointer (some ⟨nb, 0, none⟩), .slice qa n qc, .map (some m1), .map (some m2), .map (some m3), .map (some m4), .slice ao36 ((GV ++ [((0, 0, none, -1) : P4F)]).length) cp36, .int .i64 0] :: _) (fun _ h => (by rw [hgl2]; exact h)) ?_
  refine loop_next (x := (k, GV, ga, gc)) ((k + 1, GV ++ [((0, 0, none, -1) : P4F)], ao36, cp36)) ?_ ?_ ?_ ?_
  · try dsimp only
    exact ⟨by omega, by simp [hGV]⟩
  · show nv - (k + 1) < nv - k; omega
  · exact ⟨rfl, rfl, rfl, trivial⟩
  · (try simp only [List.cons_append, List.nil_append]); exact Tf
 ·
  refine c_exit ?_
  refine k_then_exit ?_
  refine k_then_exit ?_
  refine k_blk_here ?_
  refine k_then_n ?_
  refine c_seq ?_
  refine c_draw rfl (.q 0 (.q 1 (.q 2 (.q 3 ((.l 4 [3] ((.l 5 [] (.done))))))))) (by kernel_rfl) ?_
  refine q_move rfl rfl rfl rfl ?_
  refine q_nil_p rfl rfl rfl rfl ?_
  refine q_field (k := 2) rfl rfl rfl rfl Try.underlying81 rfl Try.sizeOf77 rfl ?_
  refine q_load_c (j := 2) rfl rfl rfl rfl Try.isAgg77 Tk (by first | rfl | exact (Nat.add_zero _).symm) (by rfl) ?_
  have sp_3 := cnew_spec
  refine l_call rfl rfl rfl rfl rfl rfl Try.call29 (sp_3) Ts ?_
  rintro tb -
  try simp only [List.cons_append, List.nil_append]
  refine ag_load_c (q := 2) rfl rfl rfl Try.isAgg77 Tk (by first | rfl | exact (Nat.add_zero _).symm) (by rfl) ?_
  refine ag_nil ?_
  refine l_mapUpd (ek := ekZ) (ev1 := evA) (F := (noF : Int → Option (Option Addr))) (m := m1) (k := 0) (v := (some ⟨tb, 0, none⟩ : Option Addr)) (by first | exact .inl rfl | exact .inr rfl) rfl rfl rfl rfl Try.underlying77 (keyOK_int Try.underlying3) Tk ?_
  refine ag_nil ?_
  refine r_done ?_
  refine s_keep [6] (e' := [(6, _)]) rfl ?_
  refine k_then_n ?_
  refine c_seq ?_
  refine c_plain (.q 0 (.q 1 (.q 2 (.q 3 (.q 4 ((.l 5 [] (.done)))))))) (by kernel_rfl) ?_
  refine q_move rfl rfl rfl rfl ?_
  refine q_nil_p rfl rfl rfl rfl ?_
  refine q_field (k := 2) rfl rfl rfl rfl Try.underlying81 rfl Try.sizeOf77 rfl ?_
  refine q_load_c (j := 2) rfl rfl rfl rfl Try.isAgg77 Tk (by first | rfl | exact (Nat.add_zero _).symm) (by rfl) ?_
  refine q_lookup1 (ek := ekZ) (ev1 := evA) (F := (upd (noF : Int → Option (Option Addr)) 0 (some (some ⟨tb, 0, none⟩ : Option Addr)))) (m := m1) (k := 0) none rfl rfl rfl rfl rfl Try.underlying77 (keyOK_int Try.underlying3) Try.zeroValue86 Tk ?_
  refine s_eq 49 rfl (v' := .pointer (some ⟨tb, 0, none⟩)) (by simp only [upd_same]; rfl) ?_
  refine s_heap (fun _ h => own_nil (sz := 1) (enc := encU) h) ?_
  have sp_4 := Vc.set_spec tb ([] : List Int) none 0 0 (by first | rfl | assumption | omega | (simp; done) | (simp; omega)) nil_cv 0 (by omega) 1 (by decide) (by decide)
  refine l_call rfl rfl rfl rfl rfl rfl Try.call30 (sp_4) Ts ?_
  rintro ⟨sa, sc⟩ -
  try simp only [List.cons_append, List.nil_append]
  refine ag_nil ?_
  refine r_done ?_
  refine s_keep [6] (e' := [(6, _)]) rfl ?_
  refine k_then_n ?_
  refine c_seq ?_
  refine c_plain (.q 0 (.q 1 (.q 2 (.done)))) (by kernel_rfl) ?_
  refine q_move rfl rfl rfl rfl ?_
  refine q_assign rfl rfl rfl rfl ?_
  refine q_assign rfl rfl rfl rfl ?_
  refine r_done ?_
  refine k_then_n ?_
  refine c_ret ?_
  obtain rfl : k = nv := by omega
  have hs1 : stL [] 0 1 = [1] := by decide
  rw [hs1]
  refine s_vecF tb sa sc [1] Ts ?_
  refine s_rest_new (res := vecA) (noF : Int → Option (Option Addr)) (noF : Int → Option (List Int)) (fun _ => rfl) (fun _ => rfl) ?_
  refine s_rest_opt (F := (noF : Int → Option (Option Addr))) (T := (noF : Int → Option (List Int))) (S := []) (0 : Int) Tk (by simp) fun _ => ?_
  refine s_rest_put (F := (noF : Int → Option (Option Addr))) (T := (noF : Int → Option (List Int))) (S := []) (0 : Int) (upd noF 0 (some (some ⟨tb, 0, none⟩))) (upd noF 0 (some [1])) Ts (by simp) upd_same (fun q h _ => upd_ne h) upd_same (fun q h _ => upd_ne h) ?_
  refine s_rest_new (res := vecA) (noF : Int → Option (Option Addr)) (noF : Int → Option (List Int)) (fun _ => rfl) (fun _ => rfl) ?_
  refine s_rest_new (res := vecA) (noF : Int → Option (Option Addr)) (noF : Int → Option (List Int)) (fun _ => rfl) (fun _ => rfl) ?_
  refine s_rest_new (res := keptA) (noF : Int × Int → Option (Option Addr)) (noF : Int × Int → Option (List Int × Int)) (fun _ => rfl) (fun _ => rfl) ?_
  refine df_fold (b := bd) (fNew th va vo lk pl) (pa := nbp) (pc := nbc) (po := qa) (poc := qc) (cb := nb) (m1 := m1) (m2 := m2) (m3 := m3) (m4 := m4) (va := ga) (vc := gc) (V := GV) Ts (by rw [fNew, hnv, Int.toNat_natCast]; rfl) (by exact hn.symm) (by rw [hGV, List.length_replicate]) (by rw [hGV, List.length_replicate]) ?_
  refine ret2 rfl rfl rfl ((bd, (nbp, nbc), qa, qc)) (by first | rfl | (first | rfl | (congr 1; done) | (congr 1 <;> first | rfl | omega | (simp; done) | (simp; omega)))) (by trivial) ?_
  exact Tf
end Go.Ab.Fa
set_option linter.unusedVariables false
set_option linter.unusedSimpArgs false
set_option maxRecDepth 100000
namespace Go.Ab.Fa
open Go Go.Proofs Go.Ab Go.Ab.Fe Go.Ab.Vc Go.Ab.Dj
def xk0 : FS := fNew 2 1 0 0 []
def ek : List T3 := [(7, 0, 1), (2, 0, 0), (2, 1, 0), (10, 0, 0)]
def xk3 : FS := fAll xk0 (ek.take 3)
theorem okk : OkS 2 1 0 0 [] := okS_iff.2 (by decide)
theorem xk0_inv : FInv xk0 := new_finv okk (new_inv okk)
theorem xk3_inv : FInv xk3 := fAll_inv xk0_inv _
theorem ek_can : (canFE (fAll xk0 (ek.take 0)) (7, 0, 1) ∧ canFE (fAll xk0 (ek.take 1)) (2, 0, 0) ∧ canFE (fAll xk0 (ek.take 2)) (2, 1, 0)) ∧ ¬ canFE (fAll xk0 (ek.take 3)) (10, 0, 0) := by decide +kernel
theorem ek_three : ∀ i : Nat, i ≤ 4 → okFAll xk0 (ek.take i) → (i < 4 → ∀ e, ek[i]? = some e → ¬ canFE (fAll xk0 (ek.take i)) e) → i = 3 := by
  intro i h1 ho h2
  obtain ⟨⟨c0, c1, c2⟩, c3⟩ := ek_can
  rcases (show i = 0 ∨ i = 1 ∨ i = 2 ∨ i = 3 ∨ i = 4 by omega) with rfl | rfl | rfl | rfl | rfl
  · exact absurd c0 (h2 (by decide) _ rfl)
  · exact absurd c1 (h2 (by decide) _ rfl)
  · exact absurd c2 (h2 (by decide) _ rfl)
  · rfl
  · exact absurd (ho 3 (10, 0, 0) rfl) c3
theorem xk3_flags : flFF xk3.vs = [(0, 2)] := by decide +kernel
theorem clocks_same (xs ys : List Int) (ao bo : Option Addr) (n m c d : Nat) (A : HProp) (hn : xs.length = n) (hr : RdS A ao (xs.flatMap encU)) (hm : ys.length = m) (hr2 : RdS A bo (ys.flatMap encU)) (hb : n ≤ 4000000000000) : Spec Try.prog 60 [.slice ao n c, .slice bo m d] [A] (fun (_ : Unit) => .bool (decide (xs = ys))) (fun _ => True) (fun _ => [A]) := by
 refine spec_mk (n := 26) Try.func60 rfl rfl rfl ?_
 intro Γ w0
 simp only [argE, List.cons_append, List.nil_append, Nat.zero_add, Nat.reduceAdd]
 refine c_seq ?_
 refine c_plain (.q 0 (.done)) (by kernel_rfl) ?_
 refine q_assign rfl rfl rfl rfl ?_
 refine r_done ?_
 refine k_then_n ?_
 refine c_seq ?_
 refine c_seq ?_
 refine c_plain (.q 0 (.q 1 (.q 2 (.q 3 (.q 4 (.done)))))) (by kernel_rfl) ?_
 refine q_move rfl rfl rfl rfl ?_
 refine q_len rfl rfl rfl rfl Try.underlying50 ?_
 refine q_move rfl rfl rfl rfl ?_
 refine q_len rfl rfl rfl rfl Try.underlying50 ?_
 refine q_int rfl rfl rfl rfl rfl (b_neq _ _ _ _) ?_
 refine r_done ?_
 refine s_keep [0, 1, 10] (e' := [(0, _), (1, _), (10, _)]) rfl ?_
 refine k_then_n ?_
 refine c_cond_p rfl (fun hne => ?_) (fun hne => ?_)
 ·
  refine c_seq ?_
  refine c_plain (.q 0 (.done)) (by kernel_rfl) ?_
  refine q_assign rfl rfl rfl rfl ?_
  refine r_done ?_
  refine k_then_n ?_
  refine c_ret ?_
  refine k_then_ret ?_
  refine ret1 rfl rfl (()) (by congr 1; symm; simp only [decide_eq_false_iff_not]; intro e; rw [e] at hn; omega) (by trivial) ?_
  exact Tf
 ·
  refine c_skip ?_
  refine k_then_n ?_
  refine c_seq ?_
  refine c_seq ?_
  refine c_plain (.q 0 (.done)) (by kernel_rfl) ?_
  refine q_assign rfl rfl rfl rfl ?_
  refine r_done ?_
  refine k_then_n ?_
  refine c_block ?_
  have hnm : n = m := by omega
  subst hnm
  refine c_loop2 (α := Nat) (fun (i : Nat) => i ≤ n ∧ (xs.take i = ys.take i)) (fun (i : Nat) => [(5, .int .i64 ((i : Nat) : Int))]) (fun (i : Nat) => []) (fun (i : Nat) => n - i) [0, 1] (er := [(0, _), (1, _)]) rfl (0) ?_ (by exact ⟨rfl, trivial⟩) (by (try dsimp only); (try simp only [Nat.add_zero, Nat.zero_add]); (repeat ((with_reducible apply Z2); focus (first | (with_reducible (repeat (first | exact Z0 | apply Z1)); done) | (repeat (first | exact Z0 | apply Z1))))); exact Z3) ?_
  · exact ⟨Nat.zero_le _, rfl⟩
  rintro i ⟨hle_i, ht⟩
  try simp only [List.cons_append, List.nil_append]
  refine c_seq ?_
  refine c_seq ?_
  refine c_plain (.q 0 (.q 1 (.q 2 (.q 3 (.done))))) (by kernel_rfl) ?_
  refine q_move rfl rfl rfl rfl ?_
  refine q_move rfl rfl rfl rfl ?_
  refine q_len rfl rfl rfl rfl Try.underlying50 ?_
  refine q_int rfl rfl rfl rfl rfl (b_lss _ _ _ _) ?_
  refine r_done ?_
  refine k_then_n ?_
  refine c_cond_p rfl (fun hlt => ?_) (fun hlt => ?_)
  ·
   refine c_skip ?_
   refine k_then_n ?_
   refine c_seq ?_
   refine c_block ?_
   refine c_seq ?_
   refine c_draw rfl (.q 0 (.q 1 (.q 2 (.q 3 (.q 4 (.q 5 (.q 6 (.q 7 (.q 8 (.done)))))))))) (by kernel_rfl) ?_
   refine q_move rfl rfl rfl rfl ?_
   refine q_move rfl rfl rfl rfl ?_
   obtain ⟨x, hx⟩ := get_lt (l := xs) (i := i) (by first | omega | (simp; done) | (simp; omega))
   refine q_idxR (sz := 0) (k := i) rfl rfl rfl rfl rfl Try.underlying50 Try.sizeOf48 (hr) hx encU_len (by first | rfl | omega) (by omega) ?_
   intro ib19 io19 _ hd19
   refine q_load rfl rfl rfl rfl Try.isAgg48 Tk (hd19 0 (.int .u64 x) rfl) ?_
   refine q_move rfl rfl rfl rfl ?_
   refine q_move rfl rfl rfl rfl ?_
   obtain ⟨y, hy⟩ := get_lt (l := ys) (i := i) (by first | omega | (simp; done) | (simp; omega))
   refine q_idxR (sz := 0) (k := i) rfl rfl rfl rfl rfl Try.underlying50 Try.sizeOf48 (hr2) hy encU_len (by first | rfl | omega) (by omega) ?_
   intro ib23 io23 _ hd23
   refine q_load rfl rfl rfl rfl Try.isAgg48 Tk (hd23 0 (.int .u64 y) rfl) ?_
   refine q_int rfl rfl rfl rfl rfl (b_neq _ _ _ _) ?_
   refine r_done ?_
   refine s_keep [0, 1, 5, 25] (e' := [(0, _), (1, _), (5, _), (25, _)]) rfl ?_
   refine k_then_n ?_
   refine c_cond_p rfl (fun hxy => ?_) (fun hxy => ?_)
   ·
    refine c_seq ?_
    refine c_plain (.q 0 (.done)) (by kernel_rfl) ?_
    refine q_assign rfl rfl rfl rfl ?_
    refine r_done ?_
    refine s_keep [4] (e' := [(4, _)]) rfl ?_
    refine k_then_n ?_
    refine c_ret ?_
    refine k_blk_ret ?_
    refine k_then_ret ?_
    refine k_then_ret ?_
    refine k_blk_ret ?_
    refine k_then_ret ?_
    refine ret1 rfl rfl (()) (by congr 1; symm; simp only [decide_eq_false_iff_not]; intro e; rw [e, hy] at hx; cases hx; exact hxy rfl) (by trivial) ?_
    exact Tf
   ·
    have hxy : x = y := Classical.byContradiction hxy
    refine c_skip ?_
    refine k_blk_n ?_
    refine k_then_n ?_
    refine c_plain (.q 0 (.q 1 (.q 2 (.done)))) (by kernel_rfl) ?_
    refine q_move rfl rfl rfl rfl ?_
    refine q_int rfl rfl rfl rfl rfl (b_add' _ (by exact fits_i64 (by omega) (by omega))) ?_
    refine q_assign rfl rfl rfl rfl ?_
    refine r_done ?_
    refine k_then_n ?_
    refine loop_next (x := i) (i + 1) ?_ ?_ ?_ ?_
    · exact ⟨by omega, by rw [List.take_add_one, List.take_add_one, hx, hy, ht, hxy]⟩
    · show n - (i + 1) < n - i; omega
    · exact ⟨rfl, rfl, rfl, trivial⟩
    · (try simp only [List.cons_append, List.nil_append]); exact Tf
  ·
   refine c_exit ?_
   refine k_then_exit ?_
   refine k_then_exit ?_
   refine k_blk_here ?_
   refine k_then_n ?_
   refine c_seq ?_
   refine c_plain (.q 0 (.done)) (by kernel_rfl) ?_
   refine q_assign rfl rfl rfl rfl ?_
   refine r_done ?_
   refine s_keep [4] (e' := [(4, _)]) rfl ?_
   refine k_then_n ?_
   refine c_ret ?_
   refine ret1 rfl rfl (()) (by congr 1; symm; simp only [decide_eq_true_eq]; obtain rfl : i = n := (by omega); rw [List.take_of_length_le (by omega), List.take_of_length_le (by omega)] at ht; exact ht) (by trivial) ?_
   exact Tf
theorem state_same (wa ra wb rb na nb ca cb : Nat) (sa sb : Bool) (aa ab : Option Addr) (xa xb : List Int) (A : HProp) (hna : xa.length = na) (hra : RdS A aa (xa.flatMap encU)) (hnb : xb.length = nb) (hrb : RdS A ab (xb.flatMap encU)) (hb : na ≤ 4000000000000) : Spec Try.prog 59 [.agg #[.int .u64 ((wa : Nat) : Int), .int .u64 ((ra : Nat) : Int), .bool sa, .slice aa na ca], .agg #[.int .u64 ((wb : Nat) : Int), .int .u64 ((rb : Nat) : Int), .bool sb, .slice ab nb cb]] [A] (fun (_ : Unit) => .bool (decide (wa = wb ∧ ra = rb ∧ sa = sb ∧ xa = xb))) (fun _ => True) (fun _ => [A]) := by
 refine spec_mk (n := 31) Try.func59 rfl rfl rfl ?_
 intro Γ w0
 simp only [argE, List.cons_append, List.nil_append, Nat.zero_add, Nat.reduceAdd]
 refine c_seq ?_
 refine c_plain ((.l 0 [] ((.l 1 [] (.q 2 (.done)))))) (by kernel_rfl) ?_
 refine l_box rfl rfl rfl rfl (us := [_, _, _, _]) rfl ?_
 intro b2
 refine ag_nil ?_
 refine l_box rfl rfl rfl rfl (us := [_, _, _, _]) rfl ?_
 intro b3
 refine ag_nil ?_
 refine q_assign rfl rfl rfl rfl ?_
 refine r_done ?_
 refine k_then_n ?_
 refine c_seq ?_
 refine c_plain (.q 0 (.q 1 (.q 2 (.q 3 (.q 4 (.q 5 (.q 6 (.q 7 (.q 8 (.q 9 (.q 10 (.q 11 (.q 12 (.q 13 (.q 14 (.q 15 (.q 16 (.q 17 (.q 18 (.q 19 (.q 20 (.q 21 (.q 22 (.q 23 ((.l 24 [] (.q 25 (.q 26 (.done))))))))))))))))))))))))))))) (by kernel_rfl) ?_
 refine q_field (k := 0) rfl rfl rfl rfl Try.underlying52 rfl Try.sizeOf49 rfl ?_
 refine q_load_c (j := 0) rfl rfl rfl rfl Try.isAgg49 Tk (by first | rfl | exact (Nat.add_zero _).symm) (by rfl) ?_
 refine q_field (k := 0) rfl rfl rfl rfl Try.underlying52 rfl Try.sizeOf49 rfl ?_
 refine q_load_c (j := 0) rfl rfl rfl rfl Try.isAgg49 Tk (by first | rfl | exact (Nat.add_zero _).symm) (by rfl) ?_
 refine q_int rfl rfl rfl rfl rfl (b_eql _ _ _ _) ?_
 refine q_move rfl rfl rfl rfl ?_
 refine s_bool_p 10 rfl (fun h1 => ?_) (fun h1 => ?_)
 ·
  refine q_field (k := 1) rfl rfl rfl rfl Try.underlying52 rfl Try.sizeOf49 rfl ?_
  refine q_load_c (j := 1) rfl rfl rfl rfl Try.isAgg49 Tk (by first | rfl | exact (Nat.add_zero _).symm) (by rfl) ?_
  refine q_field (k := 1) rfl rfl rfl rfl Try.underlying52 rfl Try.sizeOf49 rfl ?_
  refine q_load_c (j := 1) rfl rfl rfl rfl Try.isAgg49 Tk (by first | rfl | exact (Nat.add_zero _).symm) (by rfl) ?_
  refine q_int rfl rfl rfl rfl rfl (b_eql _ _ _ _) ?_
  refine q_pick_t rfl rfl rfl rfl rfl ?_
  refine q_move rfl rfl rfl rfl ?_
  refine s_bool_p 17 rfl (fun h2 => ?_) (fun h2 => ?_)
  ·
   refine q_field (k := 2) rfl rfl rfl rfl Try.underlying52 rfl Try.sizeOf4 rfl ?_
   refine q_load_c (j := 2) rfl rfl rfl rfl Try.isAgg4 Tk (by first | rfl | exact (Nat.add_zero _).symm) (by rfl) ?_
   refine q_field (k := 2) rfl rfl rfl rfl Try.underlying52 rfl Try.sizeOf4 rfl ?_
   refine q_load_c (j := 2) rfl rfl rfl rfl Try.isAgg4 Tk (by first | rfl | exact (Nat.add_zero _).symm) (by rfl) ?_
   refine q_eqb rfl rfl rfl rfl rfl Try.underlying4 ?_
   refine q_pick_t rfl rfl rfl rfl rfl ?_
   refine q_move rfl rfl rfl rfl ?_
   refine s_bool 24 rfl (fun h3 => ?_) (fun h3 => ?_)
   ·
    try simp only [Bool.and_eq_true, Bool.or_eq_true, Bool.not_eq_true', Bool.not_eq_false', Bool.and_eq_false_iff, Bool.or_eq_false_iff, decide_eq_true_eq, decide_eq_false_iff_not] at h3
    refine q_field (k := 3) rfl rfl rfl rfl Try.underlying52 rfl Try.sizeOf50 rfl ?_
    refine q_load_c (j := 3) rfl rfl rfl rfl Try.isAgg50 Tk (by first | rfl | exact (Nat.add_zero _).symm) (by rfl) ?_
    refine q_field (k := 3) rfl rfl rfl rfl Try.underlying52 rfl Try.sizeOf50 rfl ?_
    refine q_load_c (j := 3) rfl rfl rfl rfl Try.isAgg50 Tk (by first | rfl | exact (Nat.add_zero _).symm) (by rfl) ?_
    have sp_1 := clocks_same xa xb aa ab na nb ca cb A (by first | rfl | assumption | omega | (simp; done) | (simp; omega)) (hra) (by first | rfl | assumption | omega | (simp; done) | (simp; omega)) (hrb) (by omega)
    refine l_call rfl rfl rfl rfl rfl rfl Try.call60 (sp_1) Ts ?_
    rintro ⟨⟩ -
    try simp only [List.cons_append, List.nil_append]
    refine ag_nil ?_
    refine q_pick_t rfl rfl rfl rfl rfl ?_
    refine q_assign rfl rfl rfl rfl ?_
    refine r_done ?_
    refine s_keep [4] (e' := [(4, _)]) rfl ?_
    refine k_then_n ?_
    refine c_ret ?_
    refine ret1 rfl rfl (()) (by congr 1; first | (symm; rw [decide_eq_false_iff_not]; rintro ⟨q1, q2, q3, q4⟩; first | exact h1 (by rw [q1]) | exact h2 (by rw [q2]) | (rw [q3] at h3; simp at h3)) | (rw [decide_eq_decide]; exact ⟨fun q => ⟨by omega, by omega, by simpa using h3, q⟩, fun q => q.2.2.2⟩)) (by trivial) ?_
    exact Tf
   ·
    try simp only [Bool.and_eq_true, Bool.or_eq_true, Bool.not_eq_true', Bool.not_eq_false', Bool.and_eq_false_iff, Bool.or_eq_false_iff, decide_eq_true_eq, decide_eq_false_iff_not] at h3
    refine q_skip rfl rfl rfl rfl ?_
    refine q_skip rfl rfl rfl rfl ?_
    refine q_skip rfl rfl rfl rfl ?_
    refine q_skip rfl rfl rfl rfl ?_
    refine l_skip rfl rfl rfl rfl ?_
    refine q_pick_f rfl rfl rfl rfl rfl ?_
    refine q_assign rfl rfl rfl rfl ?_
    refine r_done ?_
    refine s_keep [4] (e' := [(4, _)]) rfl ?_
    refine k_then_n ?_
    refine c_ret ?_
    refine ret1 rfl rfl (()) (by congr 1; first | (symm; rw [decide_eq_false_iff_not]; rintro ⟨q1, q2, q3, q4⟩; first | exact h1 (by rw [q1]) | exact h2 (by rw [q2]) | (rw [q3] at h3; simp at h3)) | (rw [decide_eq_decide]; exact ⟨fun q => ⟨by omega, by omega, by simpa using h3, q⟩, fun q => q.2.2.2⟩)) (by trivial) ?_
    exact Tf
  ·
   refine q_skip rfl rfl rfl rfl ?_
   refine q_skip rfl rfl rfl rfl ?_
   refine q_skip rfl rfl rfl rfl ?_
   refine q_skip rfl rfl rfl rfl ?_
   refine q_skip rfl rfl rfl rfl ?_
   refine q_pick_f rfl rfl rfl rfl rfl ?_
   refine q_move rfl rfl rfl rfl ?_
   refine q_skip rfl rfl rfl rfl ?_
   refine q_skip rfl rfl rfl rfl ?_
   refine q_skip rfl rfl rfl rfl ?_
   refine q_skip rfl rfl rfl rfl ?_
   refine l_skip rfl rfl rfl rfl ?_
   refine q_pick_f rfl rfl rfl rfl rfl ?_
   refine q_assign rfl rfl rfl rfl ?_
   refine r_done ?_
   refine s_keep [4] (e' := [(4, _)]) rfl ?_
   refine k_then_n ?_
   refine c_ret ?_
   refine ret1 rfl rfl (()) (by congr 1; first | (symm; rw [decide_eq_false_iff_not]; rintro ⟨q1, q2, q3, q4⟩; first | exact h1 (by rw [q1]) | exact h2 (by rw [q2]) | (rw [q3] at h3; simp at h3)) | (rw [decide_eq_decide]; exact ⟨fun q => ⟨by omega, by omega, by simpa using h3, q⟩, fun q => q.2.2.2⟩)) (by trivial) ?_
   exact Tf
 ·
  refine q_skip rfl rfl rfl rfl ?_
  refine q_skip rfl rfl rfl rfl ?_
  refine q_skip rfl rfl rfl rfl ?_
  refine q_skip rfl rfl rfl rfl ?_
  refine q_skip rfl rfl rfl rfl ?_
  refine q_pick_f rfl rfl rfl rfl rfl ?_
  refine q_move rfl rfl rfl rfl ?_
  refine q_skip rfl rfl rfl rfl ?_
  refine q_skip rfl rfl rfl rfl ?_
  refine q_skip rfl rfl rfl rfl ?_
  refine q_skip rfl rfl rfl rfl ?_
  refine q_skip rfl rfl rfl rfl ?_
  refine q_pick_f rfl rfl rfl rfl rfl ?_
  refine q_move rfl rfl rfl rfl ?_
  refine q_skip rfl rfl rfl rfl ?_
  refine q_skip rfl rfl rfl rfl ?_
  refine q_skip rfl rfl rfl rfl ?_
  refine q_skip rfl rfl rfl rfl ?_
  refine l_skip rfl rfl rfl rfl ?_
  refine q_pick_f rfl rfl rfl rfl rfl ?_
  refine q_assign rfl rfl rfl rfl ?_
  refine r_done ?_
  refine s_keep [4] (e' := [(4, _)]) rfl ?_
  refine k_then_n ?_
  refine c_ret ?_
  refine ret1 rfl rfl (()) (by congr 1; first | (symm; rw [decide_eq_false_iff_not]; rintro ⟨q1, q2, q3, q4⟩; first | exact h1 (by rw [q1]) | exact h2 (by rw [q2]) | (rw [q3] at h3; simp at h3)) | (rw [decide_eq_decide]; exact ⟨fun q => ⟨by omega, by omega, by simpa using h3, q⟩, fun q => q.2.2.2⟩)) (by trivial) ?_
  exact Tf
theorem fnonn : Spec Try.prog 32 [.pointer none] [] (fun (_ : Unit) => .bool true) (fun _ => True) (fun _ => []) := by
 refine spec_mk (n := 12) Try.func32 rfl rfl rfl ?_
 intro Γ w0
 simp only [argE, List.cons_append, List.nil_append, Nat.zero_add, Nat.reduceAdd]
 refine c_seq ?_
 refine c_plain (.q 0 (.done)) (by kernel_rfl) ?_
 refine q_assign rfl rfl rfl rfl ?_
 refine r_done ?_
 refine k_then_n ?_
 refine c_seq ?_
 refine c_plain (.q 0 (.q 1 (.q 2 (.q 3 (.q 4 (.q 5 (.q 6 (.q 7 (.q 8 (.q 9 (.done))))))))))) (by kernel_rfl) ?_
 refine q_move rfl rfl rfl rfl ?_
 refine q_eq_nil rfl rfl rfl rfl Try.underlying27 ?_
 refine s_eq 4 rfl (v' := .bool true) rfl ?_
 refine q_move rfl rfl rfl rfl ?_
 refine q_skip rfl rfl rfl rfl ?_
 refine q_skip rfl rfl rfl rfl ?_
 refine q_skip rfl rfl rfl rfl ?_
 refine q_skip rfl rfl rfl rfl ?_
 refine q_skip rfl rfl rfl rfl ?_
 refine q_pick_t rfl rfl rfl rfl rfl ?_
 refine q_assign rfl rfl rfl rfl ?_
 refine r_done ?_
 refine s_keep [2] (e' := [(2, _)]) rfl ?_
 refine k_then_n ?_
 refine c_ret ?_
 refine ret1 rfl rfl (()) (by first | rfl | (first | rfl | (congr 1; done) | (congr 1 <;> first | rfl | omega | (simp; done) | (simp; omega)))) (by trivial) ?_
 exact Tf
theorem fevsn (so : Option Addr) (sn sc : Nat) : Spec Try.prog 12 [.pointer none, .slice so sn sc] [] (fun (_ : Unit) => .tuple #[.int .i64 0, .int .i64 1]) (fun _ => True) (fun _ => []) := by
 refine spec_mk (n := 28) Try.func12 rfl rfl rfl ?_
 intro Γ w0
 simp only [argE, List.cons_append, List.nil_append, Nat.zero_add, Nat.reduceAdd]
 refine c_seq ?_
 refine c_plain (.q 0 (.q 1 (.done))) (by kernel_rfl) ?_
 refine q_assign rfl rfl rfl rfl ?_
 refine q_assign rfl rfl rfl rfl ?_
 refine r_done ?_
 refine k_then_n ?_
 refine c_seq ?_
 refine c_seq ?_
 refine c_plain (.q 0 ((.l 1 [] (.done)))) (by kernel_rfl) ?_
 refine q_move rfl rfl rfl rfl ?_
 have sp_1 := fnonn
 refine l_call rfl rfl rfl rfl rfl rfl Try.call32 (sp_1) Ts ?_
 rintro ⟨⟩ -
 try simp only [List.cons_append, List.nil_append]
 refine ag_nil ?_
 refine r_done ?_
 refine k_then_n ?_
 refine c_cond_t rfl ?_
 refine c_seq ?_
 refine c_plain (.q 0 (.q 1 (.done))) (by kernel_rfl) ?_
 refine q_assign rfl rfl rfl rfl ?_
 refine q_assign rfl rfl rfl rfl ?_
 refine r_done ?_
 refine s_keep [4, 5] (e' := [(4, _), (5, _)]) rfl ?_
 refine k_then_n ?_
 refine c_ret ?_
 refine k_then_ret ?_
 refine ret2 rfl rfl rfl (()) (by first | rfl | (first | rfl | (congr 1; done) | (congr 1 <;> first | rfl | omega | (simp; done) | (simp; omega)))) (by trivial) ?_
 exact Tf
theorem fstan (z : Int) : Spec Try.prog 18 [.pointer none, .int .i64 z] [] (fun (_ : Unit) => .tuple #[.agg #[.int .u64 0, .int .u64 0, .bool false, .slice none 0 0], .bool false]) (fun _ => True) (fun _ => []) := by
 refine spec_mk (n := 46) Try.func18 rfl rfl rfl ?_
 intro Γ w0
 simp only [argE, List.cons_append, List.nil_append, Nat.zero_add, Nat.reduceAdd]
 refine c_seq ?_
 refine c_plain ((.l 0 [] (.q 1 (.done)))) (by kernel_rfl) ?_
 refine l_alloc rfl rfl rfl Try.zeroValue52 (zs := [.int .u64 0, .int .u64 0, .bool false, .slice none 0 0]) rfl ?_
 intro b4
 refine ag_nil ?_
 refine q_assign rfl rfl rfl rfl ?_
 refine r_done ?_
 refine k_then_n ?_
 refine c_seq ?_
 refine c_seq ?_
 refine c_plain (.q 0 ((.l 1 [] (.q 2 (.q 3 (.q 4 (.q 5 (.q 6 (.q 7 (.q 8 (.q 9 (.q 10 (.q 11 (.q 12 (.q 13 (.q 14 (.done))))))))))))))))) (by kernel_rfl) ?_
 refine q_move rfl rfl rfl rfl ?_
 have sp_1 := fnonn
 refine l_call rfl rfl rfl rfl rfl rfl Try.call32 (sp_1) Ts ?_
 rintro ⟨⟩ -
 try simp only [List.cons_append, List.nil_append]
 refine ag_nil ?_
 refine q_move rfl rfl rfl rfl ?_
 refine q_skip rfl rfl rfl rfl ?_
 refine q_skip rfl rfl rfl rfl ?_
 refine q_pick_t rfl rfl rfl rfl rfl ?_
 refine q_move rfl rfl rfl rfl ?_
 refine q_skip rfl rfl rfl rfl ?_
 refine q_skip rfl rfl rfl rfl ?_
 refine q_skip rfl rfl rfl rfl ?_
 refine q_skip rfl rfl rfl rfl ?_
 refine q_skip rfl rfl rfl rfl ?_
 refine q_skip rfl rfl rfl rfl ?_
 refine q_skip rfl rfl rfl rfl ?_
 refine q_pick_t rfl rfl rfl rfl rfl ?_
 refine r_done ?_
 refine s_keep [0, 1, 4, 22] (e' := [(0, _), (1, _), (4, _), (22, _)]) rfl ?_
 refine k_then_n ?_
 refine c_cond_t rfl ?_
 refine c_seq ?_
 refine c_plain (.q 0 ((.l 1 [] (.q 2 (.done))))) (by kernel_rfl) ?_
 refine q_build rfl rfl rfl rfl (vs := [_, _, _, _]) (run_buildS Try.underlying52 Try.zeroValue52 (ps := [(0, 1), (1, 1), (2, 1), (3, 1)]) ⟨rfl, Try.sizeOf49, rfl, Try.sizeOf49, rfl, Try.sizeOf4, rfl, Try.sizeOf50, trivial⟩ rfl) ?_
 refine l_store (j := 0) rfl rfl rfl rfl Try.sizeOf52 (us := [_, _, _, _]) rfl rfl rfl Tk (by first | rfl | exact (Nat.add_zero _).symm) (by first | decide | (simp; done) | omega) ?_
 simp only [setL, List.set]
 refine ag_nil ?_
 refine q_assign rfl rfl rfl rfl ?_
 refine r_done ?_
 refine s_keep [4, 5] (e' := [(4, _), (5, _)]) rfl ?_
 refine k_then_n ?_
 refine c_ret ?_
 refine k_then_ret ?_
 refine retL (us := [_, _]) rfl ⟨rv_cellN rfl Try.isAgg52 Try.sizeOf52 Tk 0 rfl (us := [_, _, _, _]) rfl rfl, rv_tmp rfl, trivial⟩ (()) (by first | rfl | (first | rfl | (congr 1; done) | (congr 1 <;> first | rfl | omega | (simp; done) | (simp; omega)))) (by trivial) ?_
 exact Tf
theorem feven (k t o : Int) : Spec Try.prog 14 [.pointer none, .agg #[.int .i64 k, .int .i64 t, .int .i64 o]] [] (fun (_ : Unit) => .int .i64 1) (fun _ => True) (fun _ => []) := by
 refine spec_mk (n := 141) Try.func14 rfl rfl rfl ?_
 intro Γ w0
 simp only [argE, List.cons_append, List.nil_append, Nat.zero_add, Nat.reduceAdd]
 refine c_seq ?_
 refine c_plain ((.l 0 [] (.q 1 (.done)))) (by kernel_rfl) ?_
 refine l_box rfl rfl rfl rfl (us := [_, _, _]) rfl ?_
 intro b3
 refine ag_nil ?_
 refine q_assign rfl rfl rfl rfl ?_
 refine r_done ?_
 refine k_then_n ?_
 refine c_seq ?_
 refine c_seq ?_
 refine c_plain (.q 0 ((.l 1 [] (.done)))) (by kernel_rfl) ?_
 refine q_move rfl rfl rfl rfl ?_
 have sp_1 := fnonn
 refine l_call rfl rfl rfl rfl rfl rfl Try.call32 (sp_1) Ts ?_
 rintro ⟨⟩ -
 try simp only [List.cons_append, List.nil_append]
 refine ag_nil ?_
 refine r_done ?_
 refine k_then_n ?_
 refine c_cond_t rfl ?_
 refine c_seq ?_
 refine c_plain (.q 0 (.done)) (by kernel_rfl) ?_
 refine q_assign rfl rfl rfl rfl ?_
 refine r_done ?_
 refine s_keep [4] (e' := [(4, _)]) rfl ?_
 refine k_then_n ?_
 refine c_ret ?_
 refine k_then_ret ?_
 refine ret1 rfl rfl (()) (by first | rfl | (first | rfl | (congr 1; done) | (congr 1 <;> first | rfl | omega | (simp; done) | (simp; omega)))) (by trivial) ?_
 exact Tf
theorem fflgn : Spec Try.prog 22 [.pointer none] [] (fun (_ : Unit) => .slice none 0 0) (fun _ => True) (fun _ => []) := by
 refine spec_mk (n := 30) Try.func22 rfl rfl rfl ?_
 intro Γ w0
 simp only [argE, List.cons_append, List.nil_append, Nat.zero_add, Nat.reduceAdd]
 refine c_seq ?_
 refine c_plain (.q 0 (.done)) (by kernel_rfl) ?_
 refine q_assign rfl rfl rfl rfl ?_
 refine r_done ?_
 refine k_then_n ?_
 refine c_seq ?_
 refine c_seq ?_
 refine c_plain (.q 0 ((.l 1 [] (.done)))) (by kernel_rfl) ?_
 refine q_move rfl rfl rfl rfl ?_
 have sp_1 := fnonn
 refine l_call rfl rfl rfl rfl rfl rfl Try.call32 (sp_1) Ts ?_
 rintro ⟨⟩ -
 try simp only [List.cons_append, List.nil_append]
 refine ag_nil ?_
 refine r_done ?_
 refine k_then_n ?_
 refine c_cond_t rfl ?_
 refine c_seq ?_
 refine c_plain (.q 0 (.done)) (by kernel_rfl) ?_
 refine q_assign rfl rfl rfl rfl ?_
 refine r_done ?_
 refine k_then_n ?_
 refine c_ret ?_
 refine k_then_ret ?_
 refine ret1 rfl rfl (()) (by first | rfl | (first | rfl | (congr 1; done) | (congr 1 <;> first | rfl | omega | (simp; done) | (simp; omega)))) (by trivial) ?_
 exact Tf
theorem fvctn (z : Int) : Spec Try.prog 19 [.pointer none, .int .i64 z] [] (fun (_ : Unit) => .slice none 0 0) (fun _ => True) (fun _ => []) := by
 refine spec_mk (n := 23) Try.func19 rfl rfl rfl ?_
 intro Γ w0
 simp only [argE, List.cons_append, List.nil_append, Nat.zero_add, Nat.reduceAdd]
 refine c_seq ?_
 refine c_plain (.q 0 (.done)) (by kernel_rfl) ?_
 refine q_assign rfl rfl rfl rfl ?_
 refine r_done ?_
 refine k_then_n ?_
 refine c_seq ?_
 refine c_seq ?_
 refine c_plain (.q 0 ((.l 1 [] (.q 2 (.q 3 (.q 4 (.q 5 (.q 6 (.q 7 (.q 8 (.q 9 (.q 10 (.done))))))))))))) (by kernel_rfl) ?_
 refine q_move rfl rfl rfl rfl ?_
 have sp_1 := fnonn
 refine l_call rfl rfl rfl rfl rfl rfl Try.call32 (sp_1) Ts ?_
 rintro ⟨⟩ -
 try simp only [List.cons_append, List.nil_append]
 refine ag_nil ?_
 refine q_move rfl rfl rfl rfl ?_
 refine q_skip rfl rfl rfl rfl ?_
 refine q_skip rfl rfl rfl rfl ?_
 refine q_skip rfl rfl rfl rfl ?_
 refine q_skip rfl rfl rfl rfl ?_
 refine q_skip rfl rfl rfl rfl ?_
 refine q_skip rfl rfl rfl rfl ?_
 refine q_skip rfl rfl rfl rfl ?_
 refine q_pick_t rfl rfl rfl rfl rfl ?_
 refine r_done ?_
 refine s_keep [0, 1, 15] (e' := [(0, _), (1, _), (15, _)]) rfl ?_
 refine k_then_n ?_
 refine c_cond_t rfl ?_
 refine c_seq ?_
 refine c_plain (.q 0 (.done)) (by kernel_rfl) ?_
 refine q_assign rfl rfl rfl rfl ?_
 refine r_done ?_
 refine k_then_n ?_
 refine c_ret ?_
 refine k_then_ret ?_
 refine ret1 rfl rfl (()) (by first | rfl | (first | rfl | (congr 1; done) | (congr 1 <;> first | rfl | omega | (simp; done) | (simp; omega)))) (by trivial) ?_
 exact Tf
theorem fcstn : Spec Try.prog 17 [.pointer none] [] (fun (_ : Unit) => .int .i64 0) (fun _ => True) (fun _ => []) := by
 refine spec_mk (n := 9) Try.func17 rfl rfl rfl ?_
 intro Γ w0
 simp only [argE, List.cons_append, List.nil_append, Nat.zero_add, Nat.reduceAdd]
 refine c_seq ?_
 refine c_plain (.q 0 (.done)) (by kernel_rfl) ?_
 refine q_assign rfl rfl rfl rfl ?_
 refine r_done ?_
 refine k_then_n ?_
 refine c_seq ?_
 refine c_seq ?_
 refine c_plain (.q 0 ((.l 1 [] (.done)))) (by kernel_rfl) ?_
 refine q_move rfl rfl rfl rfl ?_
 have sp_1 := fnonn
 refine l_call rfl rfl rfl rfl rfl rfl Try.call32 (sp_1) Ts ?_
 rintro ⟨⟩ -
 try simp only [List.cons_append, List.nil_append]
 refine ag_nil ?_
 refine r_done ?_
 refine k_then_n ?_
 refine c_cond_t rfl ?_
 refine c_seq ?_
 refine c_plain (.q 0 (.done)) (by kernel_rfl) ?_
 refine q_assign rfl rfl rfl rfl ?_
 refine r_done ?_
 refine k_then_n ?_
 refine c_ret ?_
 refine k_then_ret ?_
 refine ret1 rfl rfl (()) (by first | rfl | (first | rfl | (congr 1; done) | (congr 1 <;> first | rfl | omega | (simp; done) | (simp; omega)))) (by trivial) ?_
 exact Tf
theorem fcpyn : Spec Try.prog 20 [.pointer none] [] (fun (_ : Unit) => .pointer none) (fun _ => True) (fun _ => []) := by
 refine spec_mk (n := 88) Try.func20 rfl rfl rfl ?_
 intro Γ w0
 simp only [argE, List.cons_append, List.nil_append, Nat.zero_add, Nat.reduceAdd]
 refine c_seq ?_
 refine c_plain (.q 0 (.done)) (by kernel_rfl) ?_
 refine q_assign rfl rfl rfl rfl ?_
 refine r_done ?_
 refine k_then_n ?_
 refine c_seq ?_
 refine c_seq ?_
 refine c_plain (.q 0 ((.l 1 [] (.done)))) (by kernel_rfl) ?_
 refine q_move rfl rfl rfl rfl ?_
 have sp_1 := fnonn
 refine l_call rfl rfl rfl rfl rfl rfl Try.call32 (sp_1) Ts ?_
 rintro ⟨⟩ -
 try simp only [List.cons_append, List.nil_append]
 refine ag_nil ?_
 refine r_done ?_
 refine k_then_n ?_
 refine c_cond_t rfl ?_
 refine c_seq ?_
 refine c_plain (.q 0 (.done)) (by kernel_rfl) ?_
 refine q_assign rfl rfl rfl rfl ?_
 refine r_done ?_
 refine k_then_n ?_
 refine c_ret ?_
 refine k_then_ret ?_
 refine ret1 rfl rfl (()) (by first | rfl | (first | rfl | (congr 1; done) | (congr 1 <;> first | rfl | omega | (simp; done) | (simp; omega)))) (by trivial) ?_
 exact Tf
theorem fnonz (b : Nat) : Spec Try.prog 32 [.pointer (some ⟨b, 0, none⟩)] [cells b 0 [.pointer none, .slice none 0 0, .map none, .map none, .map none, .map none, .slice none 0 0, .int .i64 0]] (fun (_ : Unit) => .bool true) (fun _ => True) (fun _ => [cells b 0 [.pointer none, .slice none 0 0, .map none, .map none, .map none, .map none, .slice none 0 0, .int .i64 0]]) := by
 refine spec_mk (n := 12) Try.func32 rfl rfl rfl ?_
 intro Γ w0
 simp only [argE, List.cons_append, List.nil_append, Nat.zero_add, Nat.reduceAdd]
 refine c_seq ?_
 refine c_plain (.q 0 (.done)) (by kernel_rfl) ?_
 refine q_assign rfl rfl rfl rfl ?_
 refine r_done ?_
 refine k_then_n ?_
 refine c_seq ?_
 refine c_plain (.q 0 (.q 1 (.q 2 (.q 3 (.q 4 (.q 5 (.q 6 (.q 7 (.q 8 (.q 9 (.done))))))))))) (by kernel_rfl) ?_
 refine q_move rfl rfl rfl rfl ?_
 refine q_eq_nil rfl rfl rfl rfl Try.underlying27 ?_
 refine s_eq 4 rfl (v' := .bool false) rfl ?_
 refine q_move rfl rfl rfl rfl ?_
 refine q_move rfl rfl rfl rfl ?_
 refine q_nil_p rfl rfl rfl rfl ?_
 refine q_field (k := 0) rfl rfl rfl rfl Try.underlying81 rfl Try.sizeOf76 rfl ?_
 refine q_load_c (j := 0) rfl rfl rfl rfl Try.isAgg76 Tk (by first | rfl | exact (Nat.add_zero _).symm) (by rfl) ?_
 refine q_eq_nil rfl rfl rfl rfl Try.underlying76 ?_
 refine s_eq 10 rfl (v' := .bool true) rfl ?_
 refine q_pick_f rfl rfl rfl rfl rfl ?_
 refine q_assign rfl rfl rfl rfl ?_
 refine r_done ?_
 refine s_keep [2] (e' := [(2, _)]) rfl ?_
 refine k_then_n ?_
 refine c_ret ?_
 refine ret1 rfl rfl (()) (by first | rfl | (first | rfl | (congr 1; done) | (congr 1 <;> first | rfl | omega | (simp; done) | (simp; omega)))) (by trivial) ?_
 exact Tf
theorem fevsz (b : Nat) (so : Option Addr) (sn sc : Nat) : Spec Try.prog 12 [.pointer (some ⟨b, 0, none⟩), .slice so sn sc] [cells b 0 [.pointer none, .slice none 0 0, .map none, .map none, .map none, .map none, .slice none 0 0, .int .i64 0]] (fun (_ : Unit) => .tuple #[.int .i64 0, .int .i64 1]) (fun _ => True) (fun _ => [cells b 0 [.pointer none, .slice none 0 0, .map none, .map none, .map none, .map none, .slice none 0 0, .int .i64 0]]) := by
 refine spec_mk (n := 28) Try.func12 rfl rfl rfl ?_
 intro Γ w0
 simp only [argE, List.cons_append, List.nil_append, Nat.zero_add, Nat.reduceAdd]
 refine c_seq ?_
 refine c_plain (.q 0 (.q 1 (.done))) (by kernel_rfl) ?_
 refine q_assign rfl rfl rfl rfl ?_
 refine q_assign rfl rfl rfl rfl ?_
 refine r_done ?_
 refine k_then_n ?_
 refine c_seq ?_
 refine c_seq ?_
 refine c_plain (.q 0 ((.l 1 [] (.done)))) (by kernel_rfl) ?_
 refine q_move rfl rfl rfl rfl ?_
 have sp_1 := fnonz b
 refine l_call rfl rfl rfl rfl rfl rfl Try.call32 (sp_1) Ts ?_
 rintro ⟨⟩ -
 try simp only [List.cons_append, List.nil_append]
 refine ag_nil ?_
 refine r_done ?_
 refine k_then_n ?_
 refine c_cond_t rfl ?_
 refine c_seq ?_
 refine c_plain (.q 0 (.q 1 (.done))) (by kernel_rfl) ?_
 refine q_assign rfl rfl rfl rfl ?_
 refine q_assign rfl rfl rfl rfl ?_
 refine r_done ?_
 refine s_keep [4, 5] (e' := [(4, _), (5, _)]) rfl ?_
 refine k_then_n ?_
 refine c_ret ?_
 refine k_then_ret ?_
 refine ret2 rfl rfl rfl (()) (by first | rfl | (first | rfl | (congr 1; done) | (congr 1 <;> first | rfl | omega | (simp; done) | (simp; omega)))) (by trivial) ?_
 exact Tf
theorem fstaz (b : Nat) (z : Int) : Spec Try.prog 18 [.pointer (some ⟨b, 0, none⟩), .int .i64 z] [cells b 0 [.pointer none, .slice none 0 0, .map none, .map none, .map none, .map none, .slice none 0 0, .int .i64 0]] (fun (_ : Unit) => .tuple #[.agg #[.int .u64 0, .int .u64 0, .bool false, .slice none 0 0], .bool false]) (fun _ => True) (fun _ => [cells b 0 [.pointer none, .slice none 0 0, .map none, .map none, .map none, .map none, .slice none 0 0, .int .i64 0]]) := by
 refine spec_mk (n := 46) Try.func18 rfl rfl rfl ?_
 intro Γ w0
 simp only [argE, List.cons_append, List.nil_append, Nat.zero_add, Nat.reduceAdd]
 refine c_seq ?_
 refine c_plain ((.l 0 [] (.q 1 (.done)))) (by kernel_rfl) ?_
 refine l_alloc rfl rfl rfl Try.zeroValue52 (zs := [.int .u64 0, .int .u64 0, .bool false, .slice none 0 0]) rfl ?_
 intro b4
 refine ag_nil ?_
 refine q_assign rfl rfl rfl rfl ?_
 refine r_done ?_
 refine k_then_n ?_
 refine c_seq ?_
 refine c_seq ?_
 refine c_plain (.q 0 ((.l 1 [] (.q 2 (.q 3 (.q 4 (.q 5 (.q 6 (.q 7 (.q 8 (.q 9 (.q 10 (.q 11 (.q 12 (.q 13 (.q 14 (.done))))))))))))))))) (by kernel_rfl) ?_
 refine q_move rfl rfl rfl rfl ?_
 have sp_1 := fnonz b
 refine l_call rfl rfl rfl rfl rfl rfl Try.call32 (sp_1) Ts ?_
 rintro ⟨⟩ -
 try simp only [List.cons_append, List.nil_append]
 refine ag_nil ?_
 refine q_move rfl rfl rfl rfl ?_
 refine q_skip rfl rfl rfl rfl ?_
 refine q_skip rfl rfl rfl rfl ?_
 refine q_pick_t rfl rfl rfl rfl rfl ?_
 refine q_move rfl rfl rfl rfl ?_
 refine q_skip rfl rfl rfl rfl ?_
 refine q_skip rfl rfl rfl rfl ?_
 refine q_skip rfl rfl rfl rfl ?_
 refine q_skip rfl rfl rfl rfl ?_
 refine q_skip rfl rfl rfl rfl ?_
 refine q_skip rfl rfl rfl rfl ?_
 refine q_skip rfl rfl rfl rfl ?_
 refine q_pick_t rfl rfl rfl rfl rfl ?_
 refine r_done ?_
 refine s_keep [0, 1, 4, 22] (e' := [(0, _), (1, _), (4, _), (22, _)]) rfl ?_
 refine k_then_n ?_
 refine c_cond_t rfl ?_
 refine c_seq ?_
 refine c_plain (.q 0 ((.l 1 [] (.q 2 (.done))))) (by kernel_rfl) ?_
 refine q_build rfl rfl rfl rfl (vs := [_, _, _, _]) (run_buildS Try.underlying52 Try.zeroValue52 (ps := [(0, 1), (1, 1), (2, 1), (3, 1)]) ⟨rfl, Try.sizeOf49, rfl, Try.sizeOf49, rfl, Try.sizeOf4, rfl, Try.sizeOf50, trivial⟩ rfl) ?_
 refine l_store (j := 0) rfl rfl rfl rfl Try.sizeOf52 (us := [_, _, _, _]) rfl rfl rfl Tk (by first | rfl | exact (Nat.add_zero _).symm) (by first | decide | (simp; done) | omega) ?_
 simp only [setL, List.set]
 refine ag_nil ?_
 refine q_assign rfl rfl rfl rfl ?_
 refine r_done ?_
 refine s_keep [4, 5] (e' := [(4, _), (5, _)]) rfl ?_
 refine k_then_n ?_
 refine c_ret ?_
 refine k_then_ret ?_
 refine retL (us := [_, _]) rfl ⟨rv_cellN rfl Try.isAgg52 Try.sizeOf52 Tk 0 rfl (us := [_, _, _, _]) rfl rfl, rv_tmp rfl, trivial⟩ (()) (by first | rfl | (first | rfl | (congr 1; done) | (congr 1 <;> first | rfl | omega | (simp; done) | (simp; omega)))) (by trivial) ?_
 exact Tf
theorem fevez (b : Nat) (k t o : Int) : Spec Try.prog 14 [.pointer (some ⟨b, 0, none⟩), .agg #[.int .i64 k, .int .i64 t, .int .i64 o]] [cells b 0 [.pointer none, .slice none 0 0, .map none, .map none, .map none, .map none, .slice none 0 0, .int .i64 0]] (fun (_ : Unit) => .int .i64 1) (fun _ => True) (fun _ => [cells b 0 [.pointer none, .slice none 0 0, .map none, .map none, .map none, .map none, .slice none 0 0, .int .i64 0]]) := by
 refine spec_mk (n := 141) Try.func14 rfl rfl rfl ?_
 intro Γ w0
 simp only [argE, List.cons_append, List.nil_append, Nat.zero_add, Nat.reduceAdd]
 refine c_seq ?_
 refine c_plain ((.l 0 [] (.q 1 (.done)))) (by kernel_rfl) ?_
 refine l_box rfl rfl rfl rfl (us := [_, _, _]) rfl ?_
 intro b3
 refine ag_nil ?_
 refine q_assign rfl rfl rfl rfl ?_
 refine r_done ?_
 refine k_then_n ?_
 refine c_seq ?_
 refine c_seq ?_
 refine c_plain (.q 0 ((.l 1 [] (.done)))) (by kernel_rfl) ?_
 refine q_move rfl rfl rfl rfl ?_
 have sp_1 := fnonz b
 refine l_call rfl rfl rfl rfl rfl rfl Try.call32 (sp_1) Ts ?_
 rintro ⟨⟩ -
 try simp only [List.cons_append, List.nil_append]
 refine ag_nil ?_
 refine r_done ?_
 refine k_then_n ?_
 refine c_cond_t rfl ?_
 refine c_seq ?_
 refine c_plain (.q 0 (.done)) (by kernel_rfl) ?_
 refine q_assign rfl rfl rfl rfl ?_
 refine r_done ?_
 refine s_keep [4] (e' := [(4, _)]) rfl ?_
 refine k_then_n ?_
 refine c_ret ?_
 refine k_then_ret ?_
 refine ret1 rfl rfl (()) (by first | rfl | (first | rfl | (congr 1; done) | (congr 1 <;> first | rfl | omega | (simp; done) | (simp; omega)))) (by trivial) ?_
 exact Tf
theorem fflgz (b : Nat) : Spec Try.prog 22 [.pointer (some ⟨b, 0, none⟩)] [cells b 0 [.pointer none, .slice none 0 0, .map none, .map none, .map none, .map none, .slice none 0 0, .int .i64 0]] (fun (_ : Unit) => .slice none 0 0) (fun _ => True) (fun _ => [cells b 0 [.pointer none, .slice none 0 0, .map none, .map none, .map none, .map none, .slice none 0 0, .int .i64 0]]) := by
 refine spec_mk (n := 30) Try.func22 rfl rfl rfl ?_
 intro Γ w0
 simp only [argE, List.cons_append, List.nil_append, Nat.zero_add, Nat.reduceAdd]
 refine c_seq ?_
 refine c_plain (.q 0 (.done)) (by kernel_rfl) ?_
 refine q_assign rfl rfl rfl rfl ?_
 refine r_done ?_
 refine k_then_n ?_
 refine c_seq ?_
 refine c_seq ?_
 refine c_plain (.q 0 ((.l 1 [] (.done)))) (by kernel_rfl) ?_
 refine q_move rfl rfl rfl rfl ?_
 have sp_1 := fnonz b
 refine l_call rfl rfl rfl rfl rfl rfl Try.call32 (sp_1) Ts ?_
 rintro ⟨⟩ -
 try simp only [List.cons_append, List.nil_append]
 refine ag_nil ?_
 refine r_done ?_
 refine k_then_n ?_
 refine c_cond_t rfl ?_
 refine c_seq ?_
 refine c_plain (.q 0 (.done)) (by kernel_rfl) ?_
 refine q_assign rfl rfl rfl rfl ?_
 refine r_done ?_
 refine k_then_n ?_
 refine c_ret ?_
 refine k_then_ret ?_
 refine ret1 rfl rfl (()) (by first | rfl | (first | rfl | (congr 1; done) | (congr 1 <;> first | rfl | omega | (simp; done) | (simp; omega)))) (by trivial) ?_
 exact Tf
theorem fvctz (b : Nat) (z : Int) : Spec Try.prog 19 [.pointer (some ⟨b, 0, none⟩), .int .i64 z] [cells b 0 [.pointer none, .slice none 0 0, .map none, .map none, .map none, .map none, .slice none 0 0, .int .i64 0]] (fun (_ : Unit) => .slice none 0 0) (fun _ => True) (fun _ => [cells b 0 [.pointer none, .slice none 0 0, .map none, .map none, .map none, .map none, .slice none 0 0, .int .i64 0]]) := by
 refine spec_mk (n := 23) Try.func19 rfl rfl rfl ?_
 intro Γ w0
 simp only [argE, List.cons_append, List.nil_append, Nat.zero_add, Nat.reduceAdd]
 refine c_seq ?_
 refine c_plain (.q 0 (.done)) (by kernel_rfl) ?_
 refine q_assign rfl rfl rfl rfl ?_
 refine r_done ?_
 refine k_then_n ?_
 refine c_seq ?_
 refine c_seq ?_
 refine c_plain (.q 0 ((.l 1 [] (.q 2 (.q 3 (.q 4 (.q 5 (.q 6 (.q 7 (.q 8 (.q 9 (.q 10 (.done))))))))))))) (by kernel_rfl) ?_
 refine q_move rfl rfl rfl rfl ?_
 have sp_1 := fnonz b
 refine l_call rfl rfl rfl rfl rfl rfl Try.call32 (sp_1) Ts ?_
 rintro ⟨⟩ -
 try simp only [List.cons_append, List.nil_append]
 refine ag_nil ?_
 refine q_move rfl rfl rfl rfl ?_
 refine q_skip rfl rfl rfl rfl ?_
 refine q_skip rfl rfl rfl rfl ?_
 refine q_skip rfl rfl rfl rfl ?_
 refine q_skip rfl rfl rfl rfl ?_
 refine q_skip rfl rfl rfl rfl ?_
 refine q_skip rfl rfl rfl rfl ?_
 refine q_skip rfl rfl rfl rfl ?_
 refine q_pick_t rfl rfl rfl rfl rfl ?_
 refine r_done ?_
 refine s_keep [0, 1, 15] (e' := [(0, _), (1, _), (15, _)]) rfl ?_
 refine k_then_n ?_
 refine c_cond_t rfl ?_
 refine c_seq ?_
 refine c_plain (.q 0 (.done)) (by kernel_rfl) ?_
 refine q_assign rfl rfl rfl rfl ?_
 refine r_done ?_
 refine k_then_n ?_
 refine c_ret ?_
 refine k_then_ret ?_
 refine ret1 rfl rfl (()) (by first | rfl | (first | rfl | (congr 1; done) | (congr 1 <;> first | rfl | omega | (simp; done) | (simp; omega)))) (by trivial) ?_
 exact Tf
theorem fcstz (b : Nat) : Spec Try.prog 17 [.pointer (some ⟨b, 0, none⟩)] [cells b 0 [.pointer none, .slice none 0 0, .map none, .map none, .map none, .map none, .slice none 0 0, .int .i64 0]] (fun (_ : Unit) => .int .i64 0) (fun _ => True) (fun _ => [cells b 0 [.pointer none, .slice none 0 0, .map none, .map none, .map none, .map none, .slice none 0 0, .int .i64 0]]) := by
 refine spec_mk (n := 9) Try.func17 rfl rfl rfl ?_
 intro Γ w0
 simp only [argE, List.cons_append, List.nil_append, Nat.zero_add, Nat.reduceAdd]
 refine c_seq ?_
 refine c_plain (.q 0 (.done)) (by kernel_rfl) ?_
 refine q_assign rfl rfl rfl rfl ?_
 refine r_done ?_
 refine k_then_n ?_
 refine c_seq ?_
 refine c_seq ?_
 refine c_plain (.q 0 ((.l 1 [] (.done)))) (by kernel_rfl) ?_
 refine q_move rfl rfl rfl rfl ?_
 have sp_1 := fnonz b
 refine l_call rfl rfl rfl rfl rfl rfl Try.call32 (sp_1) Ts ?_
 rintro ⟨⟩ -
 try simp only [List.cons_append, List.nil_append]
 refine ag_nil ?_
 refine r_done ?_
 refine k_then_n ?_
 refine c_cond_t rfl ?_
 refine c_seq ?_
 refine c_plain (.q 0 (.done)) (by kernel_rfl) ?_
 refine q_assign rfl rfl rfl rfl ?_
 refine r_done ?_
 refine k_then_n ?_
 refine c_ret ?_
 refine k_then_ret ?_
 refine ret1 rfl rfl (()) (by first | rfl | (first | rfl | (congr 1; done) | (congr 1 <;> first | rfl | omega | (simp; done) | (simp; omega)))) (by trivial) ?_
 exact Tf
theorem fcpyz (b : Nat) : Spec Try.prog 20 [.pointer (some ⟨b, 0, none⟩)] [cells b 0 [.pointer none, .slice none 0 0, .map none, .map none, .map none, .map none, .slice none 0 0, .int .i64 0]] (fun (_ : Unit) => .pointer none) (fun _ => True) (fun _ => [cells b 0 [.pointer none, .slice none 0 0, .map none, .map none, .map none, .map none, .slice none 0 0, .int .i64 0]]) := by
 refine spec_mk (n := 88) Try.func20 rfl rfl rfl ?_
 intro Γ w0
 simp only [argE, List.cons_append, List.nil_append, Nat.zero_add, Nat.reduceAdd]
 refine c_seq ?_
 refine c_plain (.q 0 (.done)) (by kernel_rfl) ?_
 refine q_assign rfl rfl rfl rfl ?_
 refine r_done ?_
 refine k_then_n ?_
 refine c_seq ?_
 refine c_seq ?_
 refine c_plain (.q 0 ((.l 1 [] (.done)))) (by kernel_rfl) ?_
 refine q_move rfl rfl rfl rfl ?_
 have sp_1 := fnonz b
 refine l_call rfl rfl rfl rfl rfl rfl Try.call32 (sp_1) Ts ?_
 rintro ⟨⟩ -
 try simp only [List.cons_append, List.nil_append]
 refine ag_nil ?_
 refine r_done ?_
 refine k_then_n ?_
 refine c_cond_t rfl ?_
 refine c_seq ?_
 refine c_plain (.q 0 (.done)) (by kernel_rfl) ?_
 refine q_assign rfl rfl rfl rfl ?_
 refine r_done ?_
 refine k_then_n ?_
 refine c_ret ?_
 refine k_then_ret ?_
 refine ret1 rfl rfl (()) (by first | rfl | (first | rfl | (congr 1; done) | (congr 1 <;> first | rfl | omega | (simp; done) | (simp; omega)))) (by trivial) ?_
 exact Tf
theorem nothingn (k t o z : Int) : Spec Try.prog 26 [.pointer none, .agg #[.int .i64 k, .int .i64 t, .int .i64 o], .int .i64 z] [] (fun (_ : Unit) => .bool true) (fun _ => True) (fun _ => []) := by
 refine spec_mk (n := 68) Try.func26 rfl rfl rfl ?_
 intro Γ w0
 simp only [argE, List.cons_append, List.nil_append, Nat.zero_add, Nat.reduceAdd]
 refine c_seq ?_
 refine c_plain ((.l 0 [] (.q 1 (.done)))) (by kernel_rfl) ?_
 refine l_box rfl rfl rfl rfl (us := [_, _, _]) rfl ?_
 intro b4
 refine ag_nil ?_
 refine q_assign rfl rfl rfl rfl ?_
 refine r_done ?_
 refine k_then_n ?_
 refine c_seq ?_
 refine c_plain (.q 0 (.q 1 ((.l 2 [] ((.l 3 [] (.q 4 (.q 5 (.q 6 (.q 7 (.q 8 (.done)))))))))))) (by kernel_rfl) ?_
 refine q_move rfl rfl rfl rfl ?_
 refine q_loadN_c rfl rfl rfl rfl Try.isAgg36 Try.sizeOf36 Tk 0 (us := [_, _, _]) (by first | rfl | exact (Nat.add_zero _).symm) rfl rfl ?_
 refine l_buildSlice rfl rfl rfl rfl (run_build1 (us := [_, _, _]) Try.underlying26 Try.sizeOf36 rfl Try.zeroValue36 rfl rfl rfl) ?_
 intro b14
 refine ag_nil ?_
 have sp_1 := fevsn (some ⟨b14, 0, none⟩) 1 1
 refine l_call rfl rfl rfl rfl rfl rfl Try.call12 (sp_1) Ts ?_
 rintro ⟨⟩ -
 try simp only [List.cons_append, List.nil_append]
 refine ag_nil ?_
 refine q_move rfl rfl rfl rfl ?_
 refine q_extract rfl rfl rfl rfl rfl ?_
 refine q_extract rfl rfl rfl rfl rfl ?_
 refine q_assign rfl rfl rfl rfl ?_
 refine q_assign rfl rfl rfl rfl ?_
 refine r_done ?_
 refine s_keep [0, 2, 4, 7, 8] (e' := [(0, _), (2, _), (4, _), (7, _), (8, _)]) rfl ?_
 refine k_then_n ?_
 refine c_seq ?_
 refine c_plain (.q 0 (.q 1 ((.l 2 [] (.q 3 (.q 4 (.q 5 ((.l 6 [] ((.l 7 [] (.q 8 (.done))))))))))))) (by kernel_rfl) ?_
 refine q_move rfl rfl rfl rfl ?_
 refine q_move rfl rfl rfl rfl ?_
 have sp_2 := fstan z
 refine l_call rfl rfl rfl rfl rfl rfl Try.call18 (sp_2) Ts ?_
 rintro ⟨⟩ -
 try simp only [List.cons_append, List.nil_append]
 refine ag_nil ?_
 refine q_move rfl rfl rfl rfl ?_
 refine q_extract rfl rfl rfl rfl rfl ?_
 refine q_extract rfl rfl rfl rfl rfl ?_
 refine l_alloc rfl rfl rfl Try.zeroValue52 (zs := [.int .u64 0, .int .u64 0, .bool false, .slice none 0 0]) rfl ?_
 intro b9
 refine ag_nil ?_
 refine l_store (j := 0) rfl rfl rfl rfl Try.sizeOf52 (us := [_, _, _, _]) rfl rfl rfl Tk (by first | rfl | exact (Nat.add_zero _).symm) (by first | decide | (simp; done) | omega) ?_
 simp only [setL, List.set]
 refine ag_nil ?_
 refine q_assign rfl rfl rfl rfl ?_
 refine r_done ?_
 refine s_keep [0, 2, 4, 7, 8, 9, 10] (e' := [(0, _), (2, _), (4, _), (7, _), (8, _), (9, _), (10, _)]) rfl ?_
 refine k_then_n ?_
 refine c_seq ?_
 refine c_plain (.q 0 (.q 1 ((.l 2 [] (.q 3 (.q 4 (.q 5 (.q 6 (.q 7 (.q 8 (.q 9 (.q 10 (.q 11 (.q 12 (.q 13 (.q 14 (.q 15 (.q 16 (.q 17 (.q 18 ((.l 19 [] (.q 20 (.q 21 (.q 22 ((.l 23 [] (.q 24 (.q 25 (.q 26 (.q 27 (.q 28 (.q 29 ((.l 30 [] (.q 31 (.q 32 (.q 33 (.q 34 (.q 35 ((.l 36 [] (.q 37 (.q 38 (.q 39 (.q 40 ((.l 41 [] (.q 42 (.q 43 (.q 44 (.done)))))))))))))))))))))))))))))))))))))))))))))))))))) (by kernel_rfl) ?_
 refine q_move rfl rfl rfl rfl ?_
 refine q_loadN_c rfl rfl rfl rfl Try.isAgg36 Try.sizeOf36 Tk 0 (us := [_, _, _]) (by first | rfl | exact (Nat.add_zero _).symm) rfl rfl ?_
 have sp_3 := feven k t o
 refine l_call rfl rfl rfl rfl rfl rfl Try.call14 (sp_3) Ts ?_
 rintro ⟨⟩ -
 try simp only [List.cons_append, List.nil_append]
 refine ag_nil ?_
 refine q_int rfl rfl rfl rfl rfl (b_eql _ _ _ _) ?_
 refine s_eq 27 rfl (v' := .bool true) (by first | rfl | simp) ?_
 refine q_move rfl rfl rfl rfl ?_
 refine q_move rfl rfl rfl rfl ?_
 refine q_int rfl rfl rfl rfl rfl (b_eql _ _ _ _) ?_
 refine s_eq 30 rfl (v' := .bool true) (by first | rfl | simp) ?_
 refine q_pick_t rfl rfl rfl rfl rfl ?_
 refine q_move rfl rfl rfl rfl ?_
 refine q_move rfl rfl rfl rfl ?_
 refine q_int rfl rfl rfl rfl rfl (b_eql _ _ _ _) ?_
 refine s_eq 34 rfl (v' := .bool true) (by first | rfl | simp) ?_
 refine q_pick_t rfl rfl rfl rfl rfl ?_
 refine q_move rfl rfl rfl rfl ?_
 refine q_move rfl rfl rfl rfl ?_
 refine q_not rfl rfl rfl rfl ?_
 refine s_eq 38 rfl (v' := .bool true) rfl ?_
 refine q_pick_t rfl rfl rfl rfl rfl ?_
 refine q_move rfl rfl rfl rfl ?_
 refine q_loadN_c rfl rfl rfl rfl Try.isAgg52 Try.sizeOf52 Tk 0 (us := [_, _, _, _]) (by first | rfl | exact (Nat.add_zero _).symm) rfl rfl ?_
 refine q_build rfl rfl rfl rfl (vs := [_, _, _, _]) (run_buildS Try.underlying52 Try.zeroValue52 (ps := [(0, 1), (1, 1), (2, 1), (3, 1)]) ⟨rfl, Try.sizeOf49, rfl, Try.sizeOf49, rfl, Try.sizeOf4, rfl, Try.sizeOf50, trivial⟩ rfl) ?_
 refine s_heap (fun _ h => Bun.fold (Γ := []) h) ?_
 have sp_4 := state_same 0 0 0 0 0 0 0 0 false false none none ([]) ([]) (Bun []) (by first | rfl | assumption | omega | (simp; done) | (simp; omega)) (.inl rfl) (by first | rfl | assumption | omega | (simp; done) | (simp; omega)) (.inl rfl) (by omega)
 refine l_call rfl rfl rfl rfl rfl rfl Try.call59 (sp_4) Ts ?_
 rintro ⟨⟩ -
 try simp only [List.cons_append, List.nil_append]
 refine ag_nil ?_
 refine q_pick_t rfl rfl rfl rfl rfl ?_
 refine q_move rfl rfl rfl rfl ?_
 refine s_bool_p 45 rfl (fun hg => ?_) (fun hg => by exfalso; first | exact hg ⟨trivial, trivial, trivial, rfl⟩ | exact hg ⟨trivial, trivial, trivial, trivial⟩ | (simp at hg; done))
 refine q_move rfl rfl rfl rfl ?_
 have sp_5 := fflgn 
 refine l_call rfl rfl rfl rfl rfl rfl Try.call22 (sp_5) Ts ?_
 rintro ⟨⟩ -
 try simp only [List.cons_append, List.nil_append]
 refine ag_nil ?_
 refine q_len rfl rfl rfl rfl Try.underlying61 ?_
 refine q_int rfl rfl rfl rfl rfl (b_eql _ _ _ _) ?_
 refine q_pick_t rfl rfl rfl rfl rfl ?_
 refine q_move rfl rfl rfl rfl ?_
 refine s_bool_p 51 rfl (fun g_6 => ?_) (fun g_6 => ?_)
 ·
  refine q_move rfl rfl rfl rfl ?_
  refine q_move rfl rfl rfl rfl ?_
  have sp_7 := fvctn z
  refine l_call rfl rfl rfl rfl rfl rfl Try.call19 (sp_7) Ts ?_
  rintro ⟨⟩ -
  try simp only [List.cons_append, List.nil_append]
  refine ag_nil ?_
  refine q_len rfl rfl rfl rfl Try.underlying50 ?_
  refine q_int rfl rfl rfl rfl rfl (b_eql _ _ _ _) ?_
  refine q_pick_t rfl rfl rfl rfl rfl ?_
  refine q_move rfl rfl rfl rfl ?_
  refine s_bool_p 58 rfl (fun g_8 => ?_) (fun g_8 => ?_)
  ·
   refine q_move rfl rfl rfl rfl ?_
   have sp_9 := fcstn 
   refine l_call rfl rfl rfl rfl rfl rfl Try.call17 (sp_9) Ts ?_
   rintro ⟨⟩ -
   try simp only [List.cons_append, List.nil_append]
   refine ag_nil ?_
   refine q_int rfl rfl rfl rfl rfl (b_eql _ _ _ _) ?_
   refine s_eq 61 rfl (v' := .bool true) (by first | rfl | simp) ?_
   refine q_pick_t rfl rfl rfl rfl rfl ?_
   refine q_move rfl rfl rfl rfl ?_
   refine q_move rfl rfl rfl rfl ?_
   have sp_10 := fcpyn 
   refine l_call rfl rfl rfl rfl rfl rfl Try.call20 (sp_10) Ts ?_
   rintro ⟨⟩ -
   try simp only [List.cons_append, List.nil_append]
   refine ag_nil ?_
   refine q_eq_nil rfl rfl rfl rfl Try.underlying27 ?_
   refine s_eq 66 rfl (v' := .bool true) rfl ?_
   refine q_pick_t rfl rfl rfl rfl rfl ?_
   refine q_assign rfl rfl rfl rfl ?_
   refine r_done ?_
   refine s_keep [6] (e' := [(6, _)]) rfl ?_
   refine k_then_n ?_
   refine c_ret ?_
   refine ret1 rfl rfl (()) (by first | rfl | (first | rfl | (congr 1; done) | (congr 1 <;> first | rfl | omega | (simp; done) | (simp; omega)))) (by trivial) ?_
   exact Tf
  ·
   refine q_skip rfl rfl rfl rfl ?_
   refine l_skip rfl rfl rfl rfl ?_
   refine q_skip rfl rfl rfl rfl ?_
   refine q_pick_f rfl rfl rfl rfl rfl ?_
   refine q_move rfl rfl rfl rfl ?_
   refine q_skip rfl rfl rfl rfl ?_
   refine l_skip rfl rfl rfl rfl ?_
   refine q_skip rfl rfl rfl rfl ?_
   refine q_pick_f rfl rfl rfl rfl rfl ?_
   refine q_assign rfl rfl rfl rfl ?_
   refine r_done ?_
   refine s_keep [6] (e' := [(6, _)]) rfl ?_
   refine k_then_n ?_
   refine c_ret ?_
   refine ret1 rfl rfl (()) (by first | rfl | (first | rfl | (congr 1; done) | (congr 1 <;> first | rfl | omega | (simp; done) | (simp; omega)))) (by trivial) ?_
   exact Tf
 ·
  refine q_skip rfl rfl rfl rfl ?_
  refine q_skip rfl rfl rfl rfl ?_
  refine l_skip rfl rfl rfl rfl ?_
  refine q_skip rfl rfl rfl rfl ?_
  refine q_skip rfl rfl rfl rfl ?_
  refine q_pick_f rfl rfl rfl rfl rfl ?_
  refine q_move rfl rfl rfl rfl ?_
  refine q_skip rfl rfl rfl rfl ?_
  refine l_skip rfl rfl rfl rfl ?_
  refine q_skip rfl rfl rfl rfl ?_
  refine q_pick_f rfl rfl rfl rfl rfl ?_
  refine q_move rfl rfl rfl rfl ?_
  refine q_skip rfl rfl rfl rfl ?_
  refine l_skip rfl rfl rfl rfl ?_
  refine q_skip rfl rfl rfl rfl ?_
  refine q_pick_f rfl rfl rfl rfl rfl ?_
  refine q_assign rfl rfl rfl rfl ?_
  refine r_done ?_
  refine s_keep [6] (e' := [(6, _)]) rfl ?_
  refine k_then_n ?_
  refine c_ret ?_
  refine ret1 rfl rfl (()) (by first | rfl | (first | rfl | (congr 1; done) | (congr 1 <;> first | rfl | omega | (simp; done) | (simp; omega)))) (by trivial) ?_
  exact Tf
theorem nothingz (b : Nat) (k t o z : Int) : Spec Try.prog 26 [.pointer (some ⟨b, 0, none⟩), .agg #[.int .i64 k, .int .i64 t, .int .i64 o], .int .i64 z] [cells b 0 [.pointer none, .slice none 0 0, .map none, .map none, .map none, .map none, .slice none 0 0, .int .i64 0]] (fun (_ : Unit) => .bool true) (fun _ => True) (fun _ => [cells b 0 [.pointer none, .slice none 0 0, .map none, .map none, .map none, .map none, .slice none 0 0, .int .i64 0]]) := by
 refine spec_mk (n := 68) Try.func26 rfl rfl rfl ?_
 intro Γ w0
 simp only [argE, List.cons_append, List.nil_append, Nat.zero_add, Nat.reduceAdd]
 refine c_seq ?_
 refine c_plain ((.l 0 [] (.q 1 (.done)))) (by kernel_rfl) ?_
 refine l_box rfl rfl rfl rfl (us := [_, _, _]) rfl ?_
 intro b4
 refine ag_nil ?_
 refine q_assign rfl rfl rfl rfl ?_
 refine r_done ?_
 refine k_then_n ?_
 refine c_seq ?_
 refine c_plain (.q 0 (.q 1 ((.l 2 [] ((.l 3 [] (.q 4 (.q 5 (.q 6 (.q 7 (.q 8 (.done)))))))))))) (by kernel_rfl) ?_
 refine q_move rfl rfl rfl rfl ?_
 refine q_loadN_c rfl rfl rfl rfl Try.isAgg36 Try.sizeOf36 Tk 0 (us := [_, _, _]) (by first | rfl | exact (Nat.add_zero _).symm) rfl rfl ?_
 refine l_buildSlice rfl rfl rfl rfl (run_build1 (us := [_, _, _]) Try.underlying26 Try.sizeOf36 rfl Try.zeroValue36 rfl rfl rfl) ?_
 intro b14
 refine ag_nil ?_
 have sp_1 := fevsz b (some ⟨b14, 0, none⟩) 1 1
 refine l_call rfl rfl rfl rfl rfl rfl Try.call12 (sp_1) Ts ?_
 rintro ⟨⟩ -
 try simp only [List.cons_append, List.nil_append]
 refine ag_nil ?_
 refine q_move rfl rfl rfl rfl ?_
 refine q_extract rfl rfl rfl rfl rfl ?_
 refine q_extract rfl rfl rfl rfl rfl ?_
 refine q_assign rfl rfl rfl rfl ?_
 refine q_assign rfl rfl rfl rfl ?_
 refine r_done ?_
 refine s_keep [0, 2, 4, 7, 8] (e' := [(0, _), (2, _), (4, _), (7, _), (8, _)]) rfl ?_
 refine k_then_n ?_
 refine c_seq ?_
 refine c_plain (.q 0 (.q 1 ((.l 2 [] (.q 3 (.q 4 (.q 5 ((.l 6 [] ((.l 7 [] (.q 8 (.done))))))))))))) (by kernel_rfl) ?_
 refine q_move rfl rfl rfl rfl ?_
 refine q_move rfl rfl rfl rfl ?_
 have sp_2 := fstaz b z
 refine l_call rfl rfl rfl rfl rfl rfl Try.call18 (sp_2) Ts ?_
 rintro ⟨⟩ -
 try simp only [List.cons_append, List.nil_append]
 refine ag_nil ?_
 refine q_move rfl rfl rfl rfl ?_
 refine q_extract rfl rfl rfl rfl rfl ?_
 refine q_extract rfl rfl rfl rfl rfl ?_
 refine l_alloc rfl rfl rfl Try.zeroValue52 (zs := [.int .u64 0, .int .u64 0, .bool false, .slice none 0 0]) rfl ?_
 intro b9
 refine ag_nil ?_
 refine l_store (j := 0) rfl rfl rfl rfl Try.sizeOf52 (us := [_, _, _, _]) rfl rfl rfl Tk (by first | rfl | exact (Nat.add_zero _).symm) (by first | decide | (simp; done) | omega) ?_
 simp only [setL, List.set]
 refine ag_nil ?_
 refine q_assign rfl rfl rfl rfl ?_
 refine r_done ?_
 refine s_keep [0, 2, 4, 7, 8, 9, 10] (e' := [(0, _), (2, _), (4, _), (7, _), (8, _), (9, _), (10, _)]) rfl ?_
 refine k_then_n ?_
 refine c_seq ?_
 refine c_plain (.q 0 (.q 1 ((.l 2 [] (.q 3 (.q 4 (.q 5 (.q 6 (.q 7 (.q 8 (.q 9 (.q 10 (.q 11 (.q 12 (.q 13 (.q 14 (.q 15 (.q 16 (.q 17 (.q 18 ((.l 19 [] (.q 20 (.q 21 (.q 22 ((.l 23 [] (.q 24 (.q 25 (.q 26 (.q 27 (.q 28 (.q 29 ((.l 30 [] (.q 31 (.q 32 (.q 33 (.q 34 (.q 35 ((.l 36 [] (.q 37 (.q 38 (.q 39 (.q 40 ((.l 41 [] (.q 42 (.q 43 (.q 44 (.done)))))))))))))))))))))))))))))))))))))))))))))))))))) (by kernel_rfl) ?_
 refine q_move rfl rfl rfl rfl ?_
 refine q_loadN_c rfl rfl rfl rfl Try.isAgg36 Try.sizeOf36 Tk 0 (us := [_, _, _]) (by first | rfl | exact (Nat.add_zero _).symm) rfl rfl ?_
 have sp_3 := fevez b k t o
 refine l_call rfl rfl rfl rfl rfl rfl Try.call14 (sp_3) Ts ?_
 rintro ⟨⟩ -
 try simp only [List.cons_append, List.nil_append]
 refine ag_nil ?_
 refine q_int rfl rfl rfl rfl rfl (b_eql _ _ _ _) ?_
 refine s_eq 27 rfl (v' := .bool true) (by first | rfl | simp) ?_
 refine q_move rfl rfl rfl rfl ?_
 refine q_move rfl rfl rfl rfl ?_
 refine q_int rfl rfl rfl rfl rfl (b_eql _ _ _ _) ?_
 refine s_eq 30 rfl (v' := .bool true) (by first | rfl | simp) ?_
 refine q_pick_t rfl rfl rfl rfl rfl ?_
 refine q_move rfl rfl rfl rfl ?_
 refine q_move rfl rfl rfl rfl ?_
 refine q_int rfl rfl rfl rfl rfl (b_eql _ _ _ _) ?_
 refine s_eq 34 rfl (v' := .bool true) (by first | rfl | simp) ?_
 refine q_pick_t rfl rfl rfl rfl rfl ?_
 refine q_move rfl rfl rfl rfl ?_
 refine q_move rfl rfl rfl rfl ?_
 refine q_not rfl rfl rfl rfl ?_
 refine s_eq 38 rfl (v' := .bool true) rfl ?_
 refine q_pick_t rfl rfl rfl rfl rfl ?_
 refine q_move rfl rfl rfl rfl ?_
 refine q_loadN_c rfl rfl rfl rfl Try.isAgg52 Try.sizeOf52 Tk 0 (us := [_, _, _, _]) (by first | rfl | exact (Nat.add_zero _).symm) rfl rfl ?_
 refine q_build rfl rfl rfl rfl (vs := [_, _, _, _]) (run_buildS Try.underlying52 Try.zeroValue52 (ps := [(0, 1), (1, 1), (2, 1), (3, 1)]) ⟨rfl, Try.sizeOf49, rfl, Try.sizeOf49, rfl, Try.sizeOf4, rfl, Try.sizeOf50, trivial⟩ rfl) ?_
 refine s_heap (fun _ h => Bun.fold (Γ := []) h) ?_
 have sp_4 := state_same 0 0 0 0 0 0 0 0 false false none none ([]) ([]) (Bun []) (by first | rfl | assumption | omega | (simp; done) | (simp; omega)) (.inl rfl) (by first | rfl | assumption | omega | (simp; done) | (simp; omega)) (.inl rfl) (by omega)
 refine l_call rfl rfl rfl rfl rfl rfl Try.call59 (sp_4) Ts ?_
 rintro ⟨⟩ -
 try simp only [List.cons_append, List.nil_append]
 refine ag_nil ?_
 refine q_pick_t rfl rfl rfl rfl rfl ?_
 refine q_move rfl rfl rfl rfl ?_
 refine s_bool_p 45 rfl (fun hg => ?_) (fun hg => by exfalso; first | exact hg ⟨trivial, trivial, trivial, rfl⟩ | exact hg ⟨trivial, trivial, trivial, trivial⟩ | (simp at hg; done))
 refine q_move rfl rfl rfl rfl ?_
 have sp_5 := fflgz b
 refine l_call rfl rfl rfl rfl rfl rfl Try.call22 (sp_5) Ts ?_
 rintro ⟨⟩ -
 try simp only [List.cons_append, List.nil_append]
 refine ag_nil ?_
 refine q_len rfl rfl rfl rfl Try.underlying61 ?_
 refine q_int rfl rfl rfl rfl rfl (b_eql _ _ _ _) ?_
 refine q_pick_t rfl rfl rfl rfl rfl ?_
 refine q_move rfl rfl rfl rfl ?_
 refine s_bool_p 51 rfl (fun g_6 => ?_) (fun g_6 => ?_)
 ·
  refine q_move rfl rfl rfl rfl ?_
  refine q_move rfl rfl rfl rfl ?_
  have sp_7 := fvctz b z
  refine l_call rfl rfl rfl rfl rfl rfl Try.call19 (sp_7) Ts ?_
  rintro ⟨⟩ -
  try simp only [List.cons_append, List.nil_append]
  refine ag_nil ?_
  refine q_len rfl rfl rfl rfl Try.underlying50 ?_
  refine q_int rfl rfl rfl rfl rfl (b_eql _ _ _ _) ?_
  refine q_pick_t rfl rfl rfl rfl rfl ?_
  refine q_move rfl rfl rfl rfl ?_
  refine s_bool_p 58 rfl (fun g_8 => ?_) (fun g_8 => ?_)
  ·
   refine q_move rfl rfl rfl rfl ?_
   have sp_9 := fcstz b
   refine l_call rfl rfl rfl rfl rfl rfl Try.call17 (sp_9) Ts ?_
   rintro ⟨⟩ -
   try simp only [List.cons_append, List.nil_append]
   refine ag_nil ?_
   refine q_int rfl rfl rfl rfl rfl (b_eql _ _ _ _) ?_
   refine s_eq 61 rfl (v' := .bool true) (by first | rfl | simp) ?_
   refine q_pick_t rfl rfl rfl rfl rfl ?_
   refine q_move rfl rfl rfl rfl ?_
   refine q_move rfl rfl rfl rfl ?_
   have sp_10 := fcpyz b
   refine l_call rfl rfl rfl rfl rfl rfl Try.call20 (sp_10) Ts ?_
   rintro ⟨⟩ -
   try simp only [List.cons_append, List.nil_append]
   refine ag_nil ?_
   refine q_eq_nil rfl rfl rfl rfl Try.underlying27 ?_
   refine s_eq 66 rfl (v' := .bool true) rfl ?_
   refine q_pick_t rfl rfl rfl rfl rfl ?_
   refine q_assign rfl rfl rfl rfl ?_
   refine r_done ?_
   refine s_keep [6] (e' := [(6, _)]) rfl ?_
   refine k_then_n ?_
   refine c_ret ?_
   refine ret1 rfl rfl (()) (by first | rfl | (first | rfl | (congr 1; done) | (congr 1 <;> first | rfl | omega | (simp; done) | (simp; omega)))) (by trivial) ?_
   exact Tf
  ·
   refine q_skip rfl rfl rfl rfl ?_
   refine l_skip rfl rfl rfl rfl ?_
   refine q_skip rfl rfl rfl rfl ?_
   refine q_pick_f rfl rfl rfl rfl rfl ?_
   refine q_move rfl rfl rfl rfl ?_
   refine q_skip rfl rfl rfl rfl ?_
   refine l_skip rfl rfl rfl rfl ?_
   refine q_skip rfl rfl rfl rfl ?_
   refine q_pick_f rfl rfl rfl rfl rfl ?_
   refine q_assign rfl rfl rfl rfl ?_
   refine r_done ?_
   refine s_keep [6] (e' := [(6, _)]) rfl ?_
   refine k_then_n ?_
   refine c_ret ?_
   refine ret1 rfl rfl (()) (by first | rfl | (first | rfl | (congr 1; done) | (congr 1 <;> first | rfl | omega | (simp; done) | (simp; omega)))) (by trivial) ?_
   exact Tf
 ·
  refine q_skip rfl rfl rfl rfl ?_
  refine q_skip rfl rfl rfl rfl ?_
  refine l_skip rfl rfl rfl rfl ?_
  refine q_skip rfl rfl rfl rfl ?_
  refine q_skip rfl rfl rfl rfl ?_
  refine q_pick_f rfl rfl rfl rfl rfl ?_
  refine q_move rfl rfl rfl rfl ?_
  refine q_skip rfl rfl rfl rfl ?_
  refine l_skip rfl rfl rfl rfl ?_
  refine q_skip rfl rfl rfl rfl ?_
  refine q_pick_f rfl rfl rfl rfl rfl ?_
  refine q_move rfl rfl rfl rfl ?_
  refine q_skip rfl rfl rfl rfl ?_
  refine l_skip rfl rfl rfl rfl ?_
  refine q_skip rfl rfl rfl rfl ?_
  refine q_pick_f rfl rfl rfl rfl rfl ?_
  refine q_assign rfl rfl rfl rfl ?_
  refine r_done ?_
  refine s_keep [6] (e' := [(6, _)]) rfl ?_
  refine k_then_n ?_
  refine c_ret ?_
  refine ret1 rfl rfl (()) (by first | rfl | (first | rfl | (congr 1; done) | (congr 1 <;> first | rfl | omega | (simp; done) | (simp; omega)))) (by trivial) ?_
  exact Tf
theorem known_spec : Spec Try.prog 11 [] [] (fun (_ : Unit) => .bool true) (fun _ => True) (fun _ => []) := by
 refine spec_mk (n := 47) Try.func11 rfl rfl rfl ?_
 intro Γ w0
 simp only [argE, List.cons_append, List.nil_append, Nat.zero_add, Nat.reduceAdd]
 refine c_seq ?_
 refine c_plain (.q 0 (.done)) (by kernel_rfl) ?_
 refine q_assign rfl rfl rfl rfl ?_
 refine r_done ?_
 refine k_then_n ?_
 refine c_seq ?_
 refine c_plain (.q 0 ((.l 1 [] (.q 2 (.q 3 (.q 4 (.q 5 (.q 6 (.done))))))))) (by kernel_rfl) ?_
 refine q_build rfl rfl rfl rfl (vs := [_, _, _, _, _]) (run_buildS Try.underlying25 Try.zeroValue25 (ps := [(0, 1), (1, 1), (2, 1), (3, 1), (4, 1)]) ⟨rfl, Try.sizeOf3, rfl, Try.sizeOf3, rfl, Try.sizeOf3, rfl, Try.sizeOf3, rfl, Try.sizeOf23, trivial⟩ rfl) ?_
 refine s_heap (fun _ h => Bun.fold (Γ := []) h) ?_
 have sp_1 := Fa.new_spec 2 1 0 0 ([]) none 0 0 (Bun []) (.inl rfl) (by rfl) (by omega) okk
 refine l_call rfl rfl rfl rfl rfl rfl Try.call9 (sp_1) Ts ?_
 rintro ⟨d, ⟨dpa, dpc⟩, dpo, dpoc⟩ -
 try simp only [List.cons_append, List.nil_append]
 refine ag_nil ?_
 refine q_move rfl rfl rfl rfl ?_
 refine q_extract rfl rfl rfl rfl rfl ?_
 refine q_extract rfl rfl rfl rfl rfl ?_
 refine q_assign rfl rfl rfl rfl ?_
 refine q_assign rfl rfl rfl rfl ?_
 refine r_done ?_
 rw [show fNew 2 1 0 0 [] = xk0 from rfl]
 refine s_keep [1, 2] (e' := [(1, _), (2, _)]) rfl ?_
 refine k_then_n ?_
 refine c_seq ?_
 refine c_seq ?_
 refine c_plain (.q 0 (.q 1 (.q 2 (.q 3 (.q 4 (.q 5 (.done))))))) (by kernel_rfl) ?_
 refine q_move rfl rfl rfl rfl ?_
 refine q_eq_nil rfl rfl rfl rfl Try.underlying27 ?_
 refine s_eq 12 rfl (v' := .bool false) rfl ?_
 refine q_move rfl rfl rfl rfl ?_
 refine q_move rfl rfl rfl rfl ?_
 refine q_int rfl rfl rfl rfl rfl (b_neq _ _ _ _) ?_
 refine s_eq 15 rfl (v' := .bool false) (by first | rfl | simp) ?_
 refine q_pick_f rfl rfl rfl rfl rfl ?_
 refine r_done ?_
 refine s_keep [1, 16] (e' := [(1, _), (16, _)]) rfl ?_
 refine k_then_n ?_
 refine c_cond_f rfl ?_
 refine c_skip ?_
 refine k_then_n ?_
 refine c_seq ?_
 refine c_plain (.q 0 (.q 1 (.q 2 (.q 3 (.q 4 ((.l 5 [] ((.l 6 [] (.q 7 (.q 8 (.q 9 (.q 10 (.q 11 (.done))))))))))))))) (by kernel_rfl) ?_
 refine q_move rfl rfl rfl rfl ?_
 refine q_build rfl rfl rfl rfl (vs := [_, _, _]) (run_buildS Try.underlying36 Try.zeroValue36 (ps := [(0, 1), (1, 1), (2, 1)]) ⟨rfl, Try.sizeOf34, rfl, Try.sizeOf3, rfl, Try.sizeOf3, trivial⟩ rfl) ?_
 refine q_build rfl rfl rfl rfl (vs := [_, _, _]) (run_buildS Try.underlying36 Try.zeroValue36 (ps := [(0, 1), (1, 1), (2, 1)]) ⟨rfl, Try.sizeOf34, rfl, Try.sizeOf3, rfl, Try.sizeOf3, trivial⟩ rfl) ?_
 refine q_build rfl rfl rfl rfl (vs := [_, _, _]) (run_buildS Try.underlying36 Try.zeroValue36 (ps := [(0, 1), (1, 1), (2, 1)]) ⟨rfl, Try.sizeOf34, rfl, Try.sizeOf3, rfl, Try.sizeOf3, trivial⟩ rfl) ?_
 refine q_build rfl rfl rfl rfl (vs := [_, _, _]) (run_buildS Try.underlying36 Try.zeroValue36 (ps := [(0, 1), (1, 1), (2, 1)]) ⟨rfl, Try.sizeOf34, rfl, Try.sizeOf3, rfl, Try.sizeOf3, trivial⟩ rfl) ?_
 refine l_buildSlice rfl rfl rfl rfl (vs := [_, _, _, _, _, _, _, _, _, _, _, _]) (run_buildSl Try.underlying26 Try.sizeOf36 Try.zeroValue36 rfl rfl rfl rfl) ?_
 intro b23
 refine ag_nil ?_
 have sp_2 := Fa.events_spec dpa dpc dpo dpoc d xk0 xk0_inv (by decide) ([]) rfl ek (some ⟨b23, 0, none⟩) 4 4 (cells b23 0 [.int .i64 7, .int .i64 0, .int .i64 1, .int .i64 2, .int .i64 0, .int .i64 0, .int .i64 2, .int .i64 1, .int .i64 0, .int .i64 10, .int .i64 0, .int .i64 0]) (rds_some rdn_cells) (by first | rfl | assumption | omega | (simp; done) | (simp; omega)) (by omega)
 refine l_call rfl rfl rfl rfl rfl rfl Try.call12 (sp_2) Ts ?_
 rintro i ⟨hi1, hi2, hi3⟩
 try simp only [List.cons_append, List.nil_append]
 refine ag_nil ?_
 obtain rfl := ek_three i hi1 hi2 hi3
 rw [show fAll xk0 (ek.take 3) = xk3 from rfl]
 refine q_move rfl rfl rfl rfl ?_
 refine q_extract rfl rfl rfl rfl rfl ?_
 refine q_extract rfl rfl rfl rfl rfl ?_
 refine q_assign rfl rfl rfl rfl ?_
 refine q_assign rfl rfl rfl rfl ?_
 refine r_done ?_
 refine s_keep [1, 3, 4] (e' := [(1, _), (3, _), (4, _)]) rfl ?_
 refine k_then_n ?_
 refine c_seq ?_
 refine c_plain (.q 0 ((.l 1 [] (.q 2 (.done))))) (by kernel_rfl) ?_
 refine q_move rfl rfl rfl rfl ?_
 have sp_3 := Fa.flags_spec dpa dpc dpo dpoc d xk3 xk3_inv
 refine l_call rfl rfl rfl rfl rfl rfl Try.call22 (sp_3) Ts ?_
 rintro ⟨fa, fc⟩ -
 try simp only [List.cons_append, List.nil_append]
 refine ag_nil ?_
 refine q_assign rfl rfl rfl rfl ?_
 refine r_done ?_
 refine k_then_n ?_
 refine c_seq ?_
 have hfl_ : (flFF xk3.vs).length = 1 := by rw [xk3_flags]; rfl
 refine c_plain (.q 0 (.q 1 (.q 2 (.q 3 (.q 4 (.q 5 (.q 6 (.q 7 (.q 8 (.q 9 (.q 10 (.q 11 (.q 12 (.q 13 (.q 14 (.q 15 (.q 16 (.q 17 (.q 18 (.done)))))))))))))))))))) (by kernel_rfl) ?_
 refine q_move rfl rfl rfl rfl ?_
 refine q_int rfl rfl rfl rfl rfl (b_eql _ _ _ _) ?_
 refine s_eq 30 rfl (v' := .bool true) (by first | rfl | simp) ?_
 refine q_move rfl rfl rfl rfl ?_
 refine q_move rfl rfl rfl rfl ?_
 refine q_int rfl rfl rfl rfl rfl (b_eql _ _ _ _) ?_
 refine s_eq 33 rfl (v' := .bool true) (by first | rfl | simp) ?_
 refine q_pick_t rfl rfl rfl rfl rfl ?_
 refine q_move rfl rfl rfl rfl ?_
 refine q_move rfl rfl rfl rfl ?_
 refine q_len rfl rfl rfl rfl Try.underlying61 ?_
 refine q_int rfl rfl rfl rfl rfl (b_eql _ _ _ _) ?_
 refine s_eq 38 rfl (v' := .bool true) (by rw [hfl_]; rfl) ?_
 refine q_pick_t rfl rfl rfl rfl rfl ?_
 refine q_move rfl rfl rfl rfl ?_
 refine q_move rfl rfl rfl rfl ?_
 refine q_idxO (sz := 1) (k := 0) (enc := enc2) (xs := (flFF xk3.vs)) rfl rfl rfl rfl rfl Try.underlying61 Try.sizeOf101 (show (flFF xk3.vs)[0]? = some ((0 : Int), (2 : Int)) by rw [xk3_flags]; rfl) (by first | rfl | omega) (by omega) Tk ?_
 intro ib42 io42 ha42 hl42 hc42
 refine q_loadN_O (j := 0) (k' := 0) (us := [_, _]) (enc := enc2) (off := io42) rfl rfl rfl rfl Try.isAgg101 Try.sizeOf101 ha42 enc2_len (show (flFF xk3.vs)[0]? = some ((0 : Int), (2 : Int)) by rw [xk3_flags]; rfl) Tk (by first | rfl | exact (Nat.add_zero _).symm | omega) (by rfl) rfl ?_
 refine q_build rfl rfl rfl rfl (vs := [_, _]) (run_buildS Try.underlying101 Try.zeroValue101 (ps := [(0, 1), (1, 1)]) ⟨rfl, Try.sizeOf3, rfl, Try.sizeOf3, trivial⟩ rfl) ?_
 refine q_eqS rfl rfl rfl rfl rfl (by kernel_rfl) (eqc_struct Try.underlying101 (by kernel_rfl) (eqf_cons rfl Try.isAgg3 rfl rfl (eqc_int Try.underlying3) (eqf_last rfl Try.isAgg3 rfl rfl (eqc_int Try.underlying3)))) ?_
 refine s_eq 45 rfl (v' := .bool (decide (((0 : Int), (2 : Int)) = (0, 2)))) (by first | (congr 1; done) | (congr 1; rw [Bool.eq_iff_iff]; simp [Prod.ext_iff, and_assoc])) ?_
 refine s_eq 45 rfl (v' := .bool true) (by rw [decide_eq_true rfl]) ?_
 refine q_pick_t rfl rfl rfl rfl rfl ?_
 refine q_assign rfl rfl rfl rfl ?_
 refine r_done ?_
 refine s_keep [0] (e' := [(0, _)]) rfl ?_
 refine k_then_n ?_
 refine c_ret ?_
 refine ret1 rfl rfl (()) (by first | rfl | (first | rfl | (congr 1; done) | (congr 1 <;> first | rfl | omega | (simp; done) | (simp; omega)))) (by trivial) ?_
 exact Tf
theorem nil_spec (k t o z : Int) : Spec Try.prog 8 [.agg #[.int .i64 k, .int .i64 t, .int .i64 o], .int .i64 z] [] (fun (_ : Unit) => .bool true) (fun _ => True) (fun _ => []) := by
 refine spec_mk (n := 20) Try.func8 rfl rfl rfl ?_
 intro Γ w0
 simp only [argE, List.cons_append, List.nil_append, Nat.zero_add, Nat.reduceAdd]
 refine c_seq ?_
 refine c_plain ((.l 0 [] (.q 1 (.done)))) (by kernel_rfl) ?_
 refine l_box rfl rfl rfl rfl (us := [_, _, _]) rfl ?_
 intro b2
 refine ag_nil ?_
 refine q_assign rfl rfl rfl rfl ?_
 refine r_done ?_
 refine k_then_n ?_
 refine c_seq ?_
 refine c_plain (.q 0 (.done)) (by kernel_rfl) ?_
 refine q_assign rfl rfl rfl rfl ?_
 refine r_done ?_
 refine k_then_n ?_
 refine c_seq ?_
 refine c_plain (.q 0 (.q 1 (.q 2 ((.l 3 [] (.q 4 (.q 5 ((.l 6 [] (.q 7 (.q 8 ((.l 9 [] (.q 10 (.q 11 ((.l 12 [] (.q 13 (.q 14 (.done)))))))))))))))))))) (by kernel_rfl) ?_
 refine q_move rfl rfl rfl rfl ?_
 refine q_loadN_c rfl rfl rfl rfl Try.isAgg36 Try.sizeOf36 Tk 0 (us := [_, _, _]) (by first | rfl | exact (Nat.add_zero _).symm) rfl rfl ?_
 refine q_move rfl rfl rfl rfl ?_
 have sp_1 := nothingn k t o z
 refine l_call rfl rfl rfl rfl rfl rfl Try.call26 (sp_1) Ts ?_
 rintro ⟨⟩ -
 try simp only [List.cons_append, List.nil_append]
 refine ag_nil ?_
 refine q_move rfl rfl rfl rfl ?_
 refine q_build rfl rfl rfl rfl (vs := [_, _, _, _, _, _, _, _]) (run_buildS Try.underlying81 Try.zeroValue81 (ps := [(0, 1), (1, 1), (2, 1), (3, 1), (4, 1), (5, 1), (6, 1), (7, 1)]) ⟨rfl, Try.sizeOf76, rfl, Try.sizeOf23, rfl, Try.sizeOf77, rfl, Try.sizeOf77, rfl, Try.sizeOf77, rfl, Try.sizeOf78, rfl, Try.sizeOf79, rfl, Try.sizeOf3, trivial⟩ rfl) ?_
 refine l_box rfl rfl rfl rfl (us := [_, _, _, _, _, _, _, _]) rfl ?_
 intro b12
 refine ag_nil ?_
 refine q_loadN_c rfl rfl rfl rfl Try.isAgg36 Try.sizeOf36 Tk 0 (us := [_, _, _]) (by first | rfl | exact (Nat.add_zero _).symm) rfl rfl ?_
 refine q_move rfl rfl rfl rfl ?_
 have sp_2 := nothingz b12 k t o z
 refine l_call rfl rfl rfl rfl rfl rfl Try.call26 (sp_2) Ts ?_
 rintro ⟨⟩ -
 try simp only [List.cons_append, List.nil_append]
 refine ag_nil ?_
 refine q_pick_t rfl rfl rfl rfl rfl ?_
 refine q_move rfl rfl rfl rfl ?_
 have sp_3 := known_spec
 refine l_call rfl rfl rfl rfl rfl rfl Try.call11 (sp_3) Ts ?_
 rintro ⟨⟩ -
 try simp only [List.cons_append, List.nil_append]
 refine ag_nil ?_
 refine q_pick_t rfl rfl rfl rfl rfl ?_
 refine q_assign rfl rfl rfl rfl ?_
 refine r_done ?_
 refine s_keep [4] (e' := [(4, _)]) rfl ?_
 refine k_then_n ?_
 refine c_ret ?_
 refine ret1 rfl rfl (()) (by first | rfl | (first | rfl | (congr 1; done) | (congr 1 <;> first | rfl | omega | (simp; done) | (simp; omega)))) (by trivial) ?_
 exact Tf
end Go.Ab.Fa
set_option linter.unusedVariables false
set_option linter.unusedSimpArgs false
namespace Go.Proofs.Ytjibehgfiljbgaa.frame
open Go Go.Ab Go.ChangeShapes Go.WideShapes Go.ChangeAt Go.RowKit
/-! The bound. -/
theorem part_le {H : Type} {d : DataW H} {l : List (DataW H)} (h : d ∈ l) : Rows.uptoBulk d ≤ Rows.uptoBulkAll l := by
  induction l with
  | nil => cases h
  | cons x r ih =>
    simp only [Rows.uptoBulkAll]
    cases List.mem_cons.1 h with
    | inl e => subst e; omega
    | inr e => have := ih e; omega
theorem bound {H : Type} {l : List (DataW H)} (hk : Rows.uptoSmall H l = true) : Rows.uptoBulkAll l ≤ 1048576 := of_decide_eq_true hk
theorem bound_mem {H : Type} {l : List (DataW H)} {d : DataW H} (hk : Rows.uptoSmall H l = true) (h : d ∈ l) : Rows.uptoBulk d ≤ 1048576 := Nat.le_trans (part_le h) (bound hk)
/-! The arguments read behind the call as before. -/
theorem trodAll_below {H : Type} {enc : TypeId × Value → H} {P : Program} (hl : laidOutB P = true) {W W' : World} (hb : Below W.heap.size W W') : ∀ {ts : List TypeId} {vs : List Value} {ds : List (DataW H)} {ps : List MemPlace}, (∀ t ∈ ts, P.readableRec t = true ∧ t < P.types.size) →
    DataW.TrodAll enc P W 0 (fun _ => true) true ts vs ds ps → (∀ x ∈ ps, x.block < W.heap.size) → DataW.TrodAll enc P W' 0 (fun b => decide (b < W.heap.size)) true ts vs ds ps
  | [], [], [], _, _, h, _ => h
  | t :: ts, v :: vs, d :: ds, ps, hr, ⟨p, q, h, hs, e⟩, hlt => by
    subst e
    exact ⟨p, q, Below.trod hl (hr t (by simp)).1 (hr t (by simp)).2 h hb (fun x hx => hlt x (List.mem_append_left _ hx)), trodAll_below hl hb (fun t ht => hr t (List.mem_cons_of_mem _ ht)) hs (fun x hx => hlt x (List.mem_append_right _ hx)), rfl⟩
theorem law_post {H : Type} {enc : TypeId × Value → H} {P : Program} {f : Func} {s : ChangeSpec} {W W' : World} {args : Array Value} {ds gs : List (DataW H)} {before : List MemPlace} {tb : TypeId}
    (hl : laidOutB P = true) (hr : ∀ t ∈ f.params.toList, P.readableRec t = true ∧ t < P.types.size) (hvars : s.vars = []) (hres : f.resultTypes = #[tb]) (hb : P.underlying tb = some .bool)
    (hf : s.fn H (ds ++ gs) = { results := [.lit (.bool true)], args := ds, vars := [] }) (hW : DataW.Whole enc P f.params.toList s.vars false W args.toList ds gs before) (bel : Below W.heap.size W W') : s.post enc P f false true false false W args (.bool true) W' := by
  have hW' := hW
  obtain ⟨p, q, hA, hV, rfl, hfz, hnd⟩ := hW
  rw [hvars] at hV
  obtain ⟨rfl, rfl⟩ := trodVars_none hV
  have hA' : DataW.TrodAll enc P W 0 (fun _ => true) true f.params.toList args.toList ds p := hA
  refine ⟨ds, [], p ++ [], [], p, [], hW', ?_, ?_, ?_, bel.frame _, fun h => by cases h⟩
  · rw [hf, hres]
    exact trodAll_mk1 (shut_bool hb true)
  · rw [hf]
    exact trodAll_below hl bel hr hA' (fun x hx => hW'.lt x (List.mem_append_left _ hx))
  · rw [hf, hvars]
    exact rfl
theorem spec_calls {P : Program} {f : FuncId} {args : List Value} {W : World} (h : Ab.Spec P f args [base W] (fun (_ : Unit) => .bool true) (fun _ => True) (fun _ => [base W])) : Calls P f args.toArray W fun e W' => e = .returned (.bool true) ∧ Below W.heap.size W W' :=
  (h [] W (base_self W)).mono fun e w' ⟨_, e1, _, s, a⟩ => ⟨e1, below_of_base s a⟩
/-! Arguments are opened. -/
/-- An integer. -/
theorem el_int {H : Type} {enc : TypeId × Value → H} {P : Program} {W : World} {e : TypeId} {k : IntKind} (he : P.underlying e = some (.int k)) (n : Nat) (cs : List Value) (y : DataW H × List MemPlace) (h : DataW.trod enc P W 0 (fun _ => true) true n e cs = some y) (hl : cs.length = 0 + 1) : ∃ x : Int, [Value.int k x] = cs ∧ (Lit.int k x).wf = true := by
  obtain ⟨m, rfl, rfl, hw⟩ := DataW.trod_int he h
  exact ⟨m, rfl, hw⟩
/-- What asks for nothing leaves all. -/
theorem spec_base {P : Program} {f : FuncId} {args : List Value} {A : HProp} (h : Ab.Spec P f args [] (fun (_ : Unit) => .bool true) (fun _ => True) (fun _ => [])) : Ab.Spec P f args [A] (fun (_ : Unit) => .bool true) (fun _ => True) (fun _ => [A]) := fun Γ w s => h (A :: Γ) w s
end Go.Proofs.Ytjibehgfiljbgaa.frame
set_option linter.unusedVariables false
set_option linter.unusedSimpArgs false
namespace Go.Proofs.Ytjibehgfiljbgaa.frame
open Go Go.Ab Go.ChangeShapes Go.WideShapes Go.ChangeAt Go.RowKit
variable {α β H : Type} {enc : TypeId × Value → H} {P : Program} {W : World} {e : TypeId} {fs : Array Field} {m : Nat} {cs : List Value} {B : Nat}
/-- How an element of type e is opened. -/
abbrev El (enc : TypeId × Value → H) (P : Program) (W : World) (e : TypeId) (sz : Nat) (encA : α → List Value) (Q : α → DataW H → Prop) : Prop :=
  ∀ n cs y, DataW.trod enc P W 0 (fun _ => true) true n e cs = some y → cs.length = sz → ∃ x : α, encA x = cs ∧ Q x y.1
/-- What is known of the fields from i on. -/
def FR (enc : TypeId × Value → H) (P : Program) (W : World) (fs : Array Field) (m i : Nat) (cs : List Value) (B : Nat) : Prop :=
  ∀ j f, i ≤ j → fs[j]? = some f → ∃ y : DataW H × List MemPlace, DataW.trod enc P W 0 (fun _ => true) true m f.type ((cs.drop f.offset).take (P.cellsOf f.type)) = some y ∧ Rows.uptoBulk y.1 ≤ B
theorem fr_start {n : Nat} {y : DataW H × List MemPlace} (he : P.underlying e = some (.struct fs)) (h : DataW.trod enc P W 0 (fun _ => true) true n e cs = some y) : ∃ m, FR enc P W fs m 0 cs (Rows.uptoBulk y.1) := by
  obtain ⟨xs, m, -, hy, -, hxs, hf⟩ := DataW.trod_struct he h
  refine ⟨m, fun j f _ hj => ?_⟩
  have hlt : j < xs.length := by rw [hxs]; exact (Array.getElem?_eq_some_iff.1 hj).1
  have := hf j f hj
  rw [List.getElem?_eq_getElem hlt] at this
  refine ⟨_, this, ?_⟩
  rw [hy]
  have hp := part_le (l := xs.map (·.1)) (d := xs[j].1) (List.mem_map_of_mem (List.getElem_mem hlt))
  simp only [Rows.uptoBulk]
  omega
/-- Fields from i on, opened. -/
abbrev Fo (enc : TypeId × Value → H) (P : Program) (W : World) (fs : Array Field) (i off sz : Nat) (encA : α → List Value) (Q : α → Nat → Prop) : Prop :=
  ∀ m cs B, FR enc P W fs m i cs B → cs.length = off + sz → ∃ x : α, encA x = cs.drop off ∧ Q x B
theorem fo_last {i off sz : Nat} {f : Field} {encA : α → List Value} {Q : α → DataW H → Prop} (hf : fs[i]? = some f) (ho : f.offset = off) (hc : P.cellsOf f.type = sz) (el : El enc P W f.type sz encA Q) :
    Fo enc P W fs i off sz encA (fun x B => ∃ d, Q x d ∧ Rows.uptoBulk d ≤ B) := by
  intro m cs B h hl
  obtain ⟨y, hy, hb⟩ := h i f (Nat.le_refl _) hf
  rw [ho, hc, List.take_of_length_le (by rw [List.length_drop]; omega)] at hy
  obtain ⟨x, hx, hq⟩ := el m _ y hy (by rw [List.length_drop]; omega)
  exact ⟨x, hx, y.1, hq, hb⟩
theorem fo_cons {i off sz n : Nat} {f : Field} {encA : α → List Value} {Q : α → DataW H → Prop} {encB : β → List Value} {R : β → Nat → Prop} (hf : fs[i]? = some f) (ho : f.offset = off) (hc : P.cellsOf f.type = sz) (el : El enc P W f.type sz encA Q)
    (rest : Fo enc P W fs (i + 1) (off + sz) n encB R) : Fo enc P W fs i off (sz + n) (fun x : α × β => encA x.1 ++ encB x.2) (fun x B => (∃ d, Q x.1 d ∧ Rows.uptoBulk d ≤ B) ∧ R x.2 B) := by
  intro m cs B h hl
  obtain ⟨y, hy, hb⟩ := h i f (Nat.le_refl _) hf
  rw [ho, hc] at hy
  obtain ⟨x, hx, hq⟩ := el m _ y hy (by rw [List.length_take, List.length_drop]; omega)
  obtain ⟨z, hz, hr⟩ := rest m cs B (fun j g hj hg => h j g (by omega) hg) (by omega)
  refine ⟨(x, z), ?_, ⟨y.1, hq, hb⟩, hr⟩
  show encA x ++ encB z = _
  rw [hx, hz, ← List.drop_drop, List.take_append_drop]
theorem el_struct {sz : Nat} {encA : α → List Value} {Q : α → Nat → Prop} (he : P.underlying e = some (.struct fs)) (fo : Fo enc P W fs 0 0 sz encA Q) : El enc P W e sz encA (fun x d => Q x (Rows.uptoBulk d)) := by
  intro n cs y h hl
  obtain ⟨m, hm⟩ := fr_start he h
  obtain ⟨x, hx, hq⟩ := fo m cs _ hm (by omega)
  exact ⟨x, hx, hq⟩
/-- A struct handed in. -/
theorem arg_struct {t : TypeId} {v : Value} {d : DataW H} {ps : List MemPlace} {bs sz : Nat} {encA : α → List Value} {Q : α → DataW H → Prop} (ht : P.underlying t = some (.struct fs)) (hc : P.cellsOf t = sz) (el : El enc P W t sz encA Q)
    (hval : Value.okWide P W .any bs t v) (h : DataW.Trod enc P W 0 (fun _ => true) true t v d ps) : ∃ x : α, v = .agg (encA x).toArray ∧ Q x d := by
  obtain ⟨cs, rfl, hs⟩ := okWide_struct ht hval
  obtain ⟨n, hn⟩ := h
  obtain ⟨x, hx, hq⟩ := el n cs.toList (d, ps) (by simpa [Value.cells] using hn) (by simpa [hc] using hs)
  exact ⟨x, by rw [hx], hq⟩
end Go.Proofs.Ytjibehgfiljbgaa.frame
