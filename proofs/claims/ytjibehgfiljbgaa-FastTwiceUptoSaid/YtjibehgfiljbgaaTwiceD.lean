/- What the law Twice rests on, part 4 of 5. -/
import Derived.Test.YtjibehgfiljbgaaTwiceC
set_option linter.unusedVariables false
set_option linter.unusedSimpArgs false
set_option maxRecDepth 100000
namespace Go.Ab.Fa
open Go Go.Proofs Go.Ab Go.Ab.Fe Go.Ab.Vc Go.Ab.Dj
theorem none_spec (b cb : Nat) (v1 v2 v3 v4 v5 v6 v7 : Value) : Spec Try.prog 32 [.pointer (some ⟨b, 0, none⟩)] [cells b 0 [.pointer (some ⟨cb, 0, none⟩), v1, v2, v3, v4, v5, v6, v7]] (fun (_ : Unit) => .bool false) (fun _ => True) (fun _ => [cells b 0 [.pointer (some ⟨cb, 0, none⟩), v1, v2, v3, v4, v5, v6, v7]]) := by
 refine spec_mk (n := 12) Try.func32 rfl rfl rfl ?_
 intro Γ w0
 simp only [argE, List.cons_append, List.nil_append, Nat.zero_add, Nat.reduceAdd]
 refine c_seq ?_
 refine c_plain (.q 0 (.done)) (by kernel_rfl) ?_
 refine q_assign rfl rfl rfl rfl ?_
 refine r_done ?_
 refine k_then_n ?_
 refine c_seq ?_
 refine c_plain (.q 0 (.q 1 (.q 2 (.q 3 (.q 4 (.q 5 (.q 6 (.q 7 (.q 8 (.q 9 (.done))))))))))) (by kernel_rfl) ?_
 refine q_move rfl rfl rfl rfl ?_
 refine q_eq_nil rfl rfl rfl rfl Try.underlying27 ?_
 refine s_eq 4 rfl (v' := .bool false) rfl ?_
 refine q_move rfl rfl rfl rfl ?_
 refine q_move rfl rfl rfl rfl ?_
 refine q_nil_p rfl rfl rfl rfl ?_
 refine q_field (k := 0) rfl rfl rfl rfl Try.underlying81 rfl Try.sizeOf76 rfl ?_
 refine q_load_c (j := 0) rfl rfl rfl rfl Try.isAgg76 Tk (by first | rfl | exact (Nat.add_zero _).symm) (by rfl) ?_
 refine q_eq_nil rfl rfl rfl rfl Try.underlying76 ?_
 refine s_eq 10 rfl (v' := .bool false) rfl ?_
 refine q_pick_f rfl rfl rfl rfl rfl ?_
 refine q_assign rfl rfl rfl rfl ?_
 refine r_done ?_
 refine s_keep [2] (e' := [(2, _)]) rfl ?_
 refine k_then_n ?_
 refine c_ret ?_
 refine ret1 rfl rfl (()) (by first | rfl | (first | rfl | (congr 1; done) | (congr 1 <;> first | rfl | omega | (simp; done) | (simp; omega)))) (by trivial) ?_
 exact Tf
theorem event_no (pa : Option Addr) (pc : Nat) (po : Option Addr) (poc b : Nat) (x : FS) (hx : FInv x) (hn : x.v.ck.n ≤ 100000000000000) (pl : List Int) (hpl : x.v.ck.pa = pl) (k t o : Int) (hc : ¬ canF x.v.ck k t o) : Spec Try.prog 14 [.pointer (some ⟨b, 0, none⟩), .agg #[.int .i64 k, .int .i64 t, .int .i64 o]] [dfR pa pc po poc b x, own 1 encZ pa pc pl, own 1 encZ po poc pl] (fun (_ : Unit) => .int .i64 6) (fun _ => True) (fun _ => [dfR pa pc po poc b x, own 1 encZ pa pc pl, own 1 encZ po poc pl]) := by
 refine spec_mk (n := 141) Try.func14 rfl rfl rfl ?_
 intro Γ w0
 simp only [argE, List.cons_append, List.nil_append, Nat.zero_add, Nat.reduceAdd]
 refine c_seq ?_
 refine c_plain ((.l 0 [] (.q 1 (.done)))) (by kernel_rfl) ?_
 refine l_box rfl rfl rfl rfl (us := [_, _, _]) rfl ?_
 intro b3
 refine ag_nil ?_
 refine q_assign rfl rfl rfl rfl ?_
 refine r_done ?_
 refine k_then_n ?_
 refine c_seq ?_
 refine c_seq ?_
 have hcc := hx.c0
 have hlen := hx.len
 have hn0 := hx.v.ck.n0
 refine s_take (A := dfR pa pc po poc b x) Tk ?_
 refine df_open fun cb m1 m2 m3 m4 va vc F1 F2 F3 F4 V hV => ?_
 refine c_plain (.q 0 ((.l 1 [] (.done)))) (by kernel_rfl) ?_
 refine q_move rfl rfl rfl rfl ?_
 have sp_1 := Fa.none_spec b cb (.slice po x.v.ck.pa.length poc) (.map (some m1)) (.map (some m2)) (.map (some m3)) (.map (some m4)) (.slice va x.vs.length vc) (.int .i64 x.cost)
 refine l_call rfl rfl rfl rfl rfl rfl Try.call32 (sp_1) Ts ?_
 rintro ⟨⟩ -
 try simp only [List.cons_append, List.nil_append]
 refine ag_nil ?_
 refine r_done ?_
 refine k_then_n ?_
 refine c_cond_f rfl ?_
 refine c_skip ?_
 refine k_then_n ?_
 refine c_seq ?_
 refine c_draw rfl (.q 0 (.q 1 (.q 2 (.q 3 (.q 4 (.q 5 ((.alt (.l 6 [] (.q 7 (.q 8 (.q 9 ((.l 10 [] ((.l 11 [] (.q 12 (.done)))))))))) (.l 10 [3, 5] ((.l 6 [] (.q 7 (.q 8 (.q 9 ((.l 11 [] (.q 12 (.done)))))))))))))))))) (by kernel_rfl) ?_
 refine q_move rfl rfl rfl rfl ?_
 refine q_nil_p rfl rfl rfl rfl ?_
 refine q_field (k := 0) rfl rfl rfl rfl Try.underlying81 rfl Try.sizeOf76 rfl ?_
 refine q_load_c (j := 0) rfl rfl rfl rfl Try.isAgg76 Tk (by first | rfl | exact (Nat.add_zero _).symm) (by rfl) ?_
 refine q_field (k := 1) rfl rfl rfl rfl Try.underlying36 rfl Try.sizeOf3 rfl ?_
 refine q_load_c (j := 1) rfl rfl rfl rfl Try.isAgg3 Tk (by first | rfl | exact (Nat.add_zero _).symm) (by rfl) ?_
 refine r_alt ?_ ?_
 ·
  have sp_2 := Fe.stand_spec pa pc cb x.v.ck t
  refine l_call rfl rfl rfl rfl rfl rfl Try.call45 (sp_2) Ts ?_
  rintro ⟨⟩ -
  try simp only [List.cons_append, List.nil_append]
  refine ag_nil ?_
  refine q_move rfl rfl rfl rfl ?_
  refine q_extract rfl rfl rfl rfl rfl ?_
  refine q_extract rfl rfl rfl rfl rfl ?_
  refine l_alloc rfl rfl rfl Try.zeroValue107 (zs := [.int .i64 0, .int .i64 0, .int .i64 0]) rfl ?_
  intro b5
  refine ag_nil ?_
  refine l_store (j := 0) rfl rfl rfl rfl Try.sizeOf107 (us := [_, _, _]) rfl rfl rfl Tk (by first | rfl | exact (Nat.add_zero _).symm) (by first | decide | (simp; done) | omega) ?_
  simp only [setL, List.set]
  refine ag_nil ?_
  refine q_assign rfl rfl rfl rfl ?_
  refine r_done ?_
  refine s_keep [0, 3, 5] (e' := [(0, _), (3, _), (5, _)]) rfl ?_
  refine k_then_n ?_
  refine c_seq ?_
  refine c_plain (.q 0 (.q 1 (.q 2 (.q 3 ((.l 4 [] (.q 5 (.done)))))))) (by kernel_rfl) ?_
  refine q_move rfl rfl rfl rfl ?_
  refine q_nil_p rfl rfl rfl rfl ?_
  refine q_field (k := 0) rfl rfl rfl rfl Try.underlying81 rfl Try.sizeOf76 rfl ?_
  refine q_load_c (j := 0) rfl rfl rfl rfl Try.isAgg76 Tk (by first | rfl | exact (Nat.add_zero _).symm) (by rfl) ?_
  have sp_3 := Fe.len_spec pa pc cb x.v.ck
  refine l_call rfl rfl rfl rfl rfl rfl Try.call46 (sp_3) Ts ?_
  rintro ⟨⟩ -
  try simp only [List.cons_append, List.nil_append]
  refine ag_nil ?_
  refine q_assign rfl rfl rfl rfl ?_
  refine r_done ?_
  refine s_keep [0, 3, 5, 7] (e' := [(0, _), (3, _), (5, _), (7, _)]) rfl ?_
  refine k_then_n ?_
  refine c_seq ?_
  refine c_seq ?_
  refine c_draw rfl (.q 0 (.q 1 (.q 2 (.q 3 (.q 4 ((.l 5 [] (.q 6 (.q 7 (.q 8 (.q 9 (.q 10 (.q 11 (.q 12 (.q 13 (.q 14 (.q 15 (.q 16 ((.l 17 [] (.q 18 (.q 19 (.q 20 (.q 21 ((.l 22 [] (.q 23 (.q 24 (.done))))))))))))))))))))))))))))) (by kernel_rfl) ?_
  refine q_move rfl rfl rfl rfl ?_
  refine q_nil_p rfl rfl rfl rfl ?_
  refine q_field (k := 0) rfl rfl rfl rfl Try.underlying81 rfl Try.sizeOf76 rfl ?_
  refine q_load_c (j := 0) rfl rfl rfl rfl Try.isAgg76 Tk (by first | rfl | exact (Nat.add_zero _).symm) (by rfl) ?_
  refine q_loadN_c rfl rfl rfl rfl Try.isAgg36 Try.sizeOf36 Tk 0 (us := [_, _, _]) (by first | rfl | exact (Nat.add_zero _).symm) rfl rfl ?_
  have sp_4 := Fe.can_spec pa pc cb x.v.ck hx.v.ck k t o
  refine l_call rfl rfl rfl rfl rfl rfl Try.call47 (sp_4) Ts ?_
  rintro ⟨⟩ -
  try simp only [List.cons_append, List.nil_append]
  refine ag_nil ?_
  refine q_not rfl rfl rfl rfl ?_
  refine q_move rfl rfl rfl rfl ?_
  refine s_bool_np 33 rfl (fun hg => ?_) (fun hg => by exfalso; exact hc hg)
  refine q_skip rfl rfl rfl rfl ?_
  refine q_skip rfl rfl rfl rfl ?_
  refine q_skip rfl rfl rfl rfl ?_
  refine q_skip rfl rfl rfl rfl ?_
  refine q_skip rfl rfl rfl rfl ?_
  refine q_skip rfl rfl rfl rfl ?_
  refine q_skip rfl rfl rfl rfl ?_
  refine q_skip rfl rfl rfl rfl ?_
  refine q_skip rfl rfl rfl rfl ?_
  refine l_skip rfl rfl rfl rfl ?_
  refine q_skip rfl rfl rfl rfl ?_
  refine q_skip rfl rfl rfl rfl ?_
  refine q_skip rfl rfl rfl rfl ?_
  refine q_skip rfl rfl rfl rfl ?_
  refine l_skip rfl rfl rfl rfl ?_
  refine q_skip rfl rfl rfl rfl ?_
  refine q_pick_t rfl rfl rfl rfl rfl ?_
  refine r_done ?_
  refine s_keep [0, 3, 5, 7, 50] (e' := [(0, _), (3, _), (5, _), (7, _), (50, _)]) rfl ?_
  refine k_then_n ?_
  refine c_cond_t rfl ?_
  refine c_seq ?_
  refine c_plain (.q 0 (.done)) (by kernel_rfl) ?_
  refine q_assign rfl rfl rfl rfl ?_
  refine r_done ?_
  refine s_keep [4] (e' := [(4, _)]) rfl ?_
  refine k_then_n ?_
  refine c_ret ?_
  refine k_then_ret ?_
  refine df_fold (b := b) x (pa := pa) (pc := pc) (po := po) (poc := poc) (cb := cb) (m1 := m1) (m2 := m2) (m3 := m3) (m4 := m4) (va := va) (vc := vc) (F1 := F1) (F2 := F2) (F3 := F3) (F4 := F4) (V := V) Ts (by rfl) (by rfl) (by rfl) (by first | exact hV | simp) ?_
  refine ret1 rfl rfl (()) (by first | rfl | (first | rfl | (congr 1; done) | (congr 1 <;> first | rfl | omega | (simp; done) | (simp; omega)))) (by trivial) ?_
  exact Tf
 refine l_alloc rfl rfl rfl Try.zeroValue107 (zs := [.int .i64 0, .int .i64 0, .int .i64 0]) rfl ?_
 intro b5
 refine ag_load_c (q := 0) rfl rfl rfl Try.isAgg76 Tk (by first | rfl | exact (Nat.add_zero _).symm) (by rfl) ?_
 refine ag_load_c (q := 1) rfl rfl rfl Try.isAgg3 Tk (by first | rfl | exact (Nat.add_zero _).symm) (by rfl) ?_
 refine ag_nil ?_
 have sp_5 := Fe.stand_spec pa pc cb x.v.ck t
 refine l_call rfl rfl rfl rfl rfl rfl Try.call45 (sp_5) Ts ?_
 rintro ⟨⟩ -
 try simp only [List.cons_append, List.nil_append]
 refine ag_nil ?_
 refine q_move rfl rfl rfl rfl ?_
 refine q_extract rfl rfl rfl rfl rfl ?_
 refine q_extract rfl rfl rfl rfl rfl ?_
 refine l_store (j := 0) rfl rfl rfl rfl Try.sizeOf107 (us := [_, _, _]) rfl rfl rfl Tk (by first | rfl | exact (Nat.add_zero _).symm) (by first | decide | (simp; done) | omega) ?_
 simp only [setL, List.set]
 refine ag_nil ?_
 refine q_assign rfl rfl rfl rfl ?_
 refine r_done ?_
 refine s_keep [0, 3, 5] (e' := [(0, _), (3, _), (5, _)]) rfl ?_
 refine k_then_n ?_
 refine c_seq ?_
 refine c_plain (.q 0 (.q 1 (.q 2 (.q 3 ((.l 4 [] (.q 5 (.done)))))))) (by kernel_rfl) ?_
 refine q_move rfl rfl rfl rfl ?_
 refine q_nil_p rfl rfl rfl rfl ?_
 refine q_field (k := 0) rfl rfl rfl rfl Try.underlying81 rfl Try.sizeOf76 rfl ?_
 refine q_load_c (j := 0) rfl rfl rfl rfl Try.isAgg76 Tk (by first | rfl | exact (Nat.add_zero _).symm) (by rfl) ?_
 have sp_6 := Fe.len_spec pa pc cb x.v.ck
 refine l_call rfl rfl rfl rfl rfl rfl Try.call46 (sp_6) Ts ?_
 rintro ⟨⟩ -
 try simp only [List.cons_append, List.nil_append]
 refine ag_nil ?_
 refine q_assign rfl rfl rfl rfl ?_
 refine r_done ?_
 refine s_keep [0, 3, 5, 7] (e' := [(0, _), (3, _), (5, _), (7, _)]) rfl ?_
 refine k_then_n ?_
 refine c_seq ?_
 refine c_seq ?_
 refine c_draw rfl (.q 0 (.q 1 (.q 2 (.q 3 (.q 4 ((.l 5 [] (.q 6 (.q 7 (.q 8 (.q 9 (.q 10 (.q 11 (.q 12 (.q 13 (.q 14 (.q 15 (.q 16 ((.l 17 [] (.q 18 (.q 19 (.q 20 (.q 21 ((.l 22 [] (.q 23 (.q 24 (.done))))))))))))))))))))))))))))) (by kernel_rfl) ?_
 refine q_move rfl rfl rfl rfl ?_
 refine q_nil_p rfl rfl rfl rfl ?_
 refine q_field (k := 0) rfl rfl rfl rfl Try.underlying81 rfl Try.sizeOf76 rfl ?_
 refine q_load_c (j := 0) rfl rfl rfl rfl Try.isAgg76 Tk (by first | rfl | exact (Nat.add_zero _).symm) (by rfl) ?_
 refine q_loadN_c rfl rfl rfl rfl Try.isAgg36 Try.sizeOf36 Tk 0 (us := [_, _, _]) (by first | rfl | exact (Nat.add_zero _).symm) rfl rfl ?_
 have sp_7 := Fe.can_spec pa pc cb x.v.ck hx.v.ck k t o
 refine l_call rfl rfl rfl rfl rfl rfl Try.call47 (sp_7) Ts ?_
 rintro ⟨⟩ -
 try simp only [List.cons_append, List.nil_append]
 refine ag_nil ?_
 refine q_not rfl rfl rfl rfl ?_
 refine q_move rfl rfl rfl rfl ?_
 refine s_bool_np 33 rfl (fun hg => ?_) (fun hg => by exfalso; exact hc hg)
 refine q_skip rfl rfl rfl rfl ?_
 refine q_skip rfl rfl rfl rfl ?_
 refine q_skip rfl rfl rfl rfl ?_
 refine q_skip rfl rfl rfl rfl ?_
 refine q_skip rfl rfl rfl rfl ?_
 refine q_skip rfl rfl rfl rfl ?_
 refine q_skip rfl rfl rfl rfl ?_
 refine q_skip rfl rfl rfl rfl ?_
 refine q_skip rfl rfl rfl rfl ?_
 refine l_skip rfl rfl rfl rfl ?_
 refine q_skip rfl rfl rfl rfl ?_
 refine q_skip rfl rfl rfl rfl ?_
 refine q_skip rfl rfl rfl rfl ?_
 refine q_skip rfl rfl rfl rfl ?_
 refine l_skip rfl rfl rfl rfl ?_
 refine q_skip rfl rfl rfl rfl ?_
 refine q_pick_t rfl rfl rfl rfl rfl ?_
 refine r_done ?_
 refine s_keep [0, 3, 5, 7, 50] (e' := [(0, _), (3, _), (5, _), (7, _), (50, _)]) rfl ?_
 refine k_then_n ?_
 refine c_cond_t rfl ?_
 refine c_seq ?_
 refine c_plain (.q 0 (.done)) (by kernel_rfl) ?_
 refine q_assign rfl rfl rfl rfl ?_
 refine r_done ?_
 refine s_keep [4] (e' := [(4, _)]) rfl ?_
 refine k_then_n ?_
 refine c_ret ?_
 refine k_then_ret ?_
 refine df_fold (b := b) x (pa := pa) (pc := pc) (po := po) (poc := poc) (cb := cb) (m1 := m1) (m2 := m2) (m3 := m3) (m4 := m4) (va := va) (vc := vc) (F1 := F1) (F2 := F2) (F3 := F3) (F4 := F4) (V := V) Ts (by rfl) (by rfl) (by rfl) (by first | exact hV | simp) ?_
 refine ret1 rfl rfl (()) (by first | rfl | (first | rfl | (congr 1; done) | (congr 1 <;> first | rfl | omega | (simp; done) | (simp; omega)))) (by trivial) ?_
 exact Tf
theorem event_max (pa : Option Addr) (pc : Nat) (po : Option Addr) (poc b : Nat) (x : FS) (hx : FInv x) (hn : x.v.ck.n ≤ 100000000000000) (pl : List Int) (hpl : x.v.ck.pa = pl) (k : Int) (t : Nat) (o : Int) (hc : canF x.v.ck k ((t : Nat) : Int) o) (hv : ¬ vcanF x.v k ((t : Nat) : Int) o) : Spec Try.prog 14 [.pointer (some ⟨b, 0, none⟩), .agg #[.int .i64 k, .int .i64 ((t : Nat) : Int), .int .i64 o]] [dfR pa pc po poc b x, own 1 encZ pa pc pl, own 1 encZ po poc pl] (fun (_ : Unit) => .int .i64 6) (fun _ => True) (fun _ => [dfR pa pc po poc b x, own 1 encZ pa pc pl, own 1 encZ po poc pl]) := by
 refine spec_mk (n := 141) Try.func14 rfl rfl rfl ?_
 intro Γ w0
 simp only [argE, List.cons_append, List.nil_append, Nat.zero_add, Nat.reduceAdd]
 refine c_seq ?_
 refine c_plain ((.l 0 [] (.q 1 (.done)))) (by kernel_rfl) ?_
 refine l_box rfl rfl rfl rfl (us := [_, _, _]) rfl ?_
 intro b3
 refine ag_nil ?_
 refine q_assign rfl rfl rfl rfl ?_
 refine r_done ?_
 refine k_then_n ?_
 refine c_seq ?_
 refine c_seq ?_
 have hcc := hx.c0
 have hlen := hx.len
 have hn0 := hx.v.ck.n0
 obtain ⟨l, hth⟩ := th_some hx.v (can_th hc)
 obtain ⟨h0, h1⟩ := th_rng hx.v (can_th hc)
 have hlc := hx.v.thc _ _ hth
 have hll := hlc.len
 have hvm := vmax hc hth hlc
 rw [Int.toNat_natCast] at hvm
 have hl1 := hx.own _ _ hth
 rw [Int.toNat_natCast] at hl1
 have hlg := g_rng hlc.rng (by decide) t
 have htn : t < 65535 := by omega
 refine s_take (A := dfR pa pc po poc b x) Tk ?_
 refine df_open fun cb m1 m2 m3 m4 va vc F1 F2 F3 F4 V hV => ?_
 refine c_plain (.q 0 ((.l 1 [] (.done)))) (by kernel_rfl) ?_
 refine q_move rfl rfl rfl rfl ?_
 have sp_1 := Fa.none_spec b cb (.slice po x.v.ck.pa.length poc) (.map (some m1)) (.map (some m2)) (.map (some m3)) (.map (some m4)) (.slice va x.vs.length vc) (.int .i64 x.cost)
 refine l_call rfl rfl rfl rfl rfl rfl Try.call32 (sp_1) Ts ?_
 rintro ⟨⟩ -
 try simp only [List.cons_append, List.nil_append]
 refine ag_nil ?_
 refine r_done ?_
 refine k_then_n ?_
 refine c_cond_f rfl ?_
 refine c_skip ?_
 refine k_then_n ?_
 refine c_seq ?_
 refine c_draw rfl (.q 0 (.q 1 (.q 2 (.q 3 (.q 4 (.q 5 ((.alt (.l 6 [] (.q 7 (.q 8 (.q 9 ((.l 10 [] ((.l 11 [] (.q 12 (.done)))))))))) (.l 10 [3, 5] ((.l 6 [] (.q 7 (.q 8 (.q 9 ((.l 11 [] (.q 12 (.done)))))))))))))))))) (by kernel_rfl) ?_
 refine q_move rfl rfl rfl rfl ?_
 refine q_nil_p rfl rfl rfl rfl ?_
 refine q_field (k := 0) rfl rfl rfl rfl Try.underlying81 rfl Try.sizeOf76 rfl ?_
 refine q_load_c (j := 0) rfl rfl rfl rfl Try.isAgg76 Tk (by first | rfl | exact (Nat.add_zero _).symm) (by rfl) ?_
 refine q_field (k := 1) rfl rfl rfl rfl Try.underlying36 rfl Try.sizeOf3 rfl ?_
 refine q_load_c (j := 1) rfl rfl rfl rfl Try.isAgg3 Tk (by first | rfl | exact (Nat.add_zero _).symm) (by rfl) ?_
 refine r_alt ?_ ?_
 ·
  have sp_2 := Fe.stand_spec pa pc cb x.v.ck ((t : Nat) : Int)
  refine l_call rfl rfl rfl rfl rfl rfl Try.call45 (sp_2) Ts ?_
  rintro ⟨⟩ -
  try simp only [List.cons_append, List.nil_append]
  refine ag_nil ?_
  refine q_move rfl rfl rfl rfl ?_
  refine q_extract rfl rfl rfl rfl rfl ?_
  refine q_extract rfl rfl rfl rfl rfl ?_
  refine l_alloc rfl rfl rfl Try.zeroValue107 (zs := [.int .i64 0, .int .i64 0, .int .i64 0]) rfl ?_
  intro b5
  refine ag_nil ?_
  refine l_store (j := 0) rfl rfl rfl rfl Try.sizeOf107 (us := [_, _, _]) rfl rfl rfl Tk (by first | rfl | exact (Nat.add_zero _).symm) (by first | decide | (simp; done) | omega) ?_
  simp only [setL, List.set]
  refine ag_nil ?_
  refine q_assign rfl rfl rfl rfl ?_
  refine r_done ?_
  refine s_keep [0, 3, 5] (e' := [(0, _), (3, _), (5, _)]) rfl ?_
  refine k_then_n ?_
  refine c_seq ?_
  refine c_plain (.q 0 (.q 1 (.q 2 (.q 3 ((.l 4 [] (.q 5 (.done)))))))) (by kernel_rfl) ?_
  refine q_move rfl rfl rfl rfl ?_
  refine q_nil_p rfl rfl rfl rfl ?_
  refine q_field (k := 0) rfl rfl rfl rfl Try.underlying81 rfl Try.sizeOf76 rfl ?_
  refine q_load_c (j := 0) rfl rfl rfl rfl Try.isAgg76 Tk (by first | rfl | exact (Nat.add_zero _).symm) (by rfl) ?_
  have sp_3 := Fe.len_spec pa pc cb x.v.ck
  refine l_call rfl rfl rfl rfl rfl rfl Try.call46 (sp_3) Ts ?_
  rintro ⟨⟩ -
  try simp only [List.cons_append, List.nil_append]
  refine ag_nil ?_
  refine q_assign rfl rfl rfl rfl ?_
  refine r_done ?_
  refine s_keep [0, 3, 5, 7] (e' := [(0, _), (3, _), (5, _), (7, _)]) rfl ?_
  refine k_then_n ?_
  refine c_seq ?_
  refine c_seq ?_
  refine s_rest_take (F := F1) (T := x.v.th) (S := []) ((t : Nat) : Int) Tk (by simp) hth fun tv htF => ?_
  refine s_vec Tk fun tb ta tc hta => ?_
  subst hta
  refine c_draw rfl (.q 0 (.q 1 (.q 2 (.q 3 (.q 4 ((.l 5 [] (.q 6 (.q 7 (.q 8 (.q 9 (.q 10 (.q 11 (.q 12 (.q 13 (.q 14 (.q 15 (.q 16 ((.l 17 [] (.q 18 (.q 19 (.q 20 (.q 21 ((.l 22 [] (.q 23 (.q 24 (.done))))))))))))))))))))))))))))) (by kernel_rfl) ?_
  refine q_move rfl rfl rfl rfl ?_
  refine q_nil_p rfl rfl rfl rfl ?_
  refine q_field (k := 0) rfl rfl rfl rfl Try.underlying81 rfl Try.sizeOf76 rfl ?_
  refine q_load_c (j := 0) rfl rfl rfl rfl Try.isAgg76 Tk (by first | rfl | exact (Nat.add_zero _).symm) (by rfl) ?_
  refine q_loadN_c rfl rfl rfl rfl Try.isAgg36 Try.sizeOf36 Tk 0 (us := [_, _, _]) (by first | rfl | exact (Nat.add_zero _).symm) rfl rfl ?_
  have sp_4 := Fe.can_spec pa pc cb x.v.ck hx.v.ck k ((t : Nat) : Int) o
  refine l_call rfl rfl rfl rfl rfl rfl Try.call47 (sp_4) Ts ?_
  rintro ⟨⟩ -
  try simp only [List.cons_append, List.nil_append]
  refine ag_nil ?_
  refine q_not rfl rfl rfl rfl ?_
  refine q_move rfl rfl rfl rfl ?_
  refine s_bool_np 33 rfl (fun hg => by exfalso; exact hg hc) (fun hg => ?_)
  refine q_move rfl rfl rfl rfl ?_
  refine q_nil_p rfl rfl rfl rfl ?_
  refine q_field (k := 2) rfl rfl rfl rfl Try.underlying81 rfl Try.sizeOf77 rfl ?_
  refine q_load_c (j := 2) rfl rfl rfl rfl Try.isAgg77 Tk (by first | rfl | exact (Nat.add_zero _).symm) (by rfl) ?_
  refine q_field (k := 1) rfl rfl rfl rfl Try.underlying36 rfl Try.sizeOf3 rfl ?_
  refine q_load_c (j := 1) rfl rfl rfl rfl Try.isAgg3 Tk (by first | rfl | exact (Nat.add_zero _).symm) (by rfl) ?_
  refine q_lookup1 (ek := ekZ) (ev1 := evA) (F := F1) (m := m1) (k := ((t : Nat) : Int)) none rfl rfl rfl rfl rfl Try.underlying77 (keyOK_int Try.underlying3) Try.zeroValue86 Tk ?_
  refine s_eq 40 rfl (v' := .pointer (some ⟨tb, 0, none⟩)) (by rw [htF]; rfl) ?_
  refine q_field (k := 1) rfl rfl rfl rfl Try.underlying36 rfl Try.sizeOf3 rfl ?_
  refine q_load_c (j := 1) rfl rfl rfl rfl Try.isAgg3 Tk (by first | rfl | exact (Nat.add_zero _).symm) (by rfl) ?_
  have sp_5 := Vc.get_spec tb l ta l.length tc (by first | rfl | assumption | omega | (simp; done) | (simp; omega)) t
  refine l_call rfl rfl rfl rfl rfl rfl Try.call48 (sp_5) Ts ?_
  rintro ⟨⟩ -
  try simp only [List.cons_append, List.nil_append]
  refine ag_nil ?_
  refine q_int rfl rfl rfl rfl rfl (b_eql _ _ _ _) ?_
  refine q_move rfl rfl rfl rfl ?_
  refine s_bool_p 45 rfl (fun hg => ?_) (fun hg => by exfalso; exact hg (Classical.byContradiction fun h9 => hv (hvm.2 fun h8 => absurd h8 h9)))
  refine q_field (k := 0) rfl rfl rfl rfl Try.underlying36 rfl Try.sizeOf34 rfl ?_
  refine q_load_c (j := 0) rfl rfl rfl rfl Try.isAgg34 Tk (by first | rfl | exact (Nat.add_zero _).symm) (by rfl) ?_
  have sp_6 := releases_spec k
  refine l_call rfl rfl rfl rfl rfl rfl Try.call49 (sp_6) Ts ?_
  rintro ⟨⟩ -
  try simp only [List.cons_append, List.nil_append]
  refine ag_nil ?_
  refine q_pick_t rfl rfl rfl rfl rfl ?_
  refine q_pick_f rfl rfl rfl rfl rfl ?_
  refine r_done ?_
  refine s_keep [0, 3, 5, 7, 50] (e' := [(0, _), (3, _), (5, _), (7, _), (50, _)]) rfl ?_
  refine k_then_n ?_
  refine c_cond_p rfl (fun hg => ?_) (fun hg => by exfalso; exact hv (hvm.2 fun _ => hg))
  refine c_seq ?_
  refine c_plain (.q 0 (.done)) (by kernel_rfl) ?_
  refine q_assign rfl rfl rfl rfl ?_
  refine r_done ?_
  refine s_keep [4] (e' := [(4, _)]) rfl ?_
  refine k_then_n ?_
  refine c_ret ?_
  refine k_then_ret ?_
  refine s_vecF tb ta tc l Ts ?_
  refine s_rest_put (F := F1) (T := x.v.th) (S := []) ((t : Nat) : Int) F1 x.v.th Ts (by simp) htF (fun _ _ _ => rfl) hth (fun _ _ _ => rfl) ?_
  refine df_fold (b := b) x (pa := pa) (pc := pc) (po := po) (poc := poc) (cb := cb) (m1 := m1) (m2 := m2) (m3 := m3) (m4 := m4) (va := va) (vc := vc) (F1 := F1) (F2 := F2) (F3 := F3) (F4 := F4) (V := V) Ts (by rfl) (by rfl) (by rfl) (by first | exact hV | simp) ?_
  refine ret1 rfl rfl (()) (by first | rfl | (first | rfl | (congr 1; done) | (congr 1 <;> first | rfl | omega | (simp; done) | (simp; omega)))) (by trivial) ?_
  exact Tf
 refine l_alloc rfl rfl rfl Try.zeroValue107 (zs := [.int .i64 0, .int .i64 0, .int .i64 0]) rfl ?_
 intro b5
 refine ag_load_c (q := 0) rfl rfl rfl Try.isAgg76 Tk (by first | rfl | exact (Nat.add_zero _).symm) (by rfl) ?_
 refine ag_load_c (q := 1) rfl rfl rfl Try.isAgg3 Tk (by first | rfl | exact (Nat.add_zero _).symm) (by rfl) ?_
 refine ag_nil ?_
 have sp_7 := Fe.stand_spec pa pc cb x.v.ck ((t : Nat) : Int)
 refine l_call rfl rfl rfl rfl rfl rfl Try.call45 (sp_7) Ts ?_
 rintro ⟨⟩ -
 try simp only [List.cons_append, List.nil_append]
 refine ag_nil ?_
 refine q_move rfl rfl rfl rfl ?_
 refine q_extract rfl rfl rfl rfl rfl ?_
 refine q_extract rfl rfl rfl rfl rfl ?_
 refine l_store (j := 0) rfl rfl rfl rfl Try.sizeOf107 (us := [_, _, _]) rfl rfl rfl Tk (by first | rfl | exact (Nat.add_zero _).symm) (by first | decide | (simp; done) | omega) ?_
 simp only [setL, List.set]
 refine ag_nil ?_
 refine q_assign rfl rfl rfl rfl ?_
 refine r_done ?_
 refine s_keep [0, 3, 5] (e' := [(0, _), (3, _), (5, _)]) rfl ?_
 refine k_then_n ?_
 refine c_seq ?_
 refine c_plain (.q 0 (.q 1 (.q 2 (.q 3 ((.l 4 [] (.q 5 (.done)))))))) (by kernel_rfl) ?_
 refine q_move rfl rfl rfl rfl ?_
 refine q_nil_p rfl rfl rfl rfl ?_
 refine q_field (k := 0) rfl rfl rfl rfl Try.underlying81 rfl Try.sizeOf76 rfl ?_
 refine q_load_c (j := 0) rfl rfl rfl rfl Try.isAgg76 Tk (by first | rfl | exact (Nat.add_zero _).symm) (by rfl) ?_
 have sp_8 := Fe.len_spec pa pc cb x.v.ck
 refine l_call rfl rfl rfl rfl rfl rfl Try.call46 (sp_8) Ts ?_
 rintro ⟨⟩ -
 try simp only [List.cons_append, List.nil_append]
 refine ag_nil ?_
 refine q_assign rfl rfl rfl rfl ?_
 refine r_done ?_
 refine s_keep [0, 3, 5, 7] (e' := [(0, _), (3, _), (5, _), (7, _)]) rfl ?_
 refine k_then_n ?_
 refine c_seq ?_
 refine c_seq ?_
 refine s_rest_take (F := F1) (T := x.v.th) (S := []) ((t : Nat) : Int) Tk (by simp) hth fun tv htF => ?_
 refine s_vec Tk fun tb ta tc hta => ?_
 subst hta
 refine c_draw rfl (.q 0 (.q 1 (.q 2 (.q 3 (.q 4 ((.l 5 [] (.q 6 (.q 7 (.q 8 (.q 9 (.q 10 (.q 11 (.q 12 (.q 13 (.q 14 (.q 15 (.q 16 ((.l 17 [] (.q 18 (.q 19 (.q 20 (.q 21 ((.l 22 [] (.q 23 (.q 24 (.done))))))))))))))))))))))))))))) (by kernel_rfl) ?_
 refine q_move rfl rfl rfl rfl ?_
 refine q_nil_p rfl rfl rfl rfl ?_
 refine q_field (k := 0) rfl rfl rfl rfl Try.underlying81 rfl Try.sizeOf76 rfl ?_
 refine q_load_c (j := 0) rfl rfl rfl rfl Try.isAgg76 Tk (by first | rfl | exact (Nat.add_zero _).symm) (by rfl) ?_
 refine q_loadN_c rfl rfl rfl rfl Try.isAgg36 Try.sizeOf36 Tk 0 (us := [_, _, _]) (by first | rfl | exact (Nat.add_zero _).symm) rfl rfl ?_
 have sp_9 := Fe.can_spec pa pc cb x.v.ck hx.v.ck k ((t : Nat) : Int) o
 refine l_call rfl rfl rfl rfl rfl rfl Try.call47 (sp_9) Ts ?_
 rintro ⟨⟩ -
 try simp only [List.cons_append, List.nil_append]
 refine ag_nil ?_
 refine q_not rfl rfl rfl rfl ?_
 refine q_move rfl rfl rfl rfl ?_
 refine s_bool_np 33 rfl (fun hg => by exfalso; exact hg hc) (fun hg => ?_)
 refine q_move rfl rfl rfl rfl ?_
 refine q_nil_p rfl rfl rfl rfl ?_
 refine q_field (k := 2) rfl rfl rfl rfl Try.underlying81 rfl Try.sizeOf77 rfl ?_
 refine q_load_c (j := 2) rfl rfl rfl rfl Try.isAgg77 Tk (by first | rfl | exact (Nat.add_zero _).symm) (by rfl) ?_
 refine q_field (k := 1) rfl rfl rfl rfl Try.underlying36 rfl Try.sizeOf3 rfl ?_
 refine q_load_c (j := 1) rfl rfl rfl rfl Try.isAgg3 Tk (by first | rfl | exact (Nat.add_zero _).symm) (by rfl) ?_
 refine q_lookup1 (ek := ekZ) (ev1 := evA) (F := F1) (m := m1) (k := ((t : Nat) : Int)) none rfl rfl rfl rfl rfl Try.underlying77 (keyOK_int Try.underlying3) Try.zeroValue86 Tk ?_
 refine s_eq 40 rfl (v' := .pointer (some ⟨tb, 0, none⟩)) (by rw [htF]; rfl) ?_
 refine q_field (k := 1) rfl rfl rfl rfl Try.underlying36 rfl Try.sizeOf3 rfl ?_
 refine q_load_c (j := 1) rfl rfl rfl rfl Try.isAgg3 Tk (by first | rfl | exact (Nat.add_zero _).symm) (by rfl) ?_
 have sp_10 := Vc.get_spec tb l ta l.length tc (by first | rfl | assumption | omega | (simp; done) | (simp; omega)) t
 refine l_call rfl rfl rfl rfl rfl rfl Try.call48 (sp_10) Ts ?_
 rintro ⟨⟩ -
 try simp only [List.cons_append, List.nil_append]
 refine ag_nil ?_
 refine q_int rfl rfl rfl rfl rfl (b_eql _ _ _ _) ?_
 refine q_move rfl rfl rfl rfl ?_
 refine s_bool_p 45 rfl (fun hg => ?_) (fun hg => by exfalso; exact hg (Classical.byContradiction fun h9 => hv (hvm.2 fun h8 => absurd h8 h9)))
 refine q_field (k := 0) rfl rfl rfl rfl Try.underlying36 rfl Try.sizeOf34 rfl ?_
 refine q_load_c (j := 0) rfl rfl rfl rfl Try.isAgg34 Tk (by first | rfl | exact (Nat.add_zero _).symm) (by rfl) ?_
 have sp_11 := releases_spec k
 refine l_call rfl rfl rfl rfl rfl rfl Try.call49 (sp_11) Ts ?_
 rintro ⟨⟩ -
 try simp only [List.cons_append, List.nil_append]
 refine ag_nil ?_
 refine q_pick_t rfl rfl rfl rfl rfl ?_
 refine q_pick_f rfl rfl rfl rfl rfl ?_
 refine r_done ?_
 refine s_keep [0, 3, 5, 7, 50] (e' := [(0, _), (3, _), (5, _), (7, _), (50, _)]) rfl ?_
 refine k_then_n ?_
 refine c_cond_p rfl (fun hg => ?_) (fun hg => by exfalso; exact hv (hvm.2 fun _ => hg))
 refine c_seq ?_
 refine c_plain (.q 0 (.done)) (by kernel_rfl) ?_
 refine q_assign rfl rfl rfl rfl ?_
 refine r_done ?_
 refine s_keep [4] (e' := [(4, _)]) rfl ?_
 refine k_then_n ?_
 refine c_ret ?_
 refine k_then_ret ?_
 refine s_vecF tb ta tc l Ts ?_
 refine s_rest_put (F := F1) (T := x.v.th) (S := []) ((t : Nat) : Int) F1 x.v.th Ts (by simp) htF (fun _ _ _ => rfl) hth (fun _ _ _ => rfl) ?_
 refine df_fold (b := b) x (pa := pa) (pc := pc) (po := po) (poc := poc) (cb := cb) (m1 := m1) (m2 := m2) (m3 := m3) (m4 := m4) (va := va) (vc := vc) (F1 := F1) (F2 := F2) (F3 := F3) (F4 := F4) (V := V) Ts (by rfl) (by rfl) (by rfl) (by first | exact hV | simp) ?_
 refine ret1 rfl rfl (()) (by first | rfl | (first | rfl | (congr 1; done) | (congr 1 <;> first | rfl | omega | (simp; done) | (simp; omega)))) (by trivial) ?_
 exact Tf
theorem read_spec (db m1 tb tc t vb of k vc : Nat) (v0 v1 v3 v4 v5 v6 : Value) (cost n : Int) (F1 : Int → Option (Option Addr)) (ta va : Option Addr) (l : List Int) (V : List P4F) (w0_ r0 : Nat) (so : Option Addr) (f0 : Int) (hF : F1 ((t : Nat) : Int) = some (some ⟨tb, 0, none⟩)) (ht : t < 65535) (hl : CV l) (hl1 : 1 ≤ l.getD t 0) (hc0 : 0 ≤ cost ∧ cost ≤ 1000000000000000) (hw0 : w0_ < 18446744073709551616) (hr0 : r0 < 18446744073709551616) (hv : V[k]? = some (w0_, r0, so, f0)) (ha : va = some ⟨vb, of, none⟩) (sh : Option (List Int)) (hs : ∀ s, sh = some s → CV s) : Spec Try.prog 51 [.pointer (some ⟨db, 0, none⟩), .int .i64 ((t : Nat) : Int), .pointer (some ⟨vb, of + k * (3 + 1), none⟩), .int .i64 n] [cells db 0 [v0, v1, .map (some m1), v3, v4, v5, v6, .int .i64 cost], mapO ekZ evA m1 F1, cells tb 0 [.slice ta l.length tc], own 1 encU ta tc l, own 4 encF va vc V, optA so sh] (fun (r : Option Addr) => .tuple #[]) (fun r => True) (fun r => [cells db 0 [v0, v1, .map (some m1), v3, v4, v5, v6, .int .i64 (cost + (rdV t l n (w0_, r0, sh, f0)).2)], mapO ekZ evA m1 F1, cells tb 0 [.slice ta l.length tc], own 1 encU ta tc l, own 4 encF va vc (V.set k ((rdV t l n (w0_, r0, sh, f0)).1.1, (rdV t l n (w0_, r0, sh, f0)).1.2.1, r, (rdV t l n (w0_, r0, sh, f0)).1.2.2.2)), optA r (rdV t l n (w0_, r0, sh, f0)).1.2.2.1]) := by
  cases sh with
  | none => exact read_none db m1 tb tc t vb of k vc v0 v1 v3 v4 v5 v6 cost n F1 ta va l V w0_ r0 so f0 hF ht hl hl1 hc0 hw0 hr0 hv ha
  | some s => exact read_some db m1 tb tc t vb of k vc v0 v1 v3 v4 v5 v6 cost n F1 ta va l V w0_ r0 so f0 hF ht hl hl1 hc0 hw0 hr0 hv ha s (hs s rfl)
theorem write_spec (db m1 tb tc t vb of k vc : Nat) (v0 v1 v3 v4 v5 v6 : Value) (cost n : Int) (F1 : Int → Option (Option Addr)) (ta va : Option Addr) (l : List Int) (V : List P4F) (w0_ r0 : Nat) (so : Option Addr) (f0 : Int) (hF : F1 ((t : Nat) : Int) = some (some ⟨tb, 0, none⟩)) (ht : t < 65535) (hl : CV l) (hl1 : 1 ≤ l.getD t 0) (hc0 : 0 ≤ cost ∧ cost ≤ 1000000000000000) (hw0 : w0_ < 18446744073709551616) (hr0 : r0 < 18446744073709551616) (hv : V[k]? = some (w0_, r0, so, f0)) (ha : va = some ⟨vb, of, none⟩) (sh : Option (List Int)) (hs : ∀ s, sh = some s → CV s) : Spec Try.prog 52 [.pointer (some ⟨db, 0, none⟩), .int .i64 ((t : Nat) : Int), .pointer (some ⟨vb, of + k * (3 + 1), none⟩), .int .i64 n] [cells db 0 [v0, v1, .map (some m1), v3, v4, v5, v6, .int .i64 cost], mapO ekZ evA m1 F1, cells tb 0 [.slice ta l.length tc], own 1 encU ta tc l, own 4 encF va vc V, optA so sh] (fun (r : Option Addr) => .tuple #[]) (fun r => True) (fun r => [cells db 0 [v0, v1, .map (some m1), v3, v4, v5, v6, .int .i64 (cost + (wrV t l n (w0_, r0, sh, f0)).2)], mapO ekZ evA m1 F1, cells tb 0 [.slice ta l.length tc], own 1 encU ta tc l, own 4 encF va vc (V.set k ((wrV t l n (w0_, r0, sh, f0)).1.1, (wrV t l n (w0_, r0, sh, f0)).1.2.1, r, (wrV t l n (w0_, r0, sh, f0)).1.2.2.2)), optA r (wrV t l n (w0_, r0, sh, f0)).1.2.2.1]) := by
  cases sh with
  | none => exact write_none db m1 tb tc t vb of k vc v0 v1 v3 v4 v5 v6 cost n F1 ta va l V w0_ r0 so f0 hF ht hl hl1 hc0 hw0 hr0 hv ha
  | some s => exact write_some db m1 tb tc t vb of k vc v0 v1 v3 v4 v5 v6 cost n F1 ta va l V w0_ r0 so f0 hF ht hl hl1 hc0 hw0 hr0 hv ha s (hs s rfl)
theorem event_can (pa : Option Addr) (pc : Nat) (po : Option Addr) (poc b : Nat) (x : FS) (hx : FInv x) (hn : x.v.ck.n ≤ 100000000000000) (pl : List Int) (hpl : x.v.ck.pa = pl) (k : Int) (t : Nat) (o : Int) (hv : vcanF x.v k ((t : Nat) : Int) o) : Spec Try.prog 14 [.pointer (some ⟨b, 0, none⟩), .agg #[.int .i64 k, .int .i64 ((t : Nat) : Int), .int .i64 o]] [dfR pa pc po poc b x, own 1 encZ pa pc pl, own 1 encZ po poc pl] (fun (_ : Unit) => .int .i64 0) (fun _ => True) (fun _ => [dfR pa pc po poc b (feF x k ((t : Nat) : Int) o), own 1 encZ pa pc pl, own 1 encZ po poc pl]) := by
 refine spec_mk (n := 141) Try.func14 rfl rfl rfl ?_
 intro Γ w0
 simp only [argE, List.cons_append, List.nil_append, Nat.zero_add, Nat.reduceAdd]
 refine c_seq ?_
 refine c_plain ((.l 0 [] (.q 1 (.done)))) (by kernel_rfl) ?_
 refine l_box rfl rfl rfl rfl (us := [_, _, _]) rfl ?_
 intro b3
 refine ag_nil ?_
 refine q_assign rfl rfl rfl rfl ?_
 refine r_done ?_
 refine k_then_n ?_
 refine c_seq ?_
 refine c_seq ?_
 have hcc := hx.c0
 have hlen := hx.len
 have hn0 := hx.v.ck.n0
 have hc := hv.1
 obtain ⟨l, hth⟩ := th_some hx.v (can_th hc)
 obtain ⟨h0, h1⟩ := th_rng hx.v (can_th hc)
 have hlc := hx.v.thc _ _ hth
 have hll := hlc.len
 have hvm := vmax hc hth hlc
 rw [Int.toNat_natCast] at hvm
 have hl1 := hx.own _ _ hth
 rw [Int.toNat_natCast] at hl1
 have hlg := g_rng hlc.rng (by decide) t
 have htn : t < 65535 := by omega
 refine s_take (A := dfR pa pc po poc b x) Tk ?_
 refine df_open fun cb m1 m2 m3 m4 va vc F1 F2 F3 F4 V hV => ?_
 refine c_plain (.q 0 ((.l 1 [] (.done)))) (by kernel_rfl) ?_
 refine q_move rfl rfl rfl rfl ?_
 have sp_1 := Fa.none_spec b cb (.slice po x.v.ck.pa.length poc) (.map (some m1)) (.map (some m2)) (.map (some m3)) (.map (some m4)) (.slice va x.vs.length vc) (.int .i64 x.cost)
 refine l_call rfl rfl rfl rfl rfl rfl Try.call32 (sp_1) Ts ?_
 rintro ⟨⟩ -
 try simp only [List.cons_append, List.nil_append]
 refine ag_nil ?_
 refine r_done ?_
 refine k_then_n ?_
 refine c_cond_f rfl ?_
 refine c_skip ?_
 refine k_then_n ?_
 refine c_seqJ (α := Nat) (fun (sb : Nat) => True) (fun (sb : Nat) => [(5, .pointer (some ⟨sb, 0, none⟩))]) (fun (sb : Nat) => [cells sb 0 [.int .i64 (stF x.v.ck ((t : Nat) : Int)).1, .int .i64 (stF x.v.ck ((t : Nat) : Int)).2.1, .int .i64 (stF x.v.ck ((t : Nat) : Int)).2.2]]) [0, 3] (er := [(0, _), (3, _)]) rfl [] Ts ?_ ?_
 ·
  refine c_draw rfl (.q 0 (.q 1 (.q 2 (.q 3 (.q 4 (.q 5 ((.alt (.l 6 [] (.q 7 (.q 8 (.q 9 ((.l 10 [] ((.l 11 [] (.q 12 (.done)))))))))) (.l 10 [3, 5] ((.l 6 [] (.q 7 (.q 8 (.q 9 ((.l 11 [] (.q 12 (.done)))))))))))))))))) (by kernel_rfl) ?_
  refine q_move rfl rfl rfl rfl ?_
  refine q_nil_p rfl rfl rfl rfl ?_
  refine q_field (k := 0) rfl rfl rfl rfl Try.underlying81 rfl Try.sizeOf76 rfl ?_
  refine q_load_c (j := 0) rfl rfl rfl rfl Try.isAgg76 Tk (by first | rfl | exact (Nat.add_zero _).symm) (by rfl) ?_
  refine q_field (k := 1) rfl rfl rfl rfl Try.underlying36 rfl Try.sizeOf3 rfl ?_
  refine q_load_c (j := 1) rfl rfl rfl rfl Try.isAgg3 Tk (by first | rfl | exact (Nat.add_zero _).symm) (by rfl) ?_
  refine r_alt ?_ ?_
  ·
   have sp_2 := Fe.stand_spec pa pc cb x.v.ck ((t : Nat) : Int)
   refine l_call rfl rfl rfl rfl rfl rfl Try.call45 (sp_2) Ts ?_
   rintro ⟨⟩ -
   try simp only [List.cons_append, List.nil_append]
   refine ag_nil ?_
   refine q_move rfl rfl rfl rfl ?_
   refine q_extract rfl rfl rfl rfl rfl ?_
   refine q_extract rfl rfl rfl rfl rfl ?_
   refine l_alloc rfl rfl rfl Try.zeroValue107 (zs := [.int .i64 0, .int .i64 0, .int .i64 0]) rfl ?_
   intro b5
   refine ag_nil ?_
   refine l_store (j := 0) rfl rfl rfl rfl Try.sizeOf107 (us := [_, _, _]) rfl rfl rfl Tk (by first | rfl | exact (Nat.add_zero _).symm) (by first | decide | (simp; done) | omega) ?_
   simp only [setL, List.set]
   refine ag_nil ?_
   refine q_assign rfl rfl rfl rfl ?_
   refine r_done ?_
   refine s_keep [0, 3, 5] (e' := [(0, _), (3, _), (5, _)]) rfl ?_
   refine k_then_n ?_
   refine join_next (b5) (by trivial) (by exact ⟨rfl, rfl, rfl, trivial⟩) (by (try simp only [List.cons_append, List.nil_append]); (repeat ((with_reducible apply Z2); focus (first | (with_reducible (repeat (first | exact Z0 | apply Z1)); done) | (repeat (first | exact Z0 | apply Z1))))); (repeat (first | exact Z3 | exact Takes.self | refine takes_drop2 ?_)))
  refine l_alloc rfl rfl rfl Try.zeroValue107 (zs := [.int .i64 0, .int .i64 0, .int .i64 0]) rfl ?_
  intro b5
  refine ag_load_c (q := 0) rfl rfl rfl Try.isAgg76 Tk (by first | rfl | exact (Nat.add_zero _).symm) (by rfl) ?_
  refine ag_load_c (q := 1) rfl rfl rfl Try.isAgg3 Tk (by first | rfl | exact (Nat.add_zero _).symm) (by rfl) ?_
  refine ag_nil ?_
  have sp_3 := Fe.stand_spec pa pc cb x.v.ck ((t : Nat) : Int)
  refine l_call rfl rfl rfl rfl rfl rfl Try.call45 (sp_3) Ts ?_
  rintro ⟨⟩ -
  try simp only [List.cons_append, List.nil_append]
  refine ag_nil ?_
  refine q_move rfl rfl rfl rfl ?_
  refine q_extract rfl rfl rfl rfl rfl ?_
  refine q_extract rfl rfl rfl rfl rfl ?_
  refine l_store (j := 0) rfl rfl rfl rfl Try.sizeOf107 (us := [_, _, _]) rfl rfl rfl Tk (by first | rfl | exact (Nat.add_zero _).symm) (by first | decide | (simp; done) | omega) ?_
  simp only [setL, List.set]
  refine ag_nil ?_
  refine q_assign rfl rfl rfl rfl ?_
  refine r_done ?_
  refine s_keep [0, 3, 5] (e' := [(0, _), (3, _), (5, _)]) rfl ?_
  refine k_then_n ?_
  refine join_next (b5) (by trivial) (by exact ⟨rfl, rfl, rfl, trivial⟩) (by (try simp only [List.cons_append, List.nil_append]); (repeat ((with_reducible apply Z2); focus (first | (with_reducible (repeat (first | exact Z0 | apply Z1)); done) | (repeat (first | exact Z0 | apply Z1))))); (repeat (first | exact Z3 | exact Takes.self | refine takes_drop2 ?_)))
 ·
  rintro sb -
  try simp only [List.cons_append, List.nil_append]
  refine c_seq ?_
  refine s_rest_take (F := F1) (T := x.v.th) (S := []) ((t : Nat) : Int) Tk (by simp) hth fun tv htF => ?_
  refine s_vec Tk fun tb ta tc hta => ?_
  subst hta
  refine c_plain (.q 0 (.q 1 (.q 2 (.q 3 ((.l 4 [] (.q 5 (.done)))))))) (by kernel_rfl) ?_
  refine q_move rfl rfl rfl rfl ?_
  refine q_nil_p rfl rfl rfl rfl ?_
  refine q_field (k := 0) rfl rfl rfl rfl Try.underlying81 rfl Try.sizeOf76 rfl ?_
  refine q_load_c (j := 0) rfl rfl rfl rfl Try.isAgg76 Tk (by first | rfl | exact (Nat.add_zero _).symm) (by rfl) ?_
  have sp_4 := Fe.len_spec pa pc cb x.v.ck
  refine l_call rfl rfl rfl rfl rfl rfl Try.call46 (sp_4) Ts ?_
  rintro ⟨⟩ -
  try simp only [List.cons_append, List.nil_append]
  refine ag_nil ?_
  refine q_assign rfl rfl rfl rfl ?_
  refine r_done ?_
  refine s_keep [0, 3, 5, 7] (e' := [(0, _), (3, _), (5, _), (7, _)]) rfl ?_
  refine k_then_n ?_
  refine c_seq ?_
  refine c_seqJ (α := Unit) (fun (z_ : Unit) => True) (fun (z_ : Unit) => [(50, .bool false)]) (fun (z_ : Unit) => []) [0, 3, 5, 7] (er := [(0, _), (3, _), (5, _), (7, _)]) rfl [] Ts ?_ ?_
  ·
   refine c_draw rfl (.q 0 (.q 1 (.q 2 (.q 3 (.q 4 ((.l 5 [] (.q 6 (.q 7 (.q 8 (.q 9 (.q 10 (.q 11 (.q 12 (.q 13 (.q 14 (.q 15 (.q 16 ((.l 17 [] (.q 18 (.q 19 (.q 20 (.q 21 ((.l 22 [] (.q 23 (.q 24 (.done))))))))))))))))))))))))))))) (by kernel_rfl) ?_
   refine q_move rfl rfl rfl rfl ?_
   refine q_nil_p rfl rfl rfl rfl ?_
   refine q_field (k := 0) rfl rfl rfl rfl Try.underlying81 rfl Try.sizeOf76 rfl ?_
   refine q_load_c (j := 0) rfl rfl rfl rfl Try.isAgg76 Tk (by first | rfl | exact (Nat.add_zero _).symm) (by rfl) ?_
   refine q_loadN_c rfl rfl rfl rfl Try.isAgg36 Try.sizeOf36 Tk 0 (us := [_, _, _]) (by first | rfl | exact (Nat.add_zero _).symm) rfl rfl ?_
   have sp_5 := Fe.can_spec pa pc cb x.v.ck hx.v.ck k ((t : Nat) : Int) o
   refine l_call rfl rfl rfl rfl rfl rfl Try.call47 (sp_5) Ts ?_
   rintro ⟨⟩ -
   try simp only [List.cons_append, List.nil_append]
   refine ag_nil ?_
   refine q_not rfl rfl rfl rfl ?_
   refine q_move rfl rfl rfl rfl ?_
   refine s_bool_np 33 rfl (fun hg => by exfalso; exact hg hc) (fun hg => ?_)
   refine q_move rfl rfl rfl rfl ?_
   refine q_nil_p rfl rfl rfl rfl ?_
   refine q_field (k := 2) rfl rfl rfl rfl Try.underlying81 rfl Try.sizeOf77 rfl ?_
   refine q_load_c (j := 2) rfl rfl rfl rfl Try.isAgg77 Tk (by first | rfl | exact (Nat.add_zero _).symm) (by rfl) ?_
   refine q_field (k := 1) rfl rfl rfl rfl Try.underlying36 rfl Try.sizeOf3 rfl ?_
   refine q_load_c (j := 1) rfl rfl rfl rfl Try.isAgg3 Tk (by first | rfl | exact (Nat.add_zero _).symm) (by rfl) ?_
   refine q_lookup1 (ek := ekZ) (ev1 := evA) (F := F1) (m := m1) (k := ((t : Nat) : Int)) none rfl rfl rfl rfl rfl Try.underlying77 (keyOK_int Try.underlying3) Try.zeroValue86 Tk ?_
   refine s_eq 40 rfl (v' := .pointer (some ⟨tb, 0, none⟩)) (by rw [htF]; rfl) ?_
   refine q_field (k := 1) rfl rfl rfl rfl Try.underlying36 rfl Try.sizeOf3 rfl ?_
   refine q_load_c (j := 1) rfl rfl rfl rfl Try.isAgg3 Tk (by first | rfl | exact (Nat.add_zero _).symm) (by rfl) ?_
   have sp_6 := Vc.get_spec tb l ta l.length tc (by first | rfl | assumption | omega | (simp; done) | (simp; omega)) t
   refine l_call rfl rfl rfl rfl rfl rfl Try.call48 (sp_6) Ts ?_
   rintro ⟨⟩ -
   try simp only [List.cons_append, List.nil_append]
   refine ag_nil ?_
   refine q_int rfl rfl rfl rfl rfl (b_eql _ _ _ _) ?_
   refine q_move rfl rfl rfl rfl ?_
   refine s_bool_p 45 rfl (fun hmx => ?_) (fun hmx => ?_)
   ·
    refine q_field (k := 0) rfl rfl rfl rfl Try.underlying36 rfl Try.sizeOf34 rfl ?_
    refine q_load_c (j := 0) rfl rfl rfl rfl Try.isAgg34 Tk (by first | rfl | exact (Nat.add_zero _).symm) (by rfl) ?_
    have sp_7 := releases_spec k
    refine l_call rfl rfl rfl rfl rfl rfl Try.call49 (sp_7) Ts ?_
    rintro ⟨⟩ -
    try simp only [List.cons_append, List.nil_append]
    refine ag_nil ?_
    refine q_pick_t rfl rfl rfl rfl rfl ?_
    refine q_pick_f rfl rfl rfl rfl rfl ?_
    refine r_done ?_
    refine s_keep [0, 3, 5, 7, 50] (e' := [(0, _), (3, _), (5, _), (7, _), (50, _)]) rfl ?_
    refine k_then_n ?_
    refine s_eq 50 rfl (v' := .bool false) (by rw [decide_eq_false (hvm.1 hv hmx)]) ?_
    refine join_next (()) (by trivial) (by exact ⟨rfl, rfl, rfl, rfl, rfl, trivial⟩) (by (try simp only [List.cons_append, List.nil_append]); (repeat ((with_reducible apply Z2); focus (first | (with_reducible (repeat (first | exact Z0 | apply Z1)); done) | (repeat (first | exact Z0 | apply Z1))))); (repeat (first | exact Z3 | exact Takes.self | refine takes_drop2 ?_)))
   ·
    refine q_skip rfl rfl rfl rfl ?_
    refine q_skip rfl rfl rfl rfl ?_
    refine l_skip rfl rfl rfl rfl ?_
    refine q_pick_f rfl rfl rfl rfl rfl ?_
    refine q_pick_f rfl rfl rfl rfl rfl ?_
    refine r_done ?_
    refine s_keep [0, 3, 5, 7, 50] (e' := [(0, _), (3, _), (5, _), (7, _), (50, _)]) rfl ?_
    refine k_then_n ?_
    refine join_next (()) (by trivial) (by exact ⟨rfl, rfl, rfl, rfl, rfl, trivial⟩) (by (try simp only [List.cons_append, List.nil_append]); (repeat ((with_reducible apply Z2); focus (first | (with_reducible (repeat (first | exact Z0 | apply Z1)); done) | (repeat (first | exact Z0 | apply Z1))))); (repeat (first | exact Z3 | exact Takes.self | refine takes_drop2 ?_)))
  ·
   rintro ⟨⟩ -
   try simp only [List.cons_append, List.nil_append]
   refine c_cond_f rfl ?_
   refine c_skip ?_
   refine k_then_n ?_
   refine c_seq ?_
   refine c_draw rfl (.q 0 (.q 1 (.q 2 (.q 3 (.q 4 ((.l 5 [] (.done)))))))) (by kernel_rfl) ?_
   refine q_move rfl rfl rfl rfl ?_
   refine q_nil_p rfl rfl rfl rfl ?_
   refine q_field (k := 0) rfl rfl rfl rfl Try.underlying81 rfl Try.sizeOf76 rfl ?_
   refine q_load_c (j := 0) rfl rfl rfl rfl Try.isAgg76 Tk (by first | rfl | exact (Nat.add_zero _).symm) (by rfl) ?_
   refine q_loadN_c rfl rfl rfl rfl Try.isAgg36 Try.sizeOf36 Tk 0 (us := [_, _, _]) (by first | rfl | exact (Nat.add_zero _).symm) rfl rfl ?_
   have sp_8 := Fe.next_spec pa pc cb x.v.ck hx.v.ck (by omega) pl (hpl) k ((t : Nat) : Int) o
   refine l_call rfl rfl rfl rfl rfl rfl Try.call50 (sp_8) Ts ?_
   rintro ⟨⟩ -
   try simp only [List.cons_append, List.nil_append]
   refine ag_nil ?_
   refine r_done ?_
   refine s_keep [0, 3, 5, 7] (e' := [(0, _), (3, _), (5, _), (7, _)]) rfl ?_
   refine k_then_n ?_
   refine c_seq ?_
   refine c_draw rfl (.q 0 (.q 1 (.q 2 (.q 3 (.q 4 (.q 5 (.q 6 (.q 7 (.done))))))))) (by kernel_rfl) ?_
   refine q_move rfl rfl rfl rfl ?_
   refine q_nil_p rfl rfl rfl rfl ?_
   refine q_field (k := 2) rfl rfl rfl rfl Try.underlying81 rfl Try.sizeOf77 rfl ?_
   refine q_load_c (j := 2) rfl rfl rfl rfl Try.isAgg77 Tk (by first | rfl | exact (Nat.add_zero _).symm) (by rfl) ?_
   refine q_field (k := 1) rfl rfl rfl rfl Try.underlying36 rfl Try.sizeOf3 rfl ?_
   refine q_load_c (j := 1) rfl rfl rfl rfl Try.isAgg3 Tk (by first | rfl | exact (Nat.add_zero _).symm) (by rfl) ?_
   refine q_lookup1 (ek := ekZ) (ev1 := evA) (F := F1) (m := m1) (k := ((t : Nat) : Int)) none rfl rfl rfl rfl rfl Try.underlying77 (keyOK_int Try.underlying3) Try.zeroValue86 Tk ?_
   refine s_eq 63 rfl (v' := .pointer (some ⟨tb, 0, none⟩)) (by rw [htF]; rfl) ?_
   refine q_assign rfl rfl rfl rfl ?_
   refine r_done ?_
   refine s_keep [0, 3, 5, 7, 8] (e' := [(0, _), (3, _), (5, _), (7, _), (8, _)]) rfl ?_
   refine k_then_n ?_
   refine c_seq ?_
   refine c_seq ?_
   refine c_plain (.q 0 (.q 1 (.done))) (by kernel_rfl) ?_
   refine q_field (k := 0) rfl rfl rfl rfl Try.underlying36 rfl Try.sizeOf34 rfl ?_
   refine q_load_c (j := 0) rfl rfl rfl rfl Try.isAgg34 Tk (by first | rfl | exact (Nat.add_zero _).symm) (by rfl) ?_
   refine r_done ?_
   refine k_then_n ?_
   refine c_block ?_
   refine c_seq ?_
   refine c_plain (.q 0 (.q 1 (.done))) (by kernel_rfl) ?_
   refine q_int rfl rfl rfl rfl rfl (b_eql _ _ _ _) ?_
   refine q_assign rfl rfl rfl rfl ?_
   refine r_done ?_
   refine k_then_n ?_
   refine c_cond_p rfl (fun k1 => ?_) (fun k1 => ?_)
   ·
    obtain ⟨p0, p1⟩ := acc_obj hc (by omega)
    obtain ⟨w, hw⟩ := get_lt (l := x.vs) (i := o.toNat) (by omega)
    obtain ⟨hw0, hr0, hws, hf1, hf2⟩ := hx.vs w (List.mem_of_getElem? hw)
    obtain ⟨ww, wr, ws, wf⟩ := w
    refine s_restL_take (res := fvarA) (V := V) (Y := x.vs) (S := []) o.toNat Tk (by simp) hw fun v_ hv_ => ?_
    obtain ⟨w0_, r0, so, f0⟩ := v_
    refine s_fvar Tk fun he1 he2 he3 => ?_
    simp only at he1 he2 he3 hw0 hr0 hws hf1 hf2
    subst he1 he2 he3
    refine c_draw rfl (.q 0 (.q 1 (.q 2 (.q 3 (.q 4 (.q 5 (.q 6 (.q 7 (.q 8 (.q 9 (.q 10 ((.l 11 [] (.done)))))))))))))) (by kernel_rfl) ?_
    refine q_move rfl rfl rfl rfl ?_
    refine q_field (k := 1) rfl rfl rfl rfl Try.underlying36 rfl Try.sizeOf3 rfl ?_
    refine q_load_c (j := 1) rfl rfl rfl rfl Try.isAgg3 Tk (by first | rfl | exact (Nat.add_zero _).symm) (by rfl) ?_
    refine q_move rfl rfl rfl rfl ?_
    refine q_nil_p rfl rfl rfl rfl ?_
    refine q_field (k := 6) rfl rfl rfl rfl Try.underlying81 rfl Try.sizeOf79 rfl ?_
    refine q_load_c (j := 6) rfl rfl rfl rfl Try.isAgg79 Tk (by first | rfl | exact (Nat.add_zero _).symm) (by rfl) ?_
    refine q_field (k := 2) rfl rfl rfl rfl Try.underlying36 rfl Try.sizeOf3 rfl ?_
    refine q_load_c (j := 2) rfl rfl rfl rfl Try.isAgg3 Tk (by first | rfl | exact (Nat.add_zero _).symm) (by rfl) ?_
    refine q_idxO (sz := 3) (k := o.toNat) (enc := encF) (xs := V) rfl rfl rfl rfl rfl Try.underlying79 Try.sizeOf88 hv_ (by omega) (by omega) Tk ?_
    intro ib81 io81 ha81 hl81 hc81
    refine q_move rfl rfl rfl rfl ?_
    have sp_9 := Fa.read_spec b m1 tb tc t ib81 io81 o.toNat vc (.pointer (some ⟨cb, 0, none⟩)) (.slice po x.v.ck.pa.length poc) (.map (some m2)) (.map (some m3)) (.map (some m4)) (.slice va x.vs.length vc) x.cost x.v.ck.n F1 ta va l V w0_ r0 so f0 htF htn hlc hl1 (by omega) hw0 hr0 hv_ ha81 ws hws
    refine l_call rfl rfl rfl rfl rfl rfl Try.call51 (sp_9) Ts ?_
    rintro rp -
    try simp only [List.cons_append, List.nil_append]
    try simp only [List.cons_append, List.nil_append]
    refine ag_nil ?_
    refine r_done ?_
    refine s_fvarF ((rdV t l x.v.ck.n (w0_, r0, ws, f0)).1.1, (rdV t l x.v.ck.n (w0_, r0, ws, f0)).1.2.1, rp, (rdV t l x.v.ck.n (w0_, r0, ws, f0)).1.2.2.2) (rdV t l x.v.ck.n (w0_, r0, ws, f0)).1 Td rfl rfl rfl ?_
    refine s_restL_put (res := fvarA) (V := V) (Y := x.vs) (S := []) o.toNat ((rdV t l x.v.ck.n (w0_, r0, ws, f0)).1.1, (rdV t l x.v.ck.n (w0_, r0, ws, f0)).1.2.1, rp, (rdV t l x.v.ck.n (w0_, r0, ws, f0)).1.2.2.2) (rdV t l x.v.ck.n (w0_, r0, ws, f0)).1 Ts (by simp) (List.getElem?_eq_some_iff.1 hv_).1 (by omega) ?_
    refine s_keep [] (e' := []) rfl ?_
    refine k_blk_n ?_
    refine k_then_n ?_
    refine c_seq ?_
    refine c_plain (.q 0 (.done)) (by kernel_rfl) ?_
    refine q_assign rfl rfl rfl rfl ?_
    refine r_done ?_
    refine k_then_n ?_
    refine c_ret ?_
    refine s_vecF tb ta tc l Ts ?_
    refine s_rest_put (F := F1) (T := x.v.th) (S := []) ((t : Nat) : Int) F1 x.v.th Ts (by simp) htF (fun _ _ _ => rfl) hth (fun _ _ _ => rfl) ?_
    refine df_fold (b := b) (feF x k ((t : Nat) : Int) o) (pa := pa) (pc := pc) (po := po) (poc := poc) (cb := cb) (m1 := m1) (m2 := m2) (m3 := m3) (m4 := m4) (va := va) (vc := vc) (F1 := F1) (F2 := F2) (F3 := F3) (F4 := F4) (V := (V.set o.toNat ((rdV t l x.v.ck.n (w0_, r0, ws, f0)).1.1, (rdV t l x.v.ck.n (w0_, r0, ws, f0)).1.2.1, rp, (rdV t l x.v.ck.n (w0_, r0, ws, f0)).1.2.2.2))) Ts (by rw [fe_rd hv k1 hw hth, Int.toNat_natCast, vn0 (by omega) (by omega) (by omega) (by omega) (by omega) (by omega) (by omega) (by omega)]) (by rw [nx_pa]) (by rw [List.length_set]) (by first | exact (by simp [hV]) | simp) ?_
    refine ret1 rfl rfl (()) (by rfl) (by trivial) ?_
    exact Tf
   ·
    refine c_seq ?_
    refine c_plain (.q 0 (.q 1 (.done))) (by kernel_rfl) ?_
    refine q_int rfl rfl rfl rfl rfl (b_eql _ _ _ _) ?_
    refine q_assign rfl rfl rfl rfl ?_
    refine r_done ?_
    refine s_keep [0, 3, 5, 7, 8, 65, 84] (e' := [(0, _), (3, _), (5, _), (7, _), (8, _), (65, _), (84, _)]) rfl ?_
    refine k_then_n ?_
    refine c_cond_p rfl (fun k2 => ?_) (fun k2 => ?_)
    ·
     obtain ⟨p0, p1⟩ := acc_obj hc (by omega)
     obtain ⟨w, hw⟩ := get_lt (l := x.vs) (i := o.toNat) (by omega)
     obtain ⟨hw0, hr0, hws, hf1, hf2⟩ := hx.vs w (List.mem_of_getElem? hw)
     obtain ⟨ww, wr, ws, wf⟩ := w
     refine s_restL_take (res := fvarA) (V := V) (Y := x.vs) (S := []) o.toNat Tk (by simp) hw fun v_ hv_ => ?_
     obtain ⟨w0_, r0, so, f0⟩ := v_
     refine s_fvar Tk fun he1 he2 he3 => ?_
     simp only at he1 he2 he3 hw0 hr0 hws hf1 hf2
     subst he1 he2 he3
     refine c_draw rfl (.q 0 (.q 1 (.q 2 (.q 3 (.q 4 (.q 5 (.q 6 (.q 7 (.q 8 (.q 9 (.q 10 ((.l 11 [] (.done)))))))))))))) (by kernel_rfl) ?_
     refine q_move rfl rfl rfl rfl ?_
     refine q_field (k := 1) rfl rfl rfl rfl Try.underlying36 rfl Try.sizeOf3 rfl ?_
     refine q_load_c (j := 1) rfl rfl rfl rfl Try.isAgg3 Tk (by first | rfl | exact (Nat.add_zero _).symm) (by rfl) ?_
     refine q_move rfl rfl rfl rfl ?_
     refine q_nil_p rfl rfl rfl rfl ?_
     refine q_field (k := 6) rfl rfl rfl rfl Try.underlying81 rfl Try.sizeOf79 rfl ?_
     refine q_load_c (j := 6) rfl rfl rfl rfl Try.isAgg79 Tk (by first | rfl | exact (Nat.add_zero _).symm) (by rfl) ?_
     refine q_field (k := 2) rfl rfl rfl rfl Try.underlying36 rfl Try.sizeOf3 rfl ?_
     refine q_load_c (j := 2) rfl rfl rfl rfl Try.isAgg3 Tk (by first | rfl | exact (Nat.add_zero _).symm) (by rfl) ?_
     refine q_idxO (sz := 3) (k := o.toNat) (enc := encF) (xs := V) rfl rfl rfl rfl rfl Try.underlying79 Try.sizeOf88 hv_ (by omega) (by omega) Tk ?_
     intro ib95 io95 ha95 hl95 hc95
     refine q_move rfl rfl rfl rfl ?_
     have sp_10 := Fa.write_spec b m1 tb tc t ib95 io95 o.toNat vc (.pointer (some ⟨cb, 0, none⟩)) (.slice po x.v.ck.pa.length poc) (.map (some m2)) (.map (some m3)) (.map (some m4)) (.slice va x.vs.length vc) x.cost x.v.ck.n F1 ta va l V w0_ r0 so f0 htF htn hlc hl1 (by omega) hw0 hr0 hv_ ha95 ws hws
     refine l_call rfl rfl rfl rfl rfl rfl Try.call52 (sp_10) Ts ?_
     rintro rp -
     try simp only [List.cons_append, List.nil_append]
     try simp only [List.cons_append, List.nil_append]
     refine ag_nil ?_
     refine r_done ?_
     refine s_fvarF ((wrV t l x.v.ck.n (w0_, r0, ws, f0)).1.1, (wrV t l x.v.ck.n (w0_, r0, ws, f0)).1.2.1, rp, (wrV t l x.v.ck.n (w0_, r0, ws, f0)).1.2.2.2) (wrV t l x.v.ck.n (w0_, r0, ws, f0)).1 Td rfl rfl rfl ?_
     refine s_restL_put (res := fvarA) (V := V) (Y := x.vs) (S := []) o.toNat ((wrV t l x.v.ck.n (w0_, r0, ws, f0)).1.1, (wrV t l x.v.ck.n (w0_, r0, ws, f0)).1.2.1, rp, (wrV t l x.v.ck.n (w0_, r0, ws, f0)).1.2.2.2) (wrV t l x.v.ck.n (w0_, r0, ws, f0)).1 Ts (by simp) (List.getElem?_eq_some_iff.1 hv_).1 (by omega) ?_
     refine s_keep [] (e' := []) rfl ?_
     refine k_blk_n ?_
     refine k_then_n ?_
     refine c_seq ?_
     refine c_plain (.q 0 (.done)) (by kernel_rfl) ?_
     refine q_assign rfl rfl rfl rfl ?_
     refine r_done ?_
     refine k_then_n ?_
     refine c_ret ?_
     refine s_vecF tb ta tc l Ts ?_
     refine s_rest_put (F := F1) (T := x.v.th) (S := []) ((t : Nat) : Int) F1 x.v.th Ts (by simp) htF (fun _ _ _ => rfl) hth (fun _ _ _ => rfl) ?_
     refine df_fold (b := b) (feF x k ((t : Nat) : Int) o) (pa := pa) (pc := pc) (po := po) (poc := poc) (cb := cb) (m1 := m1) (m2 := m2) (m3 := m3) (m4 := m4) (va := va) (vc := vc) (F1 := F1) (F2 := F2) (F3 := F3) (F4 := F4) (V := (V.set o.toNat ((wrV t l x.v.ck.n (w0_, r0, ws, f0)).1.1, (wrV t l x.v.ck.n (w0_, r0, ws, f0)).1.2.1, rp, (wrV t l x.v.ck.n (w0_, r0, ws, f0)).1.2.2.2))) Ts (by rw [fe_wr hv k2 hw hth, Int.toNat_natCast, vn0 (by omega) (by omega) (by omega) (by omega) (by omega) (by omega) (by omega) (by omega)]) (by rw [nx_pa]) (by rw [List.length_set]) (by first | exact (by simp [hV]) | simp) ?_
     refine ret1 rfl rfl (()) (by rfl) (by trivial) ?_
     exact Tf
    ·
     refine c_seq ?_
     refine c_plain (.q 0 (.q 1 (.done))) (by kernel_rfl) ?_
     refine q_int rfl rfl rfl rfl rfl (b_eql _ _ _ _) ?_
     refine q_assign rfl rfl rfl rfl ?_
     refine r_done ?_
     refine k_then_n ?_
     refine c_cond_p rfl (fun k5 => ?_) (fun k5 => ?_)
     ·
      refine s_rest_opt (F := F2) (T := x.v.lk) (S := []) o Tk (by simp) fun hso => ?_
      refine c_draw rfl (.q 0 (.q 1 (.q 2 (.q 3 (.q 4 (.q 5 (.q 6 (.q 7 ((.l 8 [] (.done))))))))))) (by kernel_rfl) ?_
      refine q_move rfl rfl rfl rfl ?_
      refine q_move rfl rfl rfl rfl ?_
      refine q_nil_p rfl rfl rfl rfl ?_
      refine q_field (k := 3) rfl rfl rfl rfl Try.underlying81 rfl Try.sizeOf77 rfl ?_
      refine q_load_c (j := 3) rfl rfl rfl rfl Try.isAgg77 Tk (by first | rfl | exact (Nat.add_zero _).symm) (by rfl) ?_
      refine q_field (k := 2) rfl rfl rfl rfl Try.underlying36 rfl Try.sizeOf3 rfl ?_
      refine q_load_c (j := 2) rfl rfl rfl rfl Try.isAgg3 Tk (by first | rfl | exact (Nat.add_zero _).symm) (by rfl) ?_
      refine q_lookup1 (ek := ekZ) (ev1 := evA) (F := F2) (m := m2) (k := o) none rfl rfl rfl rfl rfl Try.underlying77 (keyOK_int Try.underlying3) Try.zeroValue86 Tk ?_
      have sp_11 := Fa.join_spec ((F2 o).getD none) (x.v.lk o) (hx.v.lkc _) tb l ta tc hlc
      refine l_call rfl rfl rfl rfl rfl rfl Try.call53 (sp_11) Ts ?_
      rintro ⟨ja, jc⟩ -
      try simp only [List.cons_append, List.nil_append]
      refine ag_nil ?_
      refine r_done ?_
      refine s_opt_back (F := F2) (T := x.v.lk) (S := []) o Ts (by simp) hso ?_
      refine s_vecF tb ja jc (mgF (x.v.lk o) l) Ts ?_
      refine s_rest_put (F := F1) (T := x.v.th) (S := []) ((t : Nat) : Int) F1 (upd x.v.th ((t : Nat) : Int) (some (mgF (x.v.lk o) l))) Ts (by simp) htF (fun _ _ _ => rfl) upd_same (fun q h _ => upd_ne h) ?_
      refine s_keep [] (e' := []) rfl ?_
      refine k_blk_n ?_
      refine k_then_n ?_
      refine c_seq ?_
      refine c_plain (.q 0 (.done)) (by kernel_rfl) ?_
      refine q_assign rfl rfl rfl rfl ?_
      refine r_done ?_
      refine k_then_n ?_
      refine c_ret ?_
      refine df_fold (b := b) (feF x k ((t : Nat) : Int) o) (pa := pa) (pc := pc) (po := po) (poc := poc) (cb := cb) (m1 := m1) (m2 := m2) (m3 := m3) (m4 := m4) (va := va) (vc := vc) (F1 := F1) (F2 := F2) (F3 := F3) (F4 := F4) (V := V) Ts (by rw [fe_no hv (by omega) (by omega), vn5 hth k5]) (by rw [nx_pa]) (by rfl) (by first | exact hV | simp) ?_
      refine ret1 rfl rfl (()) (by rfl) (by trivial) ?_
      exact Tf
     ·
      refine c_seq ?_
      refine c_plain (.q 0 (.q 1 (.done))) (by kernel_rfl) ?_
      refine q_int rfl rfl rfl rfl rfl (b_eql _ _ _ _) ?_
      refine q_assign rfl rfl rfl rfl ?_
      refine r_done ?_
      refine s_keep [0, 3, 5, 8, 65, 109] (e' := [(0, _), (3, _), (5, _), (8, _), (65, _), (109, _)]) rfl ?_
      refine k_then_n ?_
      refine c_cond_p rfl (fun k3 => ?_) (fun k3 => ?_)
      ·
       refine s_rest_opt (F := F3) (T := x.v.vo) (S := []) o Tk (by simp) fun hso => ?_
       refine c_draw rfl (.q 0 (.q 1 (.q 2 (.q 3 (.q 4 (.q 5 (.q 6 (.q 7 ((.l 8 [] (.done))))))))))) (by kernel_rfl) ?_
       refine q_move rfl rfl rfl rfl ?_
       refine q_move rfl rfl rfl rfl ?_
       refine q_nil_p rfl rfl rfl rfl ?_
       refine q_field (k := 4) rfl rfl rfl rfl Try.underlying81 rfl Try.sizeOf77 rfl ?_
       refine q_load_c (j := 4) rfl rfl rfl rfl Try.isAgg77 Tk (by first | rfl | exact (Nat.add_zero _).symm) (by rfl) ?_
       refine q_field (k := 2) rfl rfl rfl rfl Try.underlying36 rfl Try.sizeOf3 rfl ?_
       refine q_load_c (j := 2) rfl rfl rfl rfl Try.isAgg3 Tk (by first | rfl | exact (Nat.add_zero _).symm) (by rfl) ?_
       refine q_lookup1 (ek := ekZ) (ev1 := evA) (F := F3) (m := m3) (k := o) none rfl rfl rfl rfl rfl Try.underlying77 (keyOK_int Try.underlying3) Try.zeroValue86 Tk ?_
       have sp_12 := Fa.join_spec ((F3 o).getD none) (x.v.vo o) (hx.v.voc _) tb l ta tc hlc
       refine l_call rfl rfl rfl rfl rfl rfl Try.call53 (sp_12) Ts ?_
       rintro ⟨ja, jc⟩ -
       try simp only [List.cons_append, List.nil_append]
       refine ag_nil ?_
       refine r_done ?_
       refine s_opt_back (F := F3) (T := x.v.vo) (S := []) o Ts (by simp) hso ?_
       refine s_vecF tb ja jc (mgF (x.v.vo o) l) Ts ?_
       refine s_rest_put (F := F1) (T := x.v.th) (S := []) ((t : Nat) : Int) F1 (upd x.v.th ((t : Nat) : Int) (some (mgF (x.v.vo o) l))) Ts (by simp) htF (fun _ _ _ => rfl) upd_same (fun q h _ => upd_ne h) ?_
       refine s_keep [] (e' := []) rfl ?_
       refine k_blk_n ?_
       refine k_then_n ?_
       refine c_seq ?_
       refine c_plain (.q 0 (.done)) (by kernel_rfl) ?_
       refine q_assign rfl rfl rfl rfl ?_
       refine r_done ?_
       refine k_then_n ?_
       refine c_ret ?_
       refine df_fold (b := b) (feF x k ((t : Nat) : Int) o) (pa := pa) (pc := pc) (po := po) (poc := poc) (cb := cb) (m1 := m1) (m2 := m2) (m3 := m3) (m4 := m4) (va := va) (vc := vc) (F1 := F1) (F2 := F2) (F3 := F3) (F4 := F4) (V := V) Ts (by rw [fe_no hv (by omega) (by omega), vn3 hth k3]) (by rw [nx_pa]) (by rfl) (by first | exact hV | simp) ?_
       refine ret1 rfl rfl (()) (by rfl) (by trivial) ?_
       exact Tf
      ·
       refine c_seq ?_
       refine c_plain (.q 0 (.q 1 (.done))) (by kernel_rfl) ?_
       refine q_int rfl rfl rfl rfl rfl (b_eql _ _ _ _) ?_
       refine q_assign rfl rfl rfl rfl ?_
       refine r_done ?_
       refine k_then_n ?_
       refine c_cond_p rfl (fun k8 => ?_) (fun k8 => ?_)
       ·
        have hne : o ≠ ((t : Nat) : Int) := by
          intro e; rw [e] at hc
          exact join_ne hc k8
        refine s_rest_opt (F := F1) (T := x.v.th) (S := [((t : Nat) : Int)]) o Tk (by simpa using hne) fun hso => ?_
        refine c_draw rfl (.q 0 (.q 1 (.q 2 (.q 3 (.q 4 (.q 5 (.q 6 (.q 7 ((.l 8 [] (.done))))))))))) (by kernel_rfl) ?_
        refine q_move rfl rfl rfl rfl ?_
        refine q_move rfl rfl rfl rfl ?_
        refine q_nil_p rfl rfl rfl rfl ?_
        refine q_field (k := 2) rfl rfl rfl rfl Try.underlying81 rfl Try.sizeOf77 rfl ?_
        refine q_load_c (j := 2) rfl rfl rfl rfl Try.isAgg77 Tk (by first | rfl | exact (Nat.add_zero _).symm) (by rfl) ?_
        refine q_field (k := 2) rfl rfl rfl rfl Try.underlying36 rfl Try.sizeOf3 rfl ?_
        refine q_load_c (j := 2) rfl rfl rfl rfl Try.isAgg3 Tk (by first | rfl | exact (Nat.add_zero _).symm) (by rfl) ?_
        refine q_lookup1 (ek := ekZ) (ev1 := evA) (F := F1) (m := m1) (k := o) none rfl rfl rfl rfl rfl Try.underlying77 (keyOK_int Try.underlying3) Try.zeroValue86 Tk ?_
        have sp_13 := Fa.join_spec ((F1 o).getD none) (x.v.th o) (hx.v.thc _) tb l ta tc hlc
        refine l_call rfl rfl rfl rfl rfl rfl Try.call53 (sp_13) Ts ?_
        rintro ⟨ja, jc⟩ -
        try simp only [List.cons_append, List.nil_append]
        refine ag_nil ?_
        refine r_done ?_
        refine s_opt_back (F := F1) (T := x.v.th) (S := [((t : Nat) : Int)]) o Ts (by simpa using hne) hso ?_
        refine s_vecF tb ja jc (mgF (x.v.th o) l) Ts ?_
        refine s_rest_put (F := F1) (T := x.v.th) (S := []) ((t : Nat) : Int) F1 (upd x.v.th ((t : Nat) : Int) (some (mgF (x.v.th o) l))) Ts (by simp) htF (fun _ _ _ => rfl) upd_same (fun q h _ => upd_ne h) ?_
        refine s_keep [] (e' := []) rfl ?_
        refine k_blk_n ?_
        refine k_then_n ?_
        refine c_seq ?_
        refine c_plain (.q 0 (.done)) (by kernel_rfl) ?_
        refine q_assign rfl rfl rfl rfl ?_
        refine r_done ?_
        refine k_then_n ?_
        refine c_ret ?_
        refine df_fold (b := b) (feF x k ((t : Nat) : Int) o) (pa := pa) (pc := pc) (po := po) (poc := poc) (cb := cb) (m1 := m1) (m2 := m2) (m3 := m3) (m4 := m4) (va := va) (vc := vc) (F1 := F1) (F2 := F2) (F3 := F3) (F4 := F4) (V := V) Ts (by rw [fe_no hv (by omega) (by omega), vn8 hth k8]) (by rw [nx_pa]) (by rfl) (by first | exact hV | simp) ?_
        refine ret1 rfl rfl (()) (by rfl) (by trivial) ?_
        exact Tf
       ·
        refine c_seq ?_
        refine c_plain (.q 0 (.q 1 (.done))) (by kernel_rfl) ?_
        refine q_int rfl rfl rfl rfl rfl (b_eql _ _ _ _) ?_
        refine q_assign rfl rfl rfl rfl ?_
        refine r_done ?_
        refine s_keep [0, 3, 5, 8, 131] (e' := [(0, _), (3, _), (5, _), (8, _), (131, _)]) rfl ?_
        refine k_then_n ?_
        refine c_cond_p rfl (fun k10 => ?_) (fun k10 => ?_)
        ·
         obtain ⟨o5, o7, o9, o10, o11⟩ := can_obj hx.v.ck hc
         have hsh := hx.v.ck.sh
         obtain ⟨q1, q2, q3⟩ := o10 k10
         obtain ⟨p, hrd, hp1⟩ := rd_some hx.v q1 q3
         have hpc := hx.v.rdc _ _ hrd
         have hps := hx.v.rds _ _ hrd
         have hrf : rdF x.v (o, (stF x.v.ck ((t : Nat) : Int)).2.2) = p := by rw [rdF, hrd]; rfl
         have hrd2 : x.v.rd ((stF x.v.ck ((t : Nat) : Int)).2.1, (stF x.v.ck ((t : Nat) : Int)).2.2) = some p := by rw [← q3]; exact hrd
         refine c_plain (.q 0 (.q 1 (.q 2 (.q 3 (.q 4 (.q 5 (.q 6 ((.l 7 [] (.done)))))))))) (by kernel_rfl) ?_
         refine q_move rfl rfl rfl rfl ?_
         refine q_move rfl rfl rfl rfl ?_
         refine q_field (k := 1) rfl rfl rfl rfl Try.underlying107 rfl Try.sizeOf3 rfl ?_
         refine q_load_c (j := 1) rfl rfl rfl rfl Try.isAgg3 Tk (by first | rfl | exact (Nat.add_zero _).symm) (by rfl) ?_
         refine q_field (k := 2) rfl rfl rfl rfl Try.underlying107 rfl Try.sizeOf3 rfl ?_
         refine q_load_c (j := 2) rfl rfl rfl rfl Try.isAgg3 Tk (by first | rfl | exact (Nat.add_zero _).symm) (by rfl) ?_
         refine q_build rfl rfl rfl rfl (vs := [_, _]) (run_buildS Try.underlying125 Try.zeroValue125 (ps := [(0, 1), (1, 1)]) ⟨rfl, Try.sizeOf3, rfl, Try.sizeOf3, trivial⟩ rfl) ?_
         have sp_14 := Fa.leave_spec b m4 (.pointer (some ⟨cb, 0, none⟩)) (.slice po x.v.ck.pa.length poc) (.map (some m1)) (.map (some m2)) (.map (some m3)) (.slice va x.vs.length vc) (.int .i64 x.cost) F4 x.v.rd tb l ta tc hlc (stF x.v.ck ((t : Nat) : Int)).2.1 (stF x.v.ck ((t : Nat) : Int)).2.2 p hrd2 hpc (by omega)
         refine l_call rfl rfl rfl rfl rfl rfl Try.call54 (sp_14) Ts ?_
         rintro ⟨G4, ja, jc⟩ -
         try simp only [List.cons_append, List.nil_append]
         rw [← q3]
         try simp only [List.cons_append, List.nil_append]
         refine ag_nil ?_
         refine r_done ?_
         refine s_vecF tb ja jc (jn l p.1) Ts ?_
         refine s_rest_put (F := F1) (T := x.v.th) (S := []) ((t : Nat) : Int) F1 (upd x.v.th ((t : Nat) : Int) (some (jn l p.1))) Ts (by simp) htF (fun _ _ _ => rfl) upd_same (fun q h _ => upd_ne h) ?_
         refine s_keep [] (e' := []) rfl ?_
         refine k_blk_n ?_
         refine k_then_n ?_
         refine c_seq ?_
         refine c_plain (.q 0 (.done)) (by kernel_rfl) ?_
         refine q_assign rfl rfl rfl rfl ?_
         refine r_done ?_
         refine k_then_n ?_
         refine c_ret ?_
         refine df_fold (b := b) (feF x k ((t : Nat) : Int) o) (pa := pa) (pc := pc) (po := po) (poc := poc) (cb := cb) (m1 := m1) (m2 := m2) (m3 := m3) (m4 := m4) (va := va) (vc := vc) (F1 := F1) (F2 := F2) (F3 := F3) (F4 := G4) (V := V) Ts (by rw [fe_no hv (by omega) (by omega), vn10 hth k10]; simp only [dpF, thF_eq hth, hrf]) (by rw [nx_pa]) (by rfl) (by first | exact hV | simp) ?_
         refine ret1 rfl rfl (()) (by rfl) (by trivial) ?_
         exact Tf
        ·
         refine c_plain (.q 0 (.q 1 (.q 2 ((.l 3 [] (.done)))))) (by kernel_rfl) ?_
         refine q_move rfl rfl rfl rfl ?_
         refine q_loadN_c rfl rfl rfl rfl Try.isAgg36 Try.sizeOf36 Tk 0 (us := [_, _, _]) (by first | rfl | exact (Nat.add_zero _).symm) rfl rfl ?_
         refine q_move rfl rfl rfl rfl ?_
         rcases (show k = 7 ∨ k = 6 ∨ (k = 4 ∧ x.v.vo o = none) ∨ (k = 4 ∧ ∃ q, x.v.vo o = some q) ∨ (k = 9 ∧ x.v.rd (o, (opF x.v.ck o).1) = none) ∨ (k = 9 ∧ ∃ q, x.v.rd (o, (opF x.v.ck o).1) = some q) ∨ (k ≠ 7 ∧ k ≠ 6 ∧ k ≠ 4 ∧ k ≠ 9) by
             cases x.v.vo o <;> cases x.v.rd (o, (opF x.v.ck o).1) <;> simp <;> omega) with k7 | k6 | ⟨k4, hq⟩ | ⟨k4, q, hq⟩ | ⟨k9, hq⟩ | ⟨k9, q, hq⟩ | ⟨h7, h6, h4, h9⟩
         ·
          obtain ⟨o5, o7, o9, o10, o11⟩ := can_obj hx.v.ck hc
          have hsh := hx.v.ck.sh
          have hlt : l.getD t 0 < maxC := by
            have h9 := hv.2 (by unfold relK; omega)
            rw [thF_eq hth, Int.toNat_natCast] at h9; exact h9
          obtain ⟨p0, p1, p2⟩ := o7 k7
          have htl := hx.v.ck.tl
          have hst1 := hsh.th
          have hot : o ≠ ((t : Nat) : Int) := by intro e; rw [e] at p2; exact can_th hc p2
          have sp_15 := Fa.rel_fork b (.pointer (some ⟨cb, 0, none⟩)) (.slice po x.v.ck.pa.length poc) (.map (some m2)) (.map (some m3)) (.map (some m4)) (.slice va x.vs.length vc) (.int .i64 x.cost) tb l ta tc hlc k t o htn hlt m1 F1 x.v.th k7 (by omega) hot
          refine l_call rfl rfl rfl rfl rfl rfl Try.call55 (sp_15) Ts ?_
          rintro ⟨ia, ic, G1⟩ hG1
          try simp only [List.cons_append, List.nil_append]
          try simp only [List.cons_append, List.nil_append]
          refine ag_nil ?_
          refine s_vecF tb ia ic (icL l t) Ts ?_
          refine s_rest_put (F := G1) (T := (upd x.v.th o (some (stL l o.toNat 1)))) (S := []) ((t : Nat) : Int) G1 (upd (upd x.v.th o (some (stL l o.toNat 1))) ((t : Nat) : Int) (some (icL l t))) Ts (by simp) (hG1.trans htF) (fun _ _ _ => rfl) upd_same (fun q h _ => upd_ne h) ?_
          refine r_done ?_
          refine s_keep [] (e' := []) rfl ?_
          refine k_blk_n ?_
          refine k_then_n ?_
          refine c_seq ?_
          refine c_plain (.q 0 (.done)) (by kernel_rfl) ?_
          refine q_assign rfl rfl rfl rfl ?_
          refine r_done ?_
          refine k_then_n ?_
          refine c_ret ?_
          refine df_fold (b := b) (feF x k ((t : Nat) : Int) o) (pa := pa) (pc := pc) (po := po) (poc := poc) (cb := cb) (m1 := m1) (m2 := m2) (m3 := m3) (m4 := m4) (va := va) (vc := vc) (F1 := G1) (F2 := F2) (F3 := F3) (F4 := F4) (V := V) Ts (by rw [fe_no hv (by omega) (by omega), vn7 hth k7, Int.toNat_natCast]) (by rw [nx_pa]) (by rfl) (by first | exact hV | simp) ?_
          refine ret1 rfl rfl (()) (by rfl) (by trivial) ?_
          exact Tf
         ·
          have hlt : l.getD t 0 < maxC := by
            have h9 := hv.2 (by unfold relK; omega)
            rw [thF_eq hth, Int.toNat_natCast] at h9; exact h9
          have sp_16 := Fa.rel_unlock b (.pointer (some ⟨cb, 0, none⟩)) (.slice po x.v.ck.pa.length poc) (.map (some m1)) (.map (some m3)) (.map (some m4)) (.slice va x.vs.length vc) (.int .i64 x.cost) tb l ta tc hlc k t o htn hlt m2 F2 x.v.lk k6
          refine l_call rfl rfl rfl rfl rfl rfl Try.call55 (sp_16) Ts ?_
          rintro ⟨ia, ic, G2⟩ -
          try simp only [List.cons_append, List.nil_append]
          try simp only [List.cons_append, List.nil_append]
          refine ag_nil ?_
          refine s_vecF tb ia ic (icL l t) Ts ?_
          refine s_rest_put (F := F1) (T := x.v.th) (S := []) ((t : Nat) : Int) F1 (upd x.v.th ((t : Nat) : Int) (some (icL l t))) Ts (by simp) htF (fun _ _ _ => rfl) upd_same (fun q h _ => upd_ne h) ?_
          refine r_done ?_
          refine s_keep [] (e' := []) rfl ?_
          refine k_blk_n ?_
          refine k_then_n ?_
          refine c_seq ?_
          refine c_plain (.q 0 (.done)) (by kernel_rfl) ?_
          refine q_assign rfl rfl rfl rfl ?_
          refine r_done ?_
          refine k_then_n ?_
          refine c_ret ?_
          refine df_fold (b := b) (feF x k ((t : Nat) : Int) o) (pa := pa) (pc := pc) (po := po) (poc := poc) (cb := cb) (m1 := m1) (m2 := m2) (m3 := m3) (m4 := m4) (va := va) (vc := vc) (F1 := F1) (F2 := G2) (F3 := F3) (F4 := F4) (V := V) Ts (by rw [fe_no hv (by omega) (by omega), vn6 hth k6, Int.toNat_natCast]) (by rw [nx_pa]) (by rfl) (by first | exact hV | simp) ?_
          refine ret1 rfl rfl (()) (by rfl) (by trivial) ?_
          exact Tf
         ·
          have hlt : l.getD t 0 < maxC := by
            have h9 := hv.2 (by unfold relK; omega)
            rw [thF_eq hth, Int.toNat_natCast] at h9; exact h9
          have sp_17 := Fa.rel_set0 b (.pointer (some ⟨cb, 0, none⟩)) (.slice po x.v.ck.pa.length poc) (.map (some m1)) (.map (some m2)) (.map (some m4)) (.slice va x.vs.length vc) (.int .i64 x.cost) tb l ta tc hlc k t o htn hlt m3 F3 x.v.vo k4 hq
          refine l_call rfl rfl rfl rfl rfl rfl Try.call55 (sp_17) Ts ?_
          rintro ⟨ia, ic, G3⟩ -
          try simp only [List.cons_append, List.nil_append]
          try simp only [List.cons_append, List.nil_append]
          refine ag_nil ?_
          refine s_vecF tb ia ic (icL l t) Ts ?_
          refine s_rest_put (F := F1) (T := x.v.th) (S := []) ((t : Nat) : Int) F1 (upd x.v.th ((t : Nat) : Int) (some (icL l t))) Ts (by simp) htF (fun _ _ _ => rfl) upd_same (fun q h _ => upd_ne h) ?_
          refine r_done ?_
          refine s_keep [] (e' := []) rfl ?_
          refine k_blk_n ?_
          refine k_then_n ?_
          refine c_seq ?_
          refine c_plain (.q 0 (.done)) (by kernel_rfl) ?_
          refine q_assign rfl rfl rfl rfl ?_
          refine r_done ?_
          refine k_then_n ?_
          refine c_ret ?_
          refine df_fold (b := b) (feF x k ((t : Nat) : Int) o) (pa := pa) (pc := pc) (po := po) (poc := poc) (cb := cb) (m1 := m1) (m2 := m2) (m3 := m3) (m4 := m4) (va := va) (vc := vc) (F1 := F1) (F2 := F2) (F3 := G3) (F4 := F4) (V := V) Ts (by rw [fe_no hv (by omega) (by omega), vn4 hth k4, Int.toNat_natCast]) (by rw [nx_pa]) (by rfl) (by first | exact hV | simp) ?_
          refine ret1 rfl rfl (()) (by rfl) (by trivial) ?_
          exact Tf
         ·
          have hlt : l.getD t 0 < maxC := by
            have h9 := hv.2 (by unfold relK; omega)
            rw [thF_eq hth, Int.toNat_natCast] at h9; exact h9
          have sp_18 := Fa.rel_set1 b (.pointer (some ⟨cb, 0, none⟩)) (.slice po x.v.ck.pa.length poc) (.map (some m1)) (.map (some m2)) (.map (some m4)) (.slice va x.vs.length vc) (.int .i64 x.cost) tb l ta tc hlc k t o htn hlt m3 F3 x.v.vo k4 q hq (hx.v.voc _ _ hq)
          refine l_call rfl rfl rfl rfl rfl rfl Try.call55 (sp_18) Ts ?_
          rintro ⟨ia, ic, G3⟩ -
          try simp only [List.cons_append, List.nil_append]
          try simp only [List.cons_append, List.nil_append]
          refine ag_nil ?_
          refine s_vecF tb ia ic (icL l t) Ts ?_
          refine s_rest_put (F := F1) (T := x.v.th) (S := []) ((t : Nat) : Int) F1 (upd x.v.th ((t : Nat) : Int) (some (icL l t))) Ts (by simp) htF (fun _ _ _ => rfl) upd_same (fun q h _ => upd_ne h) ?_
          refine r_done ?_
          refine s_keep [] (e' := []) rfl ?_
          refine k_blk_n ?_
          refine k_then_n ?_
          refine c_seq ?_
          refine c_plain (.q 0 (.done)) (by kernel_rfl) ?_
          refine q_assign rfl rfl rfl rfl ?_
          refine r_done ?_
          refine k_then_n ?_
          refine c_ret ?_
          refine df_fold (b := b) (feF x k ((t : Nat) : Int) o) (pa := pa) (pc := pc) (po := po) (poc := poc) (cb := cb) (m1 := m1) (m2 := m2) (m3 := m3) (m4 := m4) (va := va) (vc := vc) (F1 := F1) (F2 := F2) (F3 := G3) (F4 := F4) (V := V) Ts (by rw [fe_no hv (by omega) (by omega), vn4 hth k4, Int.toNat_natCast]) (by rw [nx_pa]) (by rfl) (by first | exact hV | simp) ?_
          refine ret1 rfl rfl (()) (by rfl) (by trivial) ?_
          exact Tf
         ·
          obtain ⟨o5, o7, o9, o10, o11⟩ := can_obj hx.v.ck hc
          have hsh := hx.v.ck.sh
          have hlt : l.getD t 0 < maxC := by
            have h9 := hv.2 (by unfold relK; omega)
            rw [thF_eq hth, Int.toNat_natCast] at h9; exact h9
          obtain ⟨p0, p1, p2, p3⟩ := o9 k9
          obtain ⟨pp, hpp⟩ := get_lt (l := pl) (i := o.toNat) (by rw [← hpl]; omega)
          obtain ⟨s0, s1, s2⟩ := stF_nz (can_th hc)
          have hst2 : stF (nxF x.v.ck k ((t : Nat) : Int) o) ((t : Nat) : Int) = (2, o, (opF x.v.ck o).1) := by
            rw [(nxF_k hc).2.2.2.1 k9, stF_set s0 s1 rfl, if_pos rfl]
          have sp_19 := Fa.rel_arr0 b (.map (some m1)) (.map (some m2)) (.map (some m3)) (.slice va x.vs.length vc) (.int .i64 x.cost) tb l ta tc hlc k t o htn hlt cb x.v.ck.pa.length pa pc (nxF x.v.ck k ((t : Nat) : Int) o) (next_inv hx.v.ck _ _ _) pl (by rw [hpl]) po poc pp hpp p0 (by rw [← hpl, ← hx.v.ck.bl]; have := hx.v.ck.sh.pl; rw [← hx.v.ck.bl] at this; exact this) (opF x.v.ck o).1 hst2 m4 F4 x.v.rd k9 hq
          refine l_call rfl rfl rfl rfl rfl rfl Try.call55 (sp_19) Ts ?_
          rintro ⟨ia, ic, G4⟩ -
          try simp only [List.cons_append, List.nil_append]
          try simp only [List.cons_append, List.nil_append]
          refine ag_nil ?_
          refine s_vecF tb ia ic (icL l t) Ts ?_
          refine s_rest_put (F := F1) (T := x.v.th) (S := []) ((t : Nat) : Int) F1 (upd x.v.th ((t : Nat) : Int) (some (icL l t))) Ts (by simp) htF (fun _ _ _ => rfl) upd_same (fun q h _ => upd_ne h) ?_
          refine r_done ?_
          refine s_keep [] (e' := []) rfl ?_
          refine k_blk_n ?_
          refine k_then_n ?_
          refine c_seq ?_
          refine c_plain (.q 0 (.done)) (by kernel_rfl) ?_
          refine q_assign rfl rfl rfl rfl ?_
          refine r_done ?_
          refine k_then_n ?_
          refine c_ret ?_
          refine df_fold (b := b) (feF x k ((t : Nat) : Int) o) (pa := pa) (pc := pc) (po := po) (poc := poc) (cb := cb) (m1 := m1) (m2 := m2) (m3 := m3) (m4 := m4) (va := va) (vc := vc) (F1 := F1) (F2 := F2) (F3 := F3) (F4 := G4) (V := V) Ts (by rw [fe_no hv (by omega) (by omega), vn9 hth k9, Int.toNat_natCast, show x.v.ck.pa.getD o.toNat 0 = pp from by rw [hpl]; exact getD_some hpp]) (by rw [nx_pa]) (by rfl) (by first | exact hV | simp) ?_
          refine ret1 rfl rfl (()) (by rfl) (by trivial) ?_
          exact Tf
         ·
          obtain ⟨o5, o7, o9, o10, o11⟩ := can_obj hx.v.ck hc
          have hsh := hx.v.ck.sh
          have hlt : l.getD t 0 < maxC := by
            have h9 := hv.2 (by unfold relK; omega)
            rw [thF_eq hth, Int.toNat_natCast] at h9; exact h9
          obtain ⟨p0, p1, p2, p3⟩ := o9 k9
          obtain ⟨pp, hpp⟩ := get_lt (l := pl) (i := o.toNat) (by rw [← hpl]; omega)
          obtain ⟨s0, s1, s2⟩ := stF_nz (can_th hc)
          have hst2 : stF (nxF x.v.ck k ((t : Nat) : Int) o) ((t : Nat) : Int) = (2, o, (opF x.v.ck o).1) := by
            rw [(nxF_k hc).2.2.2.1 k9, stF_set s0 s1 rfl, if_pos rfl]
          have sp_20 := Fa.rel_arr1 b (.map (some m1)) (.map (some m2)) (.map (some m3)) (.slice va x.vs.length vc) (.int .i64 x.cost) tb l ta tc hlc k t o htn hlt cb x.v.ck.pa.length pa pc (nxF x.v.ck k ((t : Nat) : Int) o) (next_inv hx.v.ck _ _ _) pl (by rw [hpl]) po poc pp hpp p0 (by rw [← hpl, ← hx.v.ck.bl]; have := hx.v.ck.sh.pl; rw [← hx.v.ck.bl] at this; exact this) (opF x.v.ck o).1 hst2 m4 F4 x.v.rd k9 q hq (hx.v.rdc _ _ hq)
          refine l_call rfl rfl rfl rfl rfl rfl Try.call55 (sp_20) Ts ?_
          rintro ⟨ia, ic, G4⟩ -
          try simp only [List.cons_append, List.nil_append]
          try simp only [List.cons_append, List.nil_append]
          refine ag_nil ?_
          refine s_vecF tb ia ic (icL l t) Ts ?_
          refine s_rest_put (F := F1) (T := x.v.th) (S := []) ((t : Nat) : Int) F1 (upd x.v.th ((t : Nat) : Int) (some (icL l t))) Ts (by simp) htF (fun _ _ _ => rfl) upd_same (fun q h _ => upd_ne h) ?_
          refine r_done ?_
          refine s_keep [] (e' := []) rfl ?_
          refine k_blk_n ?_
          refine k_then_n ?_
          refine c_seq ?_
          refine c_plain (.q 0 (.done)) (by kernel_rfl) ?_
          refine q_assign rfl rfl rfl rfl ?_
          refine r_done ?_
          refine k_then_n ?_
          refine c_ret ?_
          refine df_fold (b := b) (feF x k ((t : Nat) : Int) o) (pa := pa) (pc := pc) (po := po) (poc := poc) (cb := cb) (m1 := m1) (m2 := m2) (m3 := m3) (m4 := m4) (va := va) (vc := vc) (F1 := F1) (F2 := F2) (F3 := F3) (F4 := G4) (V := V) Ts (by rw [fe_no hv (by omega) (by omega), vn9 hth k9, Int.toNat_natCast, ← hx.rp o _ q p0 hq rfl]) (by rw [nx_pa]) (by rfl) (by first | exact hV | simp) ?_
          refine ret1 rfl rfl (()) (by rfl) (by trivial) ?_
          exact Tf
         ·
          have sp_21 := Fa.rel_none b tb k t o h7 h6 h4 h9
          refine l_call rfl rfl rfl rfl rfl rfl Try.call55 (sp_21) Ts ?_
          rintro ⟨⟩ -
          try simp only [List.cons_append, List.nil_append]
          refine ag_nil ?_
          refine s_vecF tb ta tc l Ts ?_
          refine s_rest_put (F := F1) (T := x.v.th) (S := []) ((t : Nat) : Int) F1 x.v.th Ts (by simp) htF (fun _ _ _ => rfl) hth (fun _ _ _ => rfl) ?_
          refine r_done ?_
          refine s_keep [] (e' := []) rfl ?_
          refine k_blk_n ?_
          refine k_then_n ?_
          refine c_seq ?_
          refine c_plain (.q 0 (.done)) (by kernel_rfl) ?_
          refine q_assign rfl rfl rfl rfl ?_
          refine r_done ?_
          refine k_then_n ?_
          refine c_ret ?_
          refine df_fold (b := b) (feF x k ((t : Nat) : Int) o) (pa := pa) (pc := pc) (po := po) (poc := poc) (cb := cb) (m1 := m1) (m2 := m2) (m3 := m3) (m4 := m4) (va := va) (vc := vc) (F1 := F1) (F2 := F2) (F3 := F3) (F4 := F4) (V := V) Ts (by rw [fe_no hv (by omega) (by omega), vn0 k5 k3 k8 k10 h6 h4 h9 h7]) (by rw [nx_pa]) (by rfl) (by first | exact hV | simp) ?_
          refine ret1 rfl rfl (()) (by rfl) (by trivial) ?_
          exact Tf
theorem event_spec (pa : Option Addr) (pc : Nat) (po : Option Addr) (poc b : Nat) (x : FS) (hx : FInv x) (hn : x.v.ck.n ≤ 100000000000000) (pl : List Int) (hpl : x.v.ck.pa = pl) (k t o : Int) : Spec Try.prog 14 [.pointer (some ⟨b, 0, none⟩), .agg #[.int .i64 k, .int .i64 t, .int .i64 o]] [dfR pa pc po poc b x, own 1 encZ pa pc pl, own 1 encZ po poc pl] (fun (_ : Unit) => .int .i64 (feE x k t o)) (fun _ => True) (fun _ => [dfR pa pc po poc b (feF x k t o), own 1 encZ pa pc pl, own 1 encZ po poc pl]) := by
  by_cases hv : vcanF x.v k t o
  · obtain ⟨h0, -⟩ := th_rng hx.v (can_th hv.1)
    obtain ⟨i, rfl⟩ := Int.eq_ofNat_of_zero_le h0
    rw [feE, if_pos hv]
    exact event_can pa pc po poc b x hx hn pl hpl k i o hv
  · rw [feE, feF, if_neg hv, if_neg hv]
    by_cases hc : canF x.v.ck k t o
    · obtain ⟨h0, -⟩ := th_rng hx.v (can_th hc)
      obtain ⟨i, rfl⟩ := Int.eq_ofNat_of_zero_le h0
      exact event_max pa pc po poc b x hx hn pl hpl k i o hc hv
    · exact event_no pa pc po poc b x hx hn pl hpl k t o hc
end Go.Ab.Fa
set_option linter.unusedVariables false
set_option linter.unusedSimpArgs false
set_option maxRecDepth 100000
namespace Go.Ab.Fa
open Go Go.Proofs Go.Ab Go.Ab.Fe Go.Ab.Vc Go.Ab.Dj
def vNew (th va vo lk : Int) (pl : List Int) : VS := ⟨newF th va vo lk pl, upd noF 0 (some [1]), noF, noF, noF⟩
theorem one_cv : CV [1] := ⟨by simp [Tr], by decide, by decide⟩
theorem new_vinv {th va vo lk : Int} {pl : List Int} (hok : OkS th va vo lk pl) (hc : CInv (newF th va vo lk pl)) : VInv (vNew th va vo lk pl) := by
  have h1 := hok.th
  have hst : ∀ t, stF (newF th va vo lk pl) t = if t = 0 then (1, 0, 0) else (0, 0, 0) := fun t => by
    have h := (rel_new hok).st t
    rw [← h]
    unfold upd noF
    split <;> rfl
  have hT : ∀ b r : Int, wtN (newF th va vo lk pl) b r = 0 := fun b r => by
    unfold wtN
    rw [List.countP_eq_zero]
    intro s hs h2
    have h3 := of_decide_eq_true h2
    obtain ⟨i, hi⟩ := List.getElem?_of_mem hs
    have h4 := hst (i : Int)
    rw [stF, if_neg (by omega), Int.toNat_natCast, getD_some hi, h3] at h4
    split at h4 <;> simp at h4
  have hB : ∀ b : Int, 0 ≤ (opF (newF th va vo lk pl) b).2 := fun b => by
    unfold opF newF
    rcases getD_mem' (List.replicate pl.length ((0 : Int), (0 : Int))) b.toNat (0, 0) with h | h
    · rw [h]; decide
    · rw [(List.mem_replicate.1 h).2]; decide
  refine ⟨hc, fun t => ?_, fun t l h => ?_, fun t l h => (by cases h), fun t l h => (by cases h), fun r p h => (by cases h), fun r p h => (by cases h), fun b r => ?_, fun b _ _ => ?_⟩
  · show (upd noF 0 (some [1]) t).isSome = true ↔ (stF (newF th va vo lk pl) t).1 ≠ 0
    rw [isS_upd, hst]
    split <;> simp_all [noF]
  · rcases upd_some (show upd noF 0 (some [1]) t = some l from h) with ⟨-, h⟩ | ⟨-, h⟩
    · cases h; exact one_cv
    · cases h
  · show ((wtN (newF th va vo lk pl) b r : Nat) : Int) ≤ _
    rw [hT]; exact Int.le_refl _
  · show ((wtN (newF th va vo lk pl) b _ : Nat) : Int) ≤ (opF (newF th va vo lk pl) b).2
    rw [hT]; exact hB b
def fNew (th va vo lk : Int) (pl : List Int) : FS := ⟨vNew th va vo lk pl, List.replicate va.toNat f0V, 0⟩
theorem new_finv {th va vo lk : Int} {pl : List Int} (hok : OkS th va vo lk pl) (hc : CInv (newF th va vo lk pl)) : FInv (fNew th va vo lk pl) := by
  have hva := hok.va
  refine ⟨new_vinv hok hc, by simp [fNew, vNew, newF]; omega, fun w hw => ?_, by simp [fNew, vNew, newF], fun t l h => ?_, fun o r ho hr => rfl, fun o r p ho h => (by cases h)⟩
  · rw [(List.mem_replicate.1 hw).2]
    exact ⟨by decide, by decide, fun s h => (by cases h), by decide, by show (-1 : Int) < 0; decide⟩
  · rcases upd_some (show upd noF 0 (some [1]) t = some l from h) with ⟨rfl, h⟩ | ⟨-, h⟩
    · cases h; decide
    · cases h
def fEv (x : FS) (e : T3) : FS := feF x e.1 e.2.1 e.2.2
def fAll (x : FS) (es : List T3) : FS := es.foldl fEv x
def canFE (x : FS) (e : T3) : Prop := vcanF x.v e.1 e.2.1 e.2.2
instance (x : FS) (e : T3) : Decidable (canFE x e) := by unfold canFE; infer_instance
def okFAll (x : FS) (es : List T3) : Prop := ∀ (i : Nat) e, es[i]? = some e → canFE (fAll x (es.take i)) e
theorem fAll_next {x : FS} {es : List T3} {i : Nat} {e : T3} (h : es[i]? = some e) : fAll x (es.take (i + 1)) = fEv (fAll x (es.take i)) e := by
  rw [List.take_add_one, h, fAll, fAll, List.foldl_append]; rfl
theorem fAll_inv {x : FS} (hx : FInv x) : ∀ es, FInv (fAll x es)
  | [] => hx
  | e :: es => fAll_inv (fe_inv hx _ _ _) es
theorem fe_len {x : FS} (k t o : Int) : (feF x k t o).vs.length = x.vs.length := by
  unfold feF
  split
  · unfold feA
    split
    · simp
    split
    · simp
    · rfl
  · rfl
theorem fe_n {x : FS} (k t o : Int) : (feF x k t o).v.ck.n ≤ x.v.ck.n + 1 ∧ (feF x k t o).v.ck.pa = x.v.ck.pa ∧ (feF x k t o).v.ck.th = x.v.ck.th ∧ (feF x k t o).v.ck.va = x.v.ck.va := by
  by_cases hv : vcanF x.v k t o
  · obtain ⟨h1, h2, h3⟩ := nx_all hv.1
    rw [feF, if_pos hv]
    show (vnF x.v k t o).ck.n ≤ _ ∧ (vnF x.v k t o).ck.pa = _ ∧ (vnF x.v k t o).ck.th = _ ∧ (vnF x.v k t o).ck.va = _
    rw [vn_ck, h1, h2, h3, nx_pa]
    exact ⟨Int.le_refl _, rfl, rfl, rfl⟩
  · rw [feF, if_neg hv]; exact ⟨by omega, rfl, rfl, rfl⟩
theorem fAll_n : ∀ (es : List T3) (x : FS), (fAll x es).v.ck.n ≤ x.v.ck.n + es.length ∧ (fAll x es).v.ck.pa = x.v.ck.pa ∧ (fAll x es).v.ck.th = x.v.ck.th ∧ (fAll x es).v.ck.va = x.v.ck.va ∧ (fAll x es).vs.length = x.vs.length
  | [], x => ⟨by simp [fAll], rfl, rfl, rfl, rfl⟩
  | e :: es, x => by
    have h := fAll_n es (fEv x e)
    have h2 := fe_n (x := x) e.1 e.2.1 e.2.2
    refine ⟨?_, h.2.1.trans h2.2.1, h.2.2.1.trans h2.2.2.1, h.2.2.2.1.trans h2.2.2.2, h.2.2.2.2.trans (fe_len _ _ _)⟩
    have h3 := h.1
    have h4 : (fEv x e).v.ck.n ≤ x.v.ck.n + 1 := h2.1
    simp only [List.length_cons]
    show (fAll (fEv x e) es).v.ck.n ≤ _
    omega
theorem okF_next {x : FS} {es : List T3} {i : Nat} {e : T3} (h : es[i]? = some e) (ho : okFAll x (es.take i)) (hc : canFE (fAll x (es.take i)) e) : okFAll x (es.take (i + 1)) := by
  intro j q hj
  have hi := (List.getElem?_eq_some_iff.1 h).1
  have hj2 := (List.getElem?_eq_some_iff.1 hj).1
  rw [List.length_take] at hj2
  rw [List.getElem?_take_of_lt (by omega)] at hj
  rw [List.take_take, Nat.min_eq_left (by omega)]
  rcases Nat.lt_or_ge j i with h1 | h1
  · have := ho j q (by rw [List.getElem?_take_of_lt h1]; exact hj)
    rwa [List.take_take, Nat.min_eq_left (by omega)] at this
  · obtain rfl : j = i := by omega
    rw [h] at hj; cases hj; exact hc
/-- What is told of variables. -/
def wFF (x : FS) (z : Int) : Option V4F := if 0 ≤ z then x.vs[z.toNat]? else none
def wrE (w : Option V4F) : Nat := (w.map (·.1)).getD 0
def rdE (w : Option V4F) : Nat := (w.map (·.2.1)).getD 0
def shE (w : Option V4F) : Option (List Int) := (w.map (·.2.2.1)).getD none
def flFF (vs : List V4F) : List T2 := (vs.zipIdx.filter (fun p => decide (0 ≤ p.1.2.2.2))).map fun p => ((p.2 : Int), p.1.2.2.2)
theorem flFF_next {vs : List V4F} {i : Nat} {w : V4F} (h : vs[i]? = some w) : flFF (vs.take (i + 1)) = flFF (vs.take i) ++ (if 0 ≤ w.2.2.2 then [((i : Int), w.2.2.2)] else []) := by
  have hi := (List.getElem?_eq_some_iff.1 h).1
  unfold flFF
  rw [List.take_add_one, h, List.zipIdx_append, List.filter_append, List.map_append, List.length_take, Nat.min_eq_left (by omega)]
  congr 1
  by_cases hw : 0 ≤ w.2.2.2
  · simp [hw]
  · simp [hw]
theorem flFF_len (vs : List V4F) : (flFF vs).length ≤ vs.length := by
  unfold flFF
  rw [List.length_map]
  exact Nat.le_trans (List.length_filter_le _ _) (by simp)
theorem events_spec (pa : Option Addr) (pc : Nat) (po : Option Addr) (poc b : Nat) (x : FS) (hx : FInv x) (hn : x.v.ck.n ≤ 10000000000000) (pl : List Int) (hpl : x.v.ck.pa = pl) (xs : List T3) (ao : Option Addr) (n c : Nat) (A : HProp) (hr : RdS A ao (xs.flatMap enc3)) (hxn : xs.length = n) (hb : n ≤ 4000000) : Spec Try.prog 12 [.pointer (some ⟨b, 0, none⟩), .slice ao n c] [A, dfR pa pc po poc b x, own 1 encZ pa pc pl, own 1 encZ po poc pl] (fun (i : Nat) => .tuple #[.int .i64 ((i : Nat) : Int), .int .i64 (if i = n then 0 else 6)]) (fun i => i ≤ n ∧ okFAll x (xs.take i) ∧ (i < n → ∀ e, xs[i]? = some e → ¬ canFE (fAll x (xs.take i)) e)) (fun i => [A, dfR pa pc po poc b (fAll x (xs.take i)), own 1 encZ pa pc pl, own 1 encZ po poc pl]) := by
 refine spec_mk (n := 28) Try.func12 rfl rfl rfl ?_
 intro Γ w0
 simp only [argE, List.cons_append, List.nil_append, Nat.zero_add, Nat.reduceAdd]
 refine c_seq ?_
 refine c_plain (.q 0 (.q 1 (.done))) (by kernel_rfl) ?_
 refine q_assign rfl rfl rfl rfl ?_
 refine q_assign rfl rfl rfl rfl ?_
 refine r_done ?_
 refine k_then_n ?_
 refine c_seq ?_
 refine c_seq ?_
 refine c_plain (.q 0 ((.l 1 [] (.done)))) (by kernel_rfl) ?_
 refine q_move rfl rfl rfl rfl ?_
 refine s_take (A := dfR pa pc po poc b x) Tk ?_
 refine df_open fun cb m1 m2 m3 m4 va vc F1 F2 F3 F4 V hV => ?_
 have sp_1 := Fa.none_spec b cb (.slice po x.v.ck.pa.length poc) (.map (some m1)) (.map (some m2)) (.map (some m3)) (.map (some m4)) (.slice va x.vs.length vc) (.int .i64 x.cost)
 refine l_call rfl rfl rfl rfl rfl rfl Try.call32 (sp_1) Ts ?_
 rintro ⟨⟩ -
 try simp only [List.cons_append, List.nil_append]
 refine ag_nil ?_
 refine df_fold (b := b) x (pa := pa) (pc := pc) (po := po) (poc := poc) (cb := cb) (m1 := m1) (m2 := m2) (m3 := m3) (m4 := m4) (va := va) (vc := vc) (F1 := F1) (F2 := F2) (F3 := F3) (F4 := F4) (V := V) Ts (by rfl) (by rfl) (by rfl) (by first | exact hV | simp) ?_
 refine r_done ?_
 refine k_then_n ?_
 refine c_cond_f rfl ?_
 refine c_skip ?_
 refine k_then_n ?_
 refine c_seq ?_
 refine c_seq ?_
 refine c_plain (.q 0 (.q 1 (.q 2 (.done)))) (by kernel_rfl) ?_
 refine q_move rfl rfl rfl rfl ?_
 refine q_len rfl rfl rfl rfl Try.underlying26 ?_
 refine q_move rfl rfl rfl rfl ?_
 refine r_done ?_
 refine s_keep [0, 1, 11, 12, 13] (e' := [(0, _), (1, _), (11, _), (12, _), (13, _)]) rfl ?_
 refine k_then_n ?_
 refine c_block ?_
 refine c_loop2 (α := Nat) (fun (i : Nat) => i ≤ n ∧ (okFAll x (xs.take i))) (fun (i : Nat) => [(13, .int .i64 ((i : Nat) : Int))]) (fun (i : Nat) => [dfR pa pc po poc b (fAll x (xs.take i)), own 1 encZ pa pc pl, own 1 encZ po poc pl]) (fun (i : Nat) => n - i) [0, 1, 11, 12] (er := [(0, _), (1, _), (11, _), (12, _)]) rfl (0) ?_ (by exact ⟨rfl, trivial⟩) (by (try dsimp only); (try simp only [Nat.add_zero, Nat.zero_add]); (repeat ((with_reducible apply Z2); focus (first | (with_reducible (repeat (first | exact Z0 | apply Z1)); done) | (repeat (first | exact Z0 | apply Z1))))); exact Z3) ?_
 · exact ⟨Nat.zero_le _, fun j e h => by simp at h⟩
 rintro i ⟨hle_i, ho⟩
 try simp only [List.cons_append, List.nil_append]
 obtain ⟨hdn, hdp, hdt, hdv, -⟩ := fAll_n (xs.take i) x
 rw [List.length_take] at hdn
 refine c_seq ?_
 refine c_plain (.q 0 (.done)) (by kernel_rfl) ?_
 refine q_int rfl rfl rfl rfl rfl (b_lss _ _ _ _) ?_
 refine r_done ?_
 refine k_then_n ?_
 refine c_seq ?_
 refine c_cond_p rfl (fun hlt => ?_) (fun hlt => ?_)
 ·
  refine c_skip ?_
  refine k_then_n ?_
  refine c_seq ?_
  refine c_block ?_
  refine c_seq ?_
  refine c_plain (.q 0 (.q 1 (.q 2 ((.l 3 [] (.q 4 ((.l 5 [] (.done))))))))) (by kernel_rfl) ?_
  refine q_move rfl rfl rfl rfl ?_
  obtain ⟨e, he⟩ := get_lt (l := xs) (i := i) (by first | omega | (simp; done) | (simp; omega))
  refine q_idxR (sz := 2) (k := i) rfl rfl rfl rfl rfl Try.underlying26 Try.sizeOf36 (hr) he enc3_len (by first | rfl | omega) (by omega) ?_
  intro ib16 io16 _ hd16
  refine q_loadN (vs := [_, _, _]) rfl rfl rfl rfl Try.isAgg36 Try.sizeOf36 Tk (hd16) rfl ?_
  refine l_alloc rfl rfl rfl Try.zeroValue36 (zs := [.int .i64 0, .int .i64 0, .int .i64 0]) rfl ?_
  intro b7
  refine ag_nil ?_
  refine q_assign rfl rfl rfl rfl ?_
  refine l_store (j := 0) rfl rfl rfl rfl Try.sizeOf36 (us := [_, _, _]) rfl rfl rfl Tk (by first | rfl | exact (Nat.add_zero _).symm) (by first | decide | (simp; done) | omega) ?_
  simp only [setL, List.set]
  refine ag_nil ?_
  refine r_done ?_
  refine s_keep [0, 1, 6, 7, 11, 12, 13] (e' := [(0, _), (1, _), (6, _), (7, _), (11, _), (12, _), (13, _)]) rfl ?_
  refine k_then_n ?_
  refine c_seq ?_
  refine c_plain (.q 0 (.q 1 ((.l 2 [] (.q 3 (.done)))))) (by kernel_rfl) ?_
  refine q_move rfl rfl rfl rfl ?_
  refine q_loadN_c rfl rfl rfl rfl Try.isAgg36 Try.sizeOf36 Tk 0 (us := [_, _, _]) (by first | rfl | exact (Nat.add_zero _).symm) rfl rfl ?_
  have sp_2 := Fa.event_spec pa pc po poc b (fAll x (xs.take i)) (fAll_inv hx _) (by omega) pl (hdp.trans hpl) e.1 e.2.1 e.2.2
  refine l_call rfl rfl rfl rfl rfl rfl Try.call14 (sp_2) Ts ?_
  rintro ⟨⟩ -
  try simp only [List.cons_append, List.nil_append]
  refine ag_nil ?_
  refine q_assign rfl rfl rfl rfl ?_
  refine r_done ?_
  refine s_keep [0, 1, 6, 8, 11, 12, 13] (e' := [(0, _), (1, _), (6, _), (8, _), (11, _), (12, _), (13, _)]) rfl ?_
  refine k_then_n ?_
  refine c_seq ?_
  refine c_plain (.q 0 (.q 1 (.done))) (by kernel_rfl) ?_
  refine q_move rfl rfl rfl rfl ?_
  refine q_int rfl rfl rfl rfl rfl (b_neq _ _ _ _) ?_
  refine r_done ?_
  refine k_then_n ?_
  refine c_cond_p rfl (fun hne => ?_) (fun hne => ?_)
  ·
   have hncan : ¬ canFE (fAll x (xs.take i)) e := fun h => hne (if_pos h)
   rw [show (feF (fAll x (xs.take i)) e.1 e.2.1 e.2.2) = (fAll x (xs.take i)) from if_neg hncan]
   refine c_seq ?_
   refine c_plain (.q 0 (.q 1 (.q 2 (.q 3 (.done))))) (by kernel_rfl) ?_
   refine q_move rfl rfl rfl rfl ?_
   refine q_move rfl rfl rfl rfl ?_
   refine q_assign rfl rfl rfl rfl ?_
   refine q_assign rfl rfl rfl rfl ?_
   refine r_done ?_
   refine s_keep [4, 5] (e' := [(4, _), (5, _)]) rfl ?_
   refine k_then_n ?_
   refine c_ret ?_
   refine k_blk_ret ?_
   refine k_then_ret ?_
   refine k_then_ret ?_
   refine k_blk_ret ?_
   refine k_then_ret ?_
   refine ret2 rfl rfl rfl (i) (by rw [if_neg (by omega), show feE (fAll x (xs.take i)) e.1 e.2.1 e.2.2 = 6 from if_neg hncan]) (by exact ⟨by omega, ho, fun _ e2 h2 => by rw [he] at h2; cases h2; exact hncan⟩) ?_
   exact Tf
  ·
   have hcan : canFE (fAll x (xs.take i)) e := Classical.byContradiction fun h => hne (by rw [show feE (fAll x (xs.take i)) e.1 e.2.1 e.2.2 = 6 from if_neg h]; decide)
   refine c_skip ?_
   refine k_blk_n ?_
   refine k_then_n ?_
   refine c_plain (.q 0 (.q 1 (.done))) (by kernel_rfl) ?_
   refine q_int rfl rfl rfl rfl rfl (b_add' _ (by exact fits_i64 (by omega) (by omega))) ?_
   refine q_move rfl rfl rfl rfl ?_
   refine r_done ?_
   refine s_keep [0, 1, 11, 12, 13] (e' := [(0, _), (1, _), (11, _), (12, _), (13, _)]) rfl ?_
   refine k_then_n ?_
   rw [show (feF (fAll x (xs.take i)) e.1 e.2.1 e.2.2) = fAll x (xs.take (i + 1)) from (fAll_next he).symm]
   refine loop_next (x := i) (i + 1) ?_ ?_ ?_ ?_
   · exact ⟨by omega, okF_next he ho hcan⟩
   · show n - (i + 1) < n - i; omega
   · exact ⟨rfl, rfl, rfl, rfl, rfl, trivial⟩
   · (try simp only [List.cons_append, List.nil_append]); exact Tf
 ·
  refine c_exit ?_
  refine k_then_exit ?_
  refine k_then_exit ?_
  refine k_blk_here ?_
  refine k_then_n ?_
  refine c_seq ?_
  refine c_plain (.q 0 (.q 1 (.q 2 (.q 3 (.done))))) (by kernel_rfl) ?_
  refine q_move rfl rfl rfl rfl ?_
  refine q_len rfl rfl rfl rfl Try.underlying26 ?_
  refine q_assign rfl rfl rfl rfl ?_
  refine q_assign rfl rfl rfl rfl ?_
  refine r_done ?_
  refine s_keep [4, 5] (e' := [(4, _), (5, _)]) rfl ?_
  refine k_then_n ?_
  refine c_ret ?_
  obtain rfl : i = n := by omega
  refine ret2 rfl rfl rfl (i) (by rw [if_pos rfl]) (by exact ⟨Nat.le_refl _, ho, fun h => absurd h (Nat.lt_irrefl _)⟩) ?_
  exact Tf
theorem cost_spec (pa : Option Addr) (pc : Nat) (po : Option Addr) (poc b : Nat) (x : FS) (hx : FInv x) : Spec Try.prog 17 [.pointer (some ⟨b, 0, none⟩)] [dfR pa pc po poc b x] (fun (_ : Unit) => .int .i64 x.cost) (fun _ => True) (fun _ => [dfR pa pc po poc b x]) := by
 refine spec_mk (n := 9) Try.func17 rfl rfl rfl ?_
 intro Γ w0
 simp only [argE, List.cons_append, List.nil_append, Nat.zero_add, Nat.reduceAdd]
 refine c_seq ?_
 refine c_plain (.q 0 (.done)) (by kernel_rfl) ?_
 refine q_assign rfl rfl rfl rfl ?_
 refine r_done ?_
 refine k_then_n ?_
 refine c_seq ?_
 refine c_seq ?_
 refine s_take (A := dfR pa pc po poc b x) Tk ?_
 refine df_open fun cb m1 m2 m3 m4 va vc F1 F2 F3 F4 V hV => ?_
 refine c_plain (.q 0 ((.l 1 [] (.done)))) (by kernel_rfl) ?_
 refine q_move rfl rfl rfl rfl ?_
 have sp_1 := Fa.none_spec b cb (.slice po x.v.ck.pa.length poc) (.map (some m1)) (.map (some m2)) (.map (some m3)) (.map (some m4)) (.slice va x.vs.length vc) (.int .i64 x.cost)
 refine l_call rfl rfl rfl rfl rfl rfl Try.call32 (sp_1) Ts ?_
 rintro ⟨⟩ -
 try simp only [List.cons_append, List.nil_append]
 refine ag_nil ?_
 refine r_done ?_
 refine k_then_n ?_
 refine c_cond_f rfl ?_
 refine c_skip ?_
 refine k_then_n ?_
 refine c_seq ?_
 refine c_plain (.q 0 (.q 1 (.q 2 (.q 3 (.q 4 (.done)))))) (by kernel_rfl) ?_
 refine q_move rfl rfl rfl rfl ?_
 refine q_nil_p rfl rfl rfl rfl ?_
 refine q_field (k := 7) rfl rfl rfl rfl Try.underlying81 rfl Try.sizeOf3 rfl ?_
 refine q_load_c (j := 7) rfl rfl rfl rfl Try.isAgg3 Tk (by first | rfl | exact (Nat.add_zero _).symm) (by rfl) ?_
 refine q_assign rfl rfl rfl rfl ?_
 refine r_done ?_
 refine s_keep [2] (e' := [(2, _)]) rfl ?_
 refine k_then_n ?_
 refine c_ret ?_
 refine df_fold (b := b) x (pa := pa) (pc := pc) (po := po) (poc := poc) (cb := cb) (m1 := m1) (m2 := m2) (m3 := m3) (m4 := m4) (va := va) (vc := vc) (F1 := F1) (F2 := F2) (F3 := F3) (F4 := F4) (V := V) Ts (by rfl) (by rfl) (by rfl) (by first | exact hV | simp) ?_
 refine ret1 rfl rfl (()) (by first | rfl | (first | rfl | (congr 1; done) | (congr 1 <;> first | rfl | omega | (simp; done) | (simp; omega)))) (by trivial) ?_
 exact Tf
theorem flags_spec (pa : Option Addr) (pc : Nat) (po : Option Addr) (poc b : Nat) (x : FS) (hx : FInv x) : Spec Try.prog 22 [.pointer (some ⟨b, 0, none⟩)] [dfR pa pc po poc b x] (fun (r : Option Addr × Nat) => .slice r.1 (flFF x.vs).length r.2) (fun r => True) (fun r => [dfR pa pc po poc b x, own 2 enc2 r.1 r.2 (flFF x.vs)]) := by
 refine spec_mk (n := 30) Try.func22 rfl rfl rfl ?_
 intro Γ w0
 simp only [argE, List.cons_append, List.nil_append, Nat.zero_add, Nat.reduceAdd]
 have hva := hx.v.ck.sh.va
 have hvl := hx.len
 refine c_seq ?_
 refine c_plain (.q 0 (.done)) (by kernel_rfl) ?_
 refine q_assign rfl rfl rfl rfl ?_
 refine r_done ?_
 refine k_then_n ?_
 refine c_seq ?_
 refine c_seq ?_
 refine s_take (A := dfR pa pc po poc b x) Tk ?_
 refine df_open fun cb m1 m2 m3 m4 va vc F1 F2 F3 F4 V hV => ?_
 refine c_plain (.q 0 ((.l 1 [] (.done)))) (by kernel_rfl) ?_
 refine q_move rfl rfl rfl rfl ?_
 have sp_1 := Fa.none_spec b cb (.slice po x.v.ck.pa.length poc) (.map (some m1)) (.map (some m2)) (.map (some m3)) (.map (some m4)) (.slice va x.vs.length vc) (.int .i64 x.cost)
 refine l_call rfl rfl rfl rfl rfl rfl Try.call32 (sp_1) Ts ?_
 rintro ⟨⟩ -
 try simp only [List.cons_append, List.nil_append]
 refine ag_nil ?_
 refine r_done ?_
 refine k_then_n ?_
 refine c_cond_f rfl ?_
 refine c_skip ?_
 refine k_then_n ?_
 refine c_seq ?_
 refine c_plain (.q 0 (.done)) (by kernel_rfl) ?_
 refine q_assign rfl rfl rfl rfl ?_
 refine r_done ?_
 refine k_then_n ?_
 refine c_seq ?_
 refine c_seq ?_
 refine c_plain (.q 0 (.q 1 (.q 2 (.q 3 (.q 4 (.q 5 (.done))))))) (by kernel_rfl) ?_
 refine q_move rfl rfl rfl rfl ?_
 refine q_nil_p rfl rfl rfl rfl ?_
 refine q_field (k := 6) rfl rfl rfl rfl Try.underlying81 rfl Try.sizeOf79 rfl ?_
 refine q_load_c (j := 6) rfl rfl rfl rfl Try.isAgg79 Tk (by first | rfl | exact (Nat.add_zero _).symm) (by rfl) ?_
 refine q_len rfl rfl rfl rfl Try.underlying79 ?_
 refine q_move rfl rfl rfl rfl ?_
 refine r_done ?_
 refine s_keep [3, 11, 12, 13] (e' := [(3, _), (11, _), (12, _), (13, _)]) rfl ?_
 refine k_then_n ?_
 refine c_block ?_
 refine s_heap (fun _ h => own_nil (sz := 2) (enc := enc2) h) ?_
 refine c_loop2 (α := Nat × Option Addr × Nat) (fun (x_ : Nat × Option Addr × Nat) => match x_ with | (k, ga, gc) => k ≤ x.vs.length) (fun (x_ : Nat × Option Addr × Nat) => match x_ with | (k, ga, gc) => [(3, .slice ga ((flFF (x.vs.take k)).length) gc), (13, .int .i64 ((k : Nat) : Int))]) (fun (x_ : Nat × Option Addr × Nat) => match x_ with | (k, ga, gc) => [restL fvarA V x.vs [], own 2 enc2 ga gc (flFF (x.vs.take k))]) (fun (x_ : Nat × Option Addr × Nat) => match x_ with | (k, ga, gc) => x.vs.length - k) [11, 12] (er := [(11, _), (12, _)]) rfl (0, none, 0) ?_ (by exact ⟨rfl, rfl, trivial⟩) (by (try dsimp only); (try simp only [Nat.add_zero, Nat.zero_add]); rw [List.take_zero, show flFF ([] : List V4F) = [] from rfl]; (repeat ((with_reducible apply Z2); focus (first | (with_reducible (repeat (first | exact Z0 | apply Z1)); done) | (repeat (first | exact Z0 | apply Z1))))); exact Z3) ?_
 · exact Nat.zero_le _
 rintro ⟨k, ga, gc⟩ hle_k
 try simp only [List.cons_append, List.nil_append]
 have hfl := flFF_len (x.vs.take k)
 rw [List.length_take] at hfl
 refine c_seq ?_
 refine c_plain (.q 0 (.done)) (by kernel_rfl) ?_
 refine q_int rfl rfl rfl rfl rfl (b_lss _ _ _ _) ?_
 refine r_done ?_
 refine k_then_n ?_
 refine c_seq ?_
 refine c_cond_p rfl (fun hlt => ?_) (fun hlt => ?_)
 ·
  obtain ⟨w, hw⟩ := get_lt (l := x.vs) (i := k) (by omega)
  refine s_restL_take (res := fvarA) (V := V) (Y := x.vs) (S := []) k Tk (by simp) hw fun v_ hv_ => ?_
  obtain ⟨w0_, r0, so, f0⟩ := v_
  refine s_fvar Tk fun he1 he2 he3 => ?_
  simp only at he1 he2 he3
  refine c_skip ?_
  refine k_then_n ?_
  refine c_seq ?_
  refine c_block ?_
  refine c_seq ?_
  refine c_plain (.q 0 (.q 1 (.q 2 ((.l 3 [] (.q 4 ((.l 5 [] (.done))))))))) (by kernel_rfl) ?_
  refine q_move rfl rfl rfl rfl ?_
  refine q_idxO (sz := 3) (k := k) (enc := encF) (xs := V) rfl rfl rfl rfl rfl Try.underlying79 Try.sizeOf88 hv_ (by first | rfl | omega) (by omega) Tk ?_
  intro ib16 io16 ha16 hl16 hc16
  refine q_loadN_O (j := 0) (k' := k) (us := [_, _, _, _]) (enc := encF) (off := io16) rfl rfl rfl rfl Try.isAgg88 Try.sizeOf88 ha16 encF_len hv_ Tk (by first | rfl | exact (Nat.add_zero _).symm | omega) (by rfl) rfl ?_
  refine l_alloc rfl rfl rfl Try.zeroValue88 (zs := [.int .u64 0, .int .u64 0, .pointer none, .int .i64 0]) rfl ?_
  intro b5
  refine ag_nil ?_
  refine q_assign rfl rfl rfl rfl ?_
  refine l_store (j := 0) rfl rfl rfl rfl Try.sizeOf88 (us := [_, _, _, _]) rfl rfl rfl Tk (by first | rfl | exact (Nat.add_zero _).symm) (by first | decide | (simp; done) | omega) ?_
  simp only [setL, List.set]
  refine ag_nil ?_
  refine r_done ?_
  refine s_keep [3, 4, 5, 11, 12, 13] (e' := [(3, _), (4, _), (5, _), (11, _), (12, _), (13, _)]) rfl ?_
  refine k_then_n ?_
  refine c_seq ?_
  refine c_plain (.q 0 (.q 1 (.q 2 (.done)))) (by kernel_rfl) ?_
  refine q_field (k := 3) rfl rfl rfl rfl Try.underlying88 rfl Try.sizeOf3 rfl ?_
  refine q_load_c (j := 3) rfl rfl rfl rfl Try.isAgg3 Tk (by first | rfl | exact (Nat.add_zero _).symm) (by rfl) ?_
  refine q_int rfl rfl rfl rfl rfl (b_geq _ _ _ _) ?_
  refine r_done ?_
  refine k_then_n ?_
  refine c_cond_p rfl (fun hfg => ?_) (fun hfg => ?_)
  ·
   refine c_plain (.q 0 (.q 1 (.q 2 (.q 3 (.q 4 ((.l 5 [] ((.l 6 [] (.q 7 (.done))))))))))) (by kernel_rfl) ?_
   refine q_move rfl rfl rfl rfl ?_
   refine q_move rfl rfl rfl rfl ?_
   refine q_field (k := 3) rfl rfl rfl rfl Try.underlying88 rfl Try.sizeOf3 rfl ?_
   refine q_load_c (j := 3) rfl rfl rfl rfl Try.isAgg3 Tk (by first | rfl | exact (Nat.add_zero _).symm) (by rfl) ?_
   refine q_build rfl rfl rfl rfl (vs := [_, _]) (run_buildS Try.underlying101 Try.zeroValue101 (ps := [(0, 1), (1, 1)]) ⟨rfl, Try.sizeOf3, rfl, Try.sizeOf3, trivial⟩ rfl) ?_
   refine l_buildSlice rfl rfl rfl rfl (run_build1 (us := [_, _]) Try.underlying61 Try.sizeOf101 rfl Try.zeroValue101 rfl rfl rfl) ?_
   intro b26
   refine ag_nil ?_
   refine l_append (sz := 2) (enc := enc2) (xs := (flFF (x.vs.take k))) rfl rfl rfl rfl rfl Try.underlying61 Try.typeInfo101 rfl rfl rfl (by decide) Tk Tk (by first | rfl | omega | (simp; done) | (simp; omega)) (ys := [(((k : Nat) : Int), f0)]) (rds_some rdn_cells) (by rfl) (by first | rfl | omega) (enc2_len) (enc2_one) (by omega) (by show _ * 16 ≤ _; omega) ?_
   intro ao27 cp27
   refine ag_nil ?_
   refine q_assign rfl rfl rfl rfl ?_
   refine r_done ?_
   refine s_keep [3, 11, 12, 13] (e' := [(3, _), (11, _), (12, _), (13, _)]) rfl ?_
   refine k_blk_n ?_
   refine k_then_n ?_
   refine c_plain (.q 0 (.q 1 (.done))) (by kernel_rfl) ?_
   refine q_int rfl rfl rfl rfl rfl (b_add' _ (by exact fits_i64 (by omega) (by omega))) ?_
   refine q_move rfl rfl rfl rfl ?_
   refine r_done ?_
   refine k_then_n ?_
   have hnx := flFF_next hw
   rw [if_pos (by rw [← he3]; exact hfg)] at hnx
   rw [show ((k : Int), w.2.2.2) = ((k : Int), f0) from by rw [← he3]] at hnx
   rw [← hnx]
   refine s_fvarF (w0_, r0, so, f0) w Td he1 he2 he3 ?_
   refine s_restL_back (res := fvarA) (V := V) (Y := x.vs) (S := []) k Ts (by simp) hv_ hw ?_
   refine s_eq 3 rfl (v' := .slice ao27 (flFF (x.vs.take (k + 1))).length cp27) (by rw [hnx, List.length_append]; rfl) ?_
   refine s_eq 3 rfl (v' := .slice ao27 ((flFF (x.vs.take (k + 1))).length) cp27) (by first | rfl | (congr 1; done) | (congr 1 <;> first | rfl | omega | (simp; done) | (simp; omega))) ?_
   refine loop_next (x := (k, ga, gc)) ((k + 1, ao27, cp27)) ?_ ?_ ?_ ?_
   · try dsimp only
     omega
   · show x.vs.length - (k + 1) < x.vs.length - k; omega
   · exact ⟨rfl, rfl, rfl, rfl, trivial⟩
   · (try simp only [List.cons_append, List.nil_append]); exact Tf
  ·
   refine c_skip ?_
   refine k_blk_n ?_
   refine k_then_n ?_
   refine c_plain (.q 0 (.q 1 (.done))) (by kernel_rfl) ?_
   refine q_int rfl rfl rfl rfl rfl (b_add' _ (by exact fits_i64 (by omega) (by omega))) ?_
   refine q_move rfl rfl rfl rfl ?_
   refine r_done ?_
   refine s_keep [3, 11, 12, 13] (e' := [(3, _), (11, _), (12, _), (13, _)]) rfl ?_
   refine k_then_n ?_
   have hnx := flFF_next hw
   rw [if_neg (by rw [← he3]; exact hfg), List.append_nil] at hnx
   rw [← hnx]
   refine s_fvarF (w0_, r0, so, f0) w Td he1 he2 he3 ?_
   refine s_restL_back (res := fvarA) (V := V) (Y := x.vs) (S := []) k Ts (by simp) hv_ hw ?_
   refine s_eq 3 rfl (v' := .slice ga ((flFF (x.vs.take (k + 1))).length) gc) (by first | rfl | (congr 1; done) | (congr 1 <;> first | rfl | omega | (simp; done) | (simp; omega))) ?_
   refine loop_next (x := (k, ga, gc)) ((k + 1, ga, gc)) ?_ ?_ ?_ ?_
   · try dsimp only
     omega
   · show x.vs.length - (k + 1) < x.vs.length - k; omega
   · exact ⟨rfl, rfl, rfl, rfl, trivial⟩
   · (try simp only [List.cons_append, List.nil_append]); exact Tf
 ·
  refine c_exit ?_
  refine k_then_exit ?_
  refine k_then_exit ?_
  refine k_blk_here ?_
  refine k_then_n ?_
  refine c_seq ?_
  refine c_plain (.q 0 (.q 1 (.done))) (by kernel_rfl) ?_
  refine q_move rfl rfl rfl rfl ?_
  refine q_assign rfl rfl rfl rfl ?_
  refine r_done ?_
  refine s_keep [2] (e' := [(2, _)]) rfl ?_
  refine k_then_n ?_
  refine c_ret ?_
  obtain rfl : k = x.vs.length := by omega
  rw [List.take_length]
  refine df_fold (b := b) x (pa := pa) (pc := pc) (po := po) (poc := poc) (cb := cb) (m1 := m1) (m2 := m2) (m3 := m3) (m4 := m4) (va := va) (vc := vc) (F1 := F1) (F2 := F2) (F3 := F3) (F4 := F4) (V := V) Ts (by rfl) (by rfl) (by rfl) (by first | exact hV | simp) ?_
  refine ret1 rfl rfl ((ga, gc)) (by first | rfl | (first | rfl | (congr 1; done) | (congr 1 <;> first | rfl | omega | (simp; done) | (simp; omega)))) (by trivial) ?_
  exact Tf
end Go.Ab.Fa
set_option linter.unusedVariables false
set_option linter.unusedSimpArgs false
set_option maxRecDepth 100000
namespace Go.Ab.Fa
open Go Go.Proofs Go.Ab Go.Ab.Fe Go.Ab.Vc Go.Ab.Dj
theorem new_spec (th va vo lk : Int) (pl : List Int) (ao : Option Addr) (n c : Nat) (A : HProp) (hr : RdS A ao (pl.flatMap encZ)) (hn : pl.length = n) (hb : n ≤ 4000000) (hok : OkS th va vo lk pl) : Spec Try.prog 9 [.agg #[.int .i64 th, .int .i64 va, .int .i64 vo, .int .i64 lk, .slice ao n c]] [A] (fun (r : Nat × (Option Addr × Nat) × Option Addr × Nat) => .tuple #[.pointer (some ⟨r.1, 0, none⟩), .int .i64 0]) (fun r => True) (fun r => [A, own 1 encZ r.2.1.1 r.2.1.2 pl, own 1 encZ r.2.2.1 r.2.2.2 pl, dfR r.2.1.1 r.2.1.2 r.2.2.1 r.2.2.2 r.1 (fNew th va vo lk pl)]) := by
 refine spec_mk (n := 52) Try.func9 rfl rfl rfl ?_
 intro Γ w0
 simp only [argE, List.cons_append, List.nil_append, Nat.zero_add, Nat.reduceAdd]
 refine c_seq ?_
 refine c_plain ((.l 0 [] (.q 1 (.q 2 (.done))))) (by kernel_rfl) ?_
 refine l_box rfl rfl rfl rfl (us := [_, _, _, _, _]) rfl ?_
 intro b1
 refine ag_nil ?_
 refine q_assign rfl rfl rfl rfl ?_
 refine q_assign rfl rfl rfl rfl ?_
 refine r_done ?_
 refine k_then_n ?_
 refine c_seq ?_
 refine c_plain (.q 0 ((.l 1 [] (.q 2 (.q 3 (.q 4 (.q 5 (.q 6 (.done))))))))) (by kernel_rfl) ?_
 refine q_loadN_c rfl rfl rfl rfl Try.isAgg25 Try.sizeOf25 Tk 0 (us := [_, _, _, _, _]) (by first | rfl | exact (Nat.add_zero _).symm) rfl rfl ?_
 have sp_1 := Fe.new_spec th va vo lk pl ao n c A (hr) (by first | rfl | assumption | omega | (simp; done) | (simp; omega)) (by omega) hok
 refine l_call rfl rfl rfl rfl rfl rfl Try.call27 (sp_1) Ts ?_
 rintro ⟨nb, nbp, nbc⟩ -
 try simp only [List.cons_append, List.nil_append]
 refine ag_nil ?_
 refine q_move rfl rfl rfl rfl ?_
 refine q_extract rfl rfl rfl rfl rfl ?_
 refine q_extract rfl rfl rfl rfl rfl ?_
 refine q_assign rfl rfl rfl rfl ?_
 refine q_assign rfl rfl rfl rfl ?_
 refine r_done ?_
 refine s_keep [1, 4, 5] (e' := [(1, _), (4, _), (5, _)]) rfl ?_
 refine k_then_n ?_
 refine c_seq ?_
 refine c_seq ?_
 refine c_plain (.q 0 (.q 1 (.done))) (by kernel_rfl) ?_
 refine q_move rfl rfl rfl rfl ?_
 refine q_int rfl rfl rfl rfl rfl (b_neq _ _ _ _) ?_
 refine s_eq 13 rfl (v' := .bool false) (by first | rfl | simp) ?_
 refine r_done ?_
 refine k_then_n ?_
 refine c_cond_f rfl ?_
 refine c_skip ?_
 refine k_then_n ?_
 refine c_seq ?_
 refine c_plain (.q 0 (.q 1 (.q 2 ((.l 3 [] ((.l 4 [] ((.l 5 [] ((.l 6 [] ((.l 7 [] (.q 8 ((.l 9 [] (.q 10 (.done)))))))))))))))))) (by kernel_rfl) ?_
 refine q_move rfl rfl rfl rfl ?_
 refine q_field (k := 4) rfl rfl rfl rfl Try.underlying25 rfl Try.sizeOf23 rfl ?_
 refine q_load_c (j := 4) rfl rfl rfl rfl Try.isAgg23 Tk (by first | rfl | exact (Nat.add_zero _).symm) (by rfl) ?_
 have sp_2 := Fe.clonez_spec pl ao n c A (by first | rfl | assumption | omega | (simp; done) | (simp; omega)) (hr) (by omega)
 refine l_call rfl rfl rfl rfl rfl rfl Try.call28 (sp_2) Ts ?_
 rintro ⟨qa, qc⟩ -
 try simp only [List.cons_append, List.nil_append]
 refine ag_nil ?_
 refine l_makeMap Int (Option Addr) ekZ evA rfl rfl rfl ?_
 intro m1
 refine ag_nil ?_
 refine l_makeMap Int (Option Addr) ekZ evA rfl rfl rfl ?_
 intro m2
 refine ag_nil ?_
 refine l_makeMap Int (Option Addr) ekZ evA rfl rfl rfl ?_
 intro m3
 refine ag_nil ?_
 refine l_makeMap (Int × Int) (Option Addr) ek2 evA rfl rfl rfl ?_
 intro m4
 refine ag_nil ?_
 refine q_build rfl rfl rfl rfl (vs := [_, _, _, _, _, _, _, _]) (run_buildS Try.underlying81 Try.zeroValue81 (ps := [(0, 1), (1, 1), (2, 1), (3, 1), (4, 1), (5, 1), (6, 1), (7, 1)]) ⟨rfl, Try.sizeOf76, rfl, Try.sizeOf23, rfl, Try.sizeOf77, rfl, Try.sizeOf77, rfl, Try.sizeOf77, rfl, Try.sizeOf78, rfl, Try.sizeOf79, rfl, Try.sizeOf3, trivial⟩ rfl) ?_
 refine l_box rfl rfl rfl rfl (us := [_, _, _, _, _, _, _, _]) rfl ?_
 intro bd
 refine ag_nil ?_
 refine q_assign rfl rfl rfl rfl ?_
 refine r_done ?_
 refine s_keep [1, 6] (e' := [(1, _), (6, _)]) rfl ?_
 refine k_then_n ?_
 refine c_seq ?_
 refine c_seq ?_
 obtain ⟨nv, hnv⟩ : ∃ q : Nat, va = (q : Int) := ⟨va.toNat, by have := hok.va; omega⟩
 have hvb := hok.va
 refine s_restL_nil (res := fvarA) ?_
 refine s_heap (fun _ h => own_nil (sz := 4) (enc := encF) h) ?_
 refine c_plain (.q 0 (.q 1 (.q 2 (.done)))) (by kernel_rfl) ?_
 refine q_field (k := 1) rfl rfl rfl rfl Try.underlying25 rfl Try.sizeOf3 rfl ?_
 refine q_load_c (j := 1) rfl rfl rfl rfl Try.isAgg3 Tk (by first | rfl | exact (Nat.add_zero _).symm) (by rfl) ?_
 refine s_eq 26 rfl (v' := .int .i64 ((nv : Nat) : Int)) (by rw [hnv]) ?_
 refine q_move rfl rfl rfl rfl ?_
 refine r_done ?_
 refine k_then_n ?_
 refine c_block ?_
 refine c_loop2 (α := Nat × List P4F × Option Addr × Nat) (fun (x_ : Nat × List P4F × Option Addr × Nat) => match x_ with | (k, GV, ga, gc) => k ≤ nv ∧ (GV.length = k)) (fun (x_ : Nat × List P4F × Option Addr × Nat) => match x_ with | (k, GV, ga, gc) => [(27, .int .i64 ((k : Nat) : Int))]) (fun (x_ : Nat × List P4F × Option Addr × Nat) => match x_ with | (k, GV, ga, gc) => [restL fvarA GV (List.replicate k f0V) [], cells bd 0 [.pointer (some ⟨nb, 0, none⟩), .slice qa n qc, .map (some m1), .map (some m2), .map (some m3), .map (some m4), .slice ga GV.length gc, .int .i64 0], own 4 encF ga gc GV]) (fun (x_ : Nat × List P4F × Option Addr × Nat) => match x_ with | (k, GV, ga, gc) => nv - k) [6, 26] (er := [(6, _), (26, _)]) rfl (0, ([] : List P4F), none, 0) ?_ (by exact ⟨rfl, trivial⟩) (by (try dsimp only); (try simp only [Nat.add_zero, Nat.zero_add]); (repeat ((with_reducible apply Z2); focus (first | (with_reducible (repeat (first | exact Z0 | apply Z1)); done) | (repeat (first | exact Z0 | apply Z1))))); exact Z3) ?_
 · exact ⟨Nat.zero_le _, rfl⟩
 rintro ⟨k, GV, ga, gc⟩ ⟨hle_k, hGV⟩
 try simp only [List.cons_append, List.nil_append]
 refine c_seq ?_
 refine c_plain (.q 0 (.done)) (by kernel_rfl) ?_
 refine q_int rfl rfl rfl rfl rfl (b_lss _ _ _ _) ?_
 refine r_done ?_
 refine k_then_n ?_
 refine c_seq ?_
 refine c_cond_p rfl (fun hlt => ?_) (fun hlt => ?_)
 ·
  refine c_skip ?_
  refine k_then_n ?_
  refine c_seq ?_
  refine c_block ?_
  refine c_plain (.q 0 (.q 1 (.q 2 (.q 3 (.q 4 (.q 5 ((.l 6 [] ((.l 7 [] (.q 8 (.q 9 ((.l 10 [] (.done))))))))))))))) (by kernel_rfl) ?_
  refine q_move rfl rfl rfl rfl ?_
  refine q_move rfl rfl rfl rfl ?_
  refine q_nil_p rfl rfl rfl rfl ?_
  refine q_field (k := 6) rfl rfl rfl rfl Try.underlying81 rfl Try.sizeOf79 rfl ?_
  refine q_load_c (j := 6) rfl rfl rfl rfl Try.isAgg79 Tk (by first | rfl | exact (Nat.add_zero _).symm) (by rfl) ?_
  refine q_build rfl rfl rfl rfl (vs := [_, _, _, _]) (run_buildS Try.underlying88 Try.zeroValue88 (ps := [(0, 1), (1, 1), (2, 1), (3, 1)]) ⟨rfl, Try.sizeOf49, rfl, Try.sizeOf49, rfl, Try.sizeOf86, rfl, Try.sizeOf3, trivial⟩ rfl) ?_
  refine l_buildSlice rfl rfl rfl rfl (run_build1 (us := [_, _, _, _]) Try.underlying79 Try.sizeOf88 rfl Try.zeroValue88 rfl rfl rfl) ?_
  intro b35
  refine ag_nil ?_
  refine l_append (sz := 4) (enc := encF) (xs := GV) rfl rfl rfl rfl rfl Try.underlying79 Try.typeInfo88 rfl rfl rfl (by decide) Tk Tk (by first | rfl | omega | (simp; done) | (simp; omega)) (ys := [(0, 0, none, (-1))]) (rds_some rdn_cells) (by rfl) (by first | rfl | omega) (encF_len) (encF_one) (by omega) (by show _ * 32 ≤ _; omega) ?_
  intro ao36 cp36
  refine ag_nil ?_
  refine q_nil_p rfl rfl rfl rfl ?_
  refine q_field (k := 6) rfl rfl rfl rfl Try.underlying81 rfl Try.sizeOf79 rfl ?_
  refine l_store (j := 6) rfl rfl rfl rfl Try.sizeOf79 (us := [_]) rfl rfl rfl Tk (by first | rfl | exact (Nat.add_zero _).symm) (by first | decide | (simp; done) | omega) ?_
  simp only [setL, List.set]
  refine ag_nil ?_
  refine r_done ?_
  refine s_optNF ?_
  refine s_fvarF ((0, 0, none, -1) : P4F) f0V Td rfl rfl rfl ?_
  refine s_restL_push ((0, 0, none, -1) : P4F) f0V Ts (by simp [hGV]) ?_
  rw [← List.replicate_succ']
  refine s_keep [6, 26, 27] (e' := [(6, _), (26, _), (27, _)]) rfl ?_
  refine k_blk_n ?_
  refine k_then_n ?_
  refine c_plain (.q 0 (.q 1 (.done))) (by kernel_rfl) ?_
  refine q_int rfl rfl rfl rfl rfl (b_add' _ (by exact fits_i64 (by omega) (by omega))) ?_
  refine q_move rfl rfl rfl rfl ?_
  refine r_done ?_
  refine k_then_n ?_
  have hgl2 : (GV ++ [((0, 0, none, -1) : P4F)]).length = GV.length + 1 := by simp
  refine s_take (A := cells bd 0 [.pointer (some ⟨nb, 0, none⟩), .slice qa n qc, .map (some m1), .map (some m2), .map (some m3), .map (some m4), .slice ao36 (GV.length + 1) cp36, .int .i64 0]) Td ?_
  refine s_heap (Γ' := cells bd 0 [.pointer (some ⟨nb, 0, none⟩), .slice qa n qc, .map (some m1), .map (some m2), .map (some m3), .map (some m4), .slice ao36 ((GV ++ [((0, 0, none, -1) : P4F)]).length) cp36, .int .i64 0] :: _) (fun _ h => (by rw [hgl2]; exact h)) ?_
  refine loop_next (x := (k, GV, ga, gc)) ((k + 1, GV ++ [((0, 0, none, -1) : P4F)], ao36, cp36)) ?_ ?_ ?_ ?_
  · try dsimp only
    exact ⟨by omega, by simp [hGV]⟩
  · show nv - (k + 1) < nv - k; omega
  · exact ⟨rfl, rfl, rfl, trivial⟩
  · (try simp only [List.cons_append, List.nil_append]); exact Tf
 ·
  refine c_exit ?_
  refine k_then_exit ?_
  refine k_then_exit ?_
  refine k_blk_here ?_
  refine k_then_n ?_
  refine c_seq ?_
  refine c_draw rfl (.q 0 (.q 1 (.q 2 (.q 3 ((.l 4 [3] ((.l 5 [] (.done))))))))) (by kernel_rfl) ?_
  refine q_move rfl rfl rfl rfl ?_
  refine q_nil_p rfl rfl rfl rfl ?_
  refine q_field (k := 2) rfl rfl rfl rfl Try.underlying81 rfl Try.sizeOf77 rfl ?_
  refine q_load_c (j := 2) rfl rfl rfl rfl Try.isAgg77 Tk (by first | rfl | exact (Nat.add_zero _).symm) (by rfl) ?_
  have sp_3 := cnew_spec
  refine l_call rfl rfl rfl rfl rfl rfl Try.call29 (sp_3) Ts ?_
  rintro tb -
  try simp only [List.cons_append, List.nil_append]
  refine ag_load_c (q := 2) rfl rfl rfl Try.isAgg77 Tk (by first | rfl | exact (Nat.add_zero _).symm) (by rfl) ?_
  refine ag_nil ?_
  refine l_mapUpd (ek := ekZ) (ev1 := evA) (F := (noF : Int → Option (Option Addr))) (m := m1) (k := 0) (v := (some ⟨tb, 0, none⟩ : Option Addr)) (by first | exact .inl rfl | exact .inr rfl) rfl rfl rfl rfl Try.underlying77 (keyOK_int Try.underlying3) Tk ?_
  refine ag_nil ?_
  refine r_done ?_
  refine s_keep [6] (e' := [(6, _)]) rfl ?_
  refine k_then_n ?_
  refine c_seq ?_
  refine c_plain (.q 0 (.q 1 (.q 2 (.q 3 (.q 4 ((.l 5 [] (.done)))))))) (by kernel_rfl) ?_
  refine q_move rfl rfl rfl rfl ?_
  refine q_nil_p rfl rfl rfl rfl ?_
  refine q_field (k := 2) rfl rfl rfl rfl Try.underlying81 rfl Try.sizeOf77 rfl ?_
  refine q_load_c (j := 2) rfl rfl rfl rfl Try.isAgg77 Tk (by first | rfl | exact (Nat.add_zero _).symm) (by rfl) ?_
  refine q_lookup1 (ek := ekZ) (ev1 := evA) (F := (upd (noF : Int → Option (Option Addr)) 0 (some (some ⟨tb, 0, none⟩ : Option Addr)))) (m := m1) (k := 0) none rfl rfl rfl rfl rfl Try.underlying77 (keyOK_int Try.underlying3) Try.zeroValue86 Tk ?_
  refine s_eq 49 rfl (v' := .pointer (some ⟨tb, 0, none⟩)) (by simp only [upd_same]; rfl) ?_
  refine s_heap (fun _ h => own_nil (sz := 1) (enc := encU) h) ?_
  have sp_4 := Vc.set_spec tb ([] : List Int) none 0 0 (by first | rfl | assumption | omega | (simp; done) | (simp; omega)) nil_cv 0 (by omega) 1 (by decide) (by decide)
  refine l_call rfl rfl rfl rfl rfl rfl Try.call30 (sp_4) Ts ?_
  rintro ⟨sa, sc⟩ -
  try simp only [List.cons_append, List.nil_append]
  refine ag_nil ?_
  refine r_done ?_
  refine s_keep [6] (e' := [(6, _)]) rfl ?_
  refine k_then_n ?_
  refine c_seq ?_
  refine c_plain (.q 0 (.q 1 (.q 2 (.done)))) (by kernel_rfl) ?_
  refine q_move rfl rfl rfl rfl ?_
  refine q_assign rfl rfl rfl rfl ?_
  refine q_assign rfl rfl rfl rfl ?_
  refine r_done ?_
  refine k_then_n ?_
  refine c_ret ?_
  obtain rfl : k = nv := by omega
  have hs1 : stL [] 0 1 = [1] := by decide
  rw [hs1]
  refine s_vecF tb sa sc [1] Ts ?_
  refine s_rest_new (res := vecA) (noF : Int → Option (Option Addr)) (noF : Int → Option (List Int)) (fun _ => rfl) (fun _ => rfl) ?_
  refine s_rest_opt (F := (noF : Int → Option (Option Addr))) (T := (noF : Int → Option (List Int))) (S := []) (0 : Int) Tk (by simp) fun _ => ?_
  refine s_rest_put (F := (noF : Int → Option (Option Addr))) (T := (noF : Int → Option (List Int))) (S := []) (0 : Int) (upd noF 0 (some (some ⟨tb, 0, none⟩))) (upd noF 0 (some [1])) Ts (by simp) upd_same (fun q h _ => upd_ne h) upd_same (fun q h _ => upd_ne h) ?_
  refine s_rest_new (res := vecA) (noF : Int → Option (Option Addr)) (noF : Int → Option (List Int)) (fun _ => rfl) (fun _ => rfl) ?_
  refine s_rest_new (res := vecA) (noF : Int → Option (Option Addr)) (noF : Int → Option (List Int)) (fun _ => rfl) (fun _ => rfl) ?_
  refine s_rest_new (res := keptA) (noF : Int × Int → Option (Option Addr)) (noF : Int × Int → Option (List Int × Int)) (fun _ => rfl) (fun _ => rfl) ?_
  refine df_fold (b := bd) (fNew th va vo lk pl) (pa := nbp) (pc := nbc) (po := qa) (poc := qc) (cb := nb) (m1 := m1) (m2 := m2) (m3 := m3) (m4 := m4) (va := ga) (vc := gc) (V := GV) Ts (by rw [fNew, hnv, Int.toNat_natCast]; rfl) (by exact hn.symm) (by rw [hGV, List.length_replicate]) (by rw [hGV, List.length_replicate]) ?_
  refine ret2 rfl rfl rfl ((bd, (nbp, nbc), qa, qc)) (by first | rfl | (first | rfl | (congr 1; done) | (congr 1 <;> first | rfl | omega | (simp; done) | (simp; omega)))) (by trivial) ?_
  exact Tf
theorem newbad_spec (th va vo lk : Int) (pl : List Int) (ao : Option Addr) (n c : Nat) (A : HProp) (hr : RdS A ao (pl.flatMap encZ)) (hn : pl.length = n) (hb : n ≤ 4000000) (hok : ¬ OkS th va vo lk pl) : Spec Try.prog 9 [.agg #[.int .i64 th, .int .i64 va, .int .i64 vo, .int .i64 lk, .slice ao n c]] [A] (fun (_ : Unit) => .tuple #[.pointer none, .int .i64 5]) (fun _ => True) (fun _ => [A]) := by
 refine spec_mk (n := 52) Try.func9 rfl rfl rfl ?_
 intro Γ w0
 simp only [argE, List.cons_append, List.nil_append, Nat.zero_add, Nat.reduceAdd]
 refine c_seq ?_
 refine c_plain ((.l 0 [] (.q 1 (.q 2 (.done))))) (by kernel_rfl) ?_
 refine l_box rfl rfl rfl rfl (us := [_, _, _, _, _]) rfl ?_
 intro b1
 refine ag_nil ?_
 refine q_assign rfl rfl rfl rfl ?_
 refine q_assign rfl rfl rfl rfl ?_
 refine r_done ?_
 refine k_then_n ?_
 refine c_seq ?_
 refine c_plain (.q 0 ((.l 1 [] (.q 2 (.q 3 (.q 4 (.q 5 (.q 6 (.done))))))))) (by kernel_rfl) ?_
 refine q_loadN_c rfl rfl rfl rfl Try.isAgg25 Try.sizeOf25 Tk 0 (us := [_, _, _, _, _]) (by first | rfl | exact (Nat.add_zero _).symm) rfl rfl ?_
 have sp_2 := Fe.newbad_spec th va vo lk pl ao n c A (hr) (by first | rfl | assumption | omega | (simp; done) | (simp; omega)) (by omega) hok
 refine l_call rfl rfl rfl rfl rfl rfl Try.call27 (sp_2) Ts ?_
 rintro ⟨⟩ -
 try simp only [List.cons_append, List.nil_append]
 refine ag_nil ?_
 refine q_move rfl rfl rfl rfl ?_
 refine q_extract rfl rfl rfl rfl rfl ?_
 refine q_extract rfl rfl rfl rfl rfl ?_
 refine q_assign rfl rfl rfl rfl ?_
 refine q_assign rfl rfl rfl rfl ?_
 refine r_done ?_
 refine s_keep [1, 4, 5] (e' := [(1, _), (4, _), (5, _)]) rfl ?_
 refine k_then_n ?_
 refine c_seq ?_
 refine c_seq ?_
 refine c_plain (.q 0 (.q 1 (.done))) (by kernel_rfl) ?_
 refine q_move rfl rfl rfl rfl ?_
 refine q_int rfl rfl rfl rfl rfl (b_neq _ _ _ _) ?_
 refine s_eq 13 rfl (v' := .bool true) (by first | rfl | simp) ?_
 refine r_done ?_
 refine k_then_n ?_
 refine c_cond_t rfl ?_
 refine c_seq ?_
 refine c_plain (.q 0 (.q 1 (.q 2 (.done)))) (by kernel_rfl) ?_
 refine q_move rfl rfl rfl rfl ?_
 refine q_assign rfl rfl rfl rfl ?_
 refine q_assign rfl rfl rfl rfl ?_
 refine r_done ?_
 refine s_keep [2, 3] (e' := [(2, _), (3, _)]) rfl ?_
 refine k_then_n ?_
 refine c_ret ?_
 refine k_then_ret ?_
 refine ret2 rfl rfl rfl (()) (by first | rfl | (first | rfl | (congr 1; done) | (congr 1 <;> first | rfl | omega | (simp; done) | (simp; omega)))) (by trivial) ?_
 exact Tf
end Go.Ab.Fa
set_option linter.unusedVariables false
set_option linter.unusedSimpArgs false
set_option maxRecDepth 100000
namespace Go.Ab.Fa
open Go Go.Proofs Go.Ab Go.Ab.Fe Go.Ab.Vc Go.Ab.Dj
def xk0 : FS := fNew 2 1 0 0 []
def ek : List T3 := [(7, 0, 1), (2, 0, 0), (2, 1, 0), (10, 0, 0)]
def xk3 : FS := fAll xk0 (ek.take 3)
theorem okk : OkS 2 1 0 0 [] := okS_iff.2 (by decide)
theorem xk0_inv : FInv xk0 := new_finv okk (new_inv okk)
theorem xk3_inv : FInv xk3 := fAll_inv xk0_inv _
theorem ek_can : (canFE (fAll xk0 (ek.take 0)) (7, 0, 1) ∧ canFE (fAll xk0 (ek.take 1)) (2, 0, 0) ∧ canFE (fAll xk0 (ek.take 2)) (2, 1, 0)) ∧ ¬ canFE (fAll xk0 (ek.take 3)) (10, 0, 0) := by decide +kernel
theorem ek_three : ∀ i : Nat, i ≤ 4 → okFAll xk0 (ek.take i) → (i < 4 → ∀ e, ek[i]? = some e → ¬ canFE (fAll xk0 (ek.take i)) e) → i = 3 := by
  intro i h1 ho h2
  obtain ⟨⟨c0, c1, c2⟩, c3⟩ := ek_can
  rcases (show i = 0 ∨ i = 1 ∨ i = 2 ∨ i = 3 ∨ i = 4 by omega) with rfl | rfl | rfl | rfl | rfl
  · exact absurd c0 (h2 (by decide) _ rfl)
  · exact absurd c1 (h2 (by decide) _ rfl)
  · exact absurd c2 (h2 (by decide) _ rfl)
  · rfl
  · exact absurd (ho 3 (10, 0, 0) rfl) c3
theorem xk3_flags : flFF xk3.vs = [(0, 2)] := by decide +kernel
theorem fflags_same (xs ys : List T2) (ao bo : Option Addr) (n m c d : Nat) (A : HProp) (hn : xs.length = n) (hr : RdS A ao (xs.flatMap enc2)) (hm : ys.length = m) (hr2 : RdS A bo (ys.flatMap enc2)) (hb : n ≤ 4000000000000) : Spec Try.prog 21 [.slice ao n c, .slice bo m d] [A] (fun (_ : Unit) => .bool (decide (xs = ys))) (fun _ => True) (fun _ => [A]) := by
 refine spec_mk (n := 26) Try.func21 rfl rfl rfl ?_
 intro Γ w0
 simp only [argE, List.cons_append, List.nil_append, Nat.zero_add, Nat.reduceAdd]
 refine c_seq ?_
 refine c_plain (.q 0 (.done)) (by kernel_rfl) ?_
 refine q_assign rfl rfl rfl rfl ?_
 refine r_done ?_
 refine k_then_n ?_
 refine c_seq ?_
 refine c_seq ?_
 refine c_plain (.q 0 (.q 1 (.q 2 (.q 3 (.q 4 (.done)))))) (by kernel_rfl) ?_
 refine q_move rfl rfl rfl rfl ?_
 refine q_len rfl rfl rfl rfl Try.underlying61 ?_
 refine q_move rfl rfl rfl rfl ?_
 refine q_len rfl rfl rfl rfl Try.underlying61 ?_
 refine q_int rfl rfl rfl rfl rfl (b_neq _ _ _ _) ?_
 refine r_done ?_
 refine s_keep [0, 1, 10] (e' := [(0, _), (1, _), (10, _)]) rfl ?_
 refine k_then_n ?_
 refine c_cond_p rfl (fun hne => ?_) (fun hne => ?_)
 ·
  refine c_seq ?_
  refine c_plain (.q 0 (.done)) (by kernel_rfl) ?_
  refine q_assign rfl rfl rfl rfl ?_
  refine r_done ?_
  refine k_then_n ?_
  refine c_ret ?_
  refine k_then_ret ?_
  refine ret1 rfl rfl (()) (by congr 1; symm; simp only [decide_eq_false_iff_not]; intro e; rw [e] at hn; omega) (by trivial) ?_
  exact Tf
 ·
  refine c_skip ?_
  refine k_then_n ?_
  refine c_seq ?_
  refine c_seq ?_
  refine c_plain (.q 0 (.done)) (by kernel_rfl) ?_
  refine q_assign rfl rfl rfl rfl ?_
  refine r_done ?_
  refine k_then_n ?_
  refine c_block ?_
  have hnm : n = m := by omega
  subst hnm
  refine c_loop2 (α := Nat) (fun (i : Nat) => i ≤ n ∧ (xs.take i = ys.take i)) (fun (i : Nat) => [(5, .int .i64 ((i : Nat) : Int))]) (fun (i : Nat) => []) (fun (i : Nat) => n - i) [0, 1] (er := [(0, _), (1, _)]) rfl (0) ?_ (by exact ⟨rfl, trivial⟩) (by (try dsimp only); (try simp only [Nat.add_zero, Nat.zero_add]); (repeat ((with_reducible apply Z2); focus (first | (with_reducible (repeat (first | exact Z0 | apply Z1)); done) | (repeat (first | exact Z0 | apply Z1))))); exact Z3) ?_
  · exact ⟨Nat.zero_le _, rfl⟩
  rintro i ⟨hle_i, ht⟩
  try simp only [List.cons_append, List.nil_append]
  refine c_seq ?_
  refine c_seq ?_
  refine c_plain (.q 0 (.q 1 (.q 2 (.q 3 (.done))))) (by kernel_rfl) ?_
  refine q_move rfl rfl rfl rfl ?_
  refine q_move rfl rfl rfl rfl ?_
  refine q_len rfl rfl rfl rfl Try.underlying61 ?_
  refine q_int rfl rfl rfl rfl rfl (b_lss _ _ _ _) ?_
  refine r_done ?_
  refine k_then_n ?_
  refine c_cond_p rfl (fun hlt => ?_) (fun hlt => ?_)
  ·
   refine c_skip ?_
   refine k_then_n ?_
   refine c_seq ?_
   refine c_block ?_
   refine c_seq ?_
   refine c_draw rfl (.q 0 (.q 1 (.q 2 (.q 3 (.q 4 (.q 5 (.q 6 (.q 7 (.q 8 (.done)))))))))) (by kernel_rfl) ?_
   refine q_move rfl rfl rfl rfl ?_
   refine q_move rfl rfl rfl rfl ?_
   obtain ⟨x, hx⟩ := get_lt (l := xs) (i := i) (by first | omega | (simp; done) | (simp; omega))
   refine q_idxR (sz := 1) (k := i) rfl rfl rfl rfl rfl Try.underlying61 Try.sizeOf101 (hr) hx enc2_len (by first | rfl | omega) (by omega) ?_
   intro ib19 io19 _ hd19
   refine q_loadN (vs := [_, _]) rfl rfl rfl rfl Try.isAgg101 Try.sizeOf101 Tk (hd19) rfl ?_
   refine q_move rfl rfl rfl rfl ?_
   refine q_move rfl rfl rfl rfl ?_
   obtain ⟨y, hy⟩ := get_lt (l := ys) (i := i) (by first | omega | (simp; done) | (simp; omega))
   refine q_idxR (sz := 1) (k := i) rfl rfl rfl rfl rfl Try.underlying61 Try.sizeOf101 (hr2) hy enc2_len (by first | rfl | omega) (by omega) ?_
   intro ib23 io23 _ hd23
   refine q_loadN (vs := [_, _]) rfl rfl rfl rfl Try.isAgg101 Try.sizeOf101 Tk (hd23) rfl ?_
   refine q_neS rfl rfl rfl rfl rfl (by kernel_rfl) (eqc_struct Try.underlying101 (by kernel_rfl) (eqf_cons rfl Try.isAgg3 rfl rfl (eqc_int Try.underlying3) (eqf_last rfl Try.isAgg3 rfl rfl (eqc_int Try.underlying3)))) ?_
   refine s_eq 25 rfl (v' := .bool (decide (x ≠ y))) (by first | (congr 1; done) | (congr 1; rw [Bool.eq_iff_iff]; simp [Prod.ext_iff, and_assoc])) ?_
   refine r_done ?_
   refine s_keep [0, 1, 5, 25] (e' := [(0, _), (1, _), (5, _), (25, _)]) rfl ?_
   refine k_then_n ?_
   refine c_cond_p rfl (fun hxy => ?_) (fun hxy => ?_)
   ·
    refine c_seq ?_
    refine c_plain (.q 0 (.done)) (by kernel_rfl) ?_
    refine q_assign rfl rfl rfl rfl ?_
    refine r_done ?_
    refine s_keep [4] (e' := [(4, _)]) rfl ?_
    refine k_then_n ?_
    refine c_ret ?_
    refine k_blk_ret ?_
    refine k_then_ret ?_
    refine k_then_ret ?_
    refine k_blk_ret ?_
    refine k_then_ret ?_
    refine ret1 rfl rfl (()) (by congr 1; symm; simp only [decide_eq_false_iff_not]; intro e; rw [e, hy] at hx; cases hx; exact hxy rfl) (by trivial) ?_
    exact Tf
   ·
    have hxy : x = y := Classical.byContradiction hxy
    refine c_skip ?_
    refine k_blk_n ?_
    refine k_then_n ?_
    refine c_plain (.q 0 (.q 1 (.q 2 (.done)))) (by kernel_rfl) ?_
    refine q_move rfl rfl rfl rfl ?_
    refine q_int rfl rfl rfl rfl rfl (b_add' _ (by exact fits_i64 (by omega) (by omega))) ?_
    refine q_assign rfl rfl rfl rfl ?_
    refine r_done ?_
    refine k_then_n ?_
    refine loop_next (x := i) (i + 1) ?_ ?_ ?_ ?_
    · exact ⟨by omega, by rw [List.take_add_one, List.take_add_one, hx, hy, ht, hxy]⟩
    · show n - (i + 1) < n - i; omega
    · exact ⟨rfl, rfl, rfl, trivial⟩
    · (try simp only [List.cons_append, List.nil_append]); exact Tf
  ·
   refine c_exit ?_
   refine k_then_exit ?_
   refine k_then_exit ?_
   refine k_blk_here ?_
   refine k_then_n ?_
   refine c_seq ?_
   refine c_plain (.q 0 (.done)) (by kernel_rfl) ?_
   refine q_assign rfl rfl rfl rfl ?_
   refine r_done ?_
   refine s_keep [4] (e' := [(4, _)]) rfl ?_
   refine k_then_n ?_
   refine c_ret ?_
   refine ret1 rfl rfl (()) (by congr 1; symm; simp only [decide_eq_true_eq]; obtain rfl : i = n := (by omega); rw [List.take_of_length_le (by omega), List.take_of_length_le (by omega)] at ht; exact ht) (by trivial) ?_
   exact Tf
theorem known_spec : Spec Try.prog 11 [] [] (fun (_ : Unit) => .bool true) (fun _ => True) (fun _ => []) := by
 refine spec_mk (n := 47) Try.func11 rfl rfl rfl ?_
 intro Γ w0
 simp only [argE, List.cons_append, List.nil_append, Nat.zero_add, Nat.reduceAdd]
 refine c_seq ?_
 refine c_plain (.q 0 (.done)) (by kernel_rfl) ?_
 refine q_assign rfl rfl rfl rfl ?_
 refine r_done ?_
 refine k_then_n ?_
 refine c_seq ?_
 refine c_plain (.q 0 ((.l 1 [] (.q 2 (.q 3 (.q 4 (.q 5 (.q 6 (.done))))))))) (by kernel_rfl) ?_
 refine q_build rfl rfl rfl rfl (vs := [_, _, _, _, _]) (run_buildS Try.underlying25 Try.zeroValue25 (ps := [(0, 1), (1, 1), (2, 1), (3, 1), (4, 1)]) ⟨rfl, Try.sizeOf3, rfl, Try.sizeOf3, rfl, Try.sizeOf3, rfl, Try.sizeOf3, rfl, Try.sizeOf23, trivial⟩ rfl) ?_
 refine s_heap (fun _ h => Bun.fold (Γ := []) h) ?_
 have sp_1 := Fa.new_spec 2 1 0 0 ([]) none 0 0 (Bun []) (.inl rfl) (by rfl) (by omega) okk
 refine l_call rfl rfl rfl rfl rfl rfl Try.call9 (sp_1) Ts ?_
 rintro ⟨d, ⟨dpa, dpc⟩, dpo, dpoc⟩ -
 try simp only [List.cons_append, List.nil_append]
 refine ag_nil ?_
 refine q_move rfl rfl rfl rfl ?_
 refine q_extract rfl rfl rfl rfl rfl ?_
 refine q_extract rfl rfl rfl rfl rfl ?_
 refine q_assign rfl rfl rfl rfl ?_
 refine q_assign rfl rfl rfl rfl ?_
 refine r_done ?_
 rw [show fNew 2 1 0 0 [] = xk0 from rfl]
 refine s_keep [1, 2] (e' := [(1, _), (2, _)]) rfl ?_
 refine k_then_n ?_
 refine c_seq ?_
 refine c_seq ?_
 refine c_plain (.q 0 (.q 1 (.q 2 (.q 3 (.q 4 (.q 5 (.done))))))) (by kernel_rfl) ?_
 refine q_move rfl rfl rfl rfl ?_
 refine q_eq_nil rfl rfl rfl rfl Try.underlying27 ?_
 refine s_eq 12 rfl (v' := .bool false) rfl ?_
 refine q_move rfl rfl rfl rfl ?_
 refine q_move rfl rfl rfl rfl ?_
 refine q_int rfl rfl rfl rfl rfl (b_neq _ _ _ _) ?_
 refine s_eq 15 rfl (v' := .bool false) (by first | rfl | simp) ?_
 refine q_pick_f rfl rfl rfl rfl rfl ?_
 refine r_done ?_
 refine s_keep [1, 16] (e' := [(1, _), (16, _)]) rfl ?_
 refine k_then_n ?_
 refine c_cond_f rfl ?_
 refine c_skip ?_
 refine k_then_n ?_
 refine c_seq ?_
 refine c_plain (.q 0 (.q 1 (.q 2 (.q 3 (.q 4 ((.l 5 [] ((.l 6 [] (.q 7 (.q 8 (.q 9 (.q 10 (.q 11 (.done))))))))))))))) (by kernel_rfl) ?_
 refine q_move rfl rfl rfl rfl ?_
 refine q_build rfl rfl rfl rfl (vs := [_, _, _]) (run_buildS Try.underlying36 Try.zeroValue36 (ps := [(0, 1), (1, 1), (2, 1)]) ⟨rfl, Try.sizeOf34, rfl, Try.sizeOf3, rfl, Try.sizeOf3, trivial⟩ rfl) ?_
 refine q_build rfl rfl rfl rfl (vs := [_, _, _]) (run_buildS Try.underlying36 Try.zeroValue36 (ps := [(0, 1), (1, 1), (2, 1)]) ⟨rfl, Try.sizeOf34, rfl, Try.sizeOf3, rfl, Try.sizeOf3, trivial⟩ rfl) ?_
 refine q_build rfl rfl rfl rfl (vs := [_, _, _]) (run_buildS Try.underlying36 Try.zeroValue36 (ps := [(0, 1), (1, 1), (2, 1)]) ⟨rfl, Try.sizeOf34, rfl, Try.sizeOf3, rfl, Try.sizeOf3, trivial⟩ rfl) ?_
 refine q_build rfl rfl rfl rfl (vs := [_, _, _]) (run_buildS Try.underlying36 Try.zeroValue36 (ps := [(0, 1), (1, 1), (2, 1)]) ⟨rfl, Try.sizeOf34, rfl, Try.sizeOf3, rfl, Try.sizeOf3, trivial⟩ rfl) ?_
 refine l_buildSlice rfl rfl rfl rfl (vs := [_, _, _, _, _, _, _, _, _, _, _, _]) (run_buildSl Try.underlying26 Try.sizeOf36 Try.zeroValue36 rfl rfl rfl rfl) ?_
 intro b23
 refine ag_nil ?_
 have sp_2 := Fa.events_spec dpa dpc dpo dpoc d xk0 xk0_inv (by decide) ([]) rfl ek (some ⟨b23, 0, none⟩) 4 4 (cells b23 0 [.int .i64 7, .int .i64 0, .int .i64 1, .int .i64 2, .int .i64 0, .int .i64 0, .int .i64 2, .int .i64 1, .int .i64 0, .int .i64 10, .int .i64 0, .int .i64 0]) (rds_some rdn_cells) (by first | rfl | assumption | omega | (simp; done) | (simp; omega)) (by omega)
 refine l_call rfl rfl rfl rfl rfl rfl Try.call12 (sp_2) Ts ?_
 rintro i ⟨hi1, hi2, hi3⟩
 try simp only [List.cons_append, List.nil_append]
 refine ag_nil ?_
 obtain rfl := ek_three i hi1 hi2 hi3
 rw [show fAll xk0 (ek.take 3) = xk3 from rfl]
 refine q_move rfl rfl rfl rfl ?_
 refine q_extract rfl rfl rfl rfl rfl ?_
 refine q_extract rfl rfl rfl rfl rfl ?_
 refine q_assign rfl rfl rfl rfl ?_
 refine q_assign rfl rfl rfl rfl ?_
 refine r_done ?_
 refine s_keep [1, 3, 4] (e' := [(1, _), (3, _), (4, _)]) rfl ?_
 refine k_then_n ?_
 refine c_seq ?_
 refine c_plain (.q 0 ((.l 1 [] (.q 2 (.done))))) (by kernel_rfl) ?_
 refine q_move rfl rfl rfl rfl ?_
 have sp_3 := Fa.flags_spec dpa dpc dpo dpoc d xk3 xk3_inv
 refine l_call rfl rfl rfl rfl rfl rfl Try.call22 (sp_3) Ts ?_
 rintro ⟨fa, fc⟩ -
 try simp only [List.cons_append, List.nil_append]
 refine ag_nil ?_
 refine q_assign rfl rfl rfl rfl ?_
 refine r_done ?_
 refine k_then_n ?_
 refine c_seq ?_
 have hfl_ : (flFF xk3.vs).length = 1 := by rw [xk3_flags]; rfl
 refine c_plain (.q 0 (.q 1 (.q 2 (.q 3 (.q 4 (.q 5 (.q 6 (.q 7 (.q 8 (.q 9 (.q 10 (.q 11 (.q 12 (.q 13 (.q 14 (.q 15 (.q 16 (.q 17 (.q 18 (.done)))))))))))))))))))) (by kernel_rfl) ?_
 refine q_move rfl rfl rfl rfl ?_
 refine q_int rfl rfl rfl rfl rfl (b_eql _ _ _ _) ?_
 refine s_eq 30 rfl (v' := .bool true) (by first | rfl | simp) ?_
 refine q_move rfl rfl rfl rfl ?_
 refine q_move rfl rfl rfl rfl ?_
 refine q_int rfl rfl rfl rfl rfl (b_eql _ _ _ _) ?_
 refine s_eq 33 rfl (v' := .bool true) (by first | rfl | simp) ?_
 refine q_pick_t rfl rfl rfl rfl rfl ?_
 refine q_move rfl rfl rfl rfl ?_
 refine q_move rfl rfl rfl rfl ?_
 refine q_len rfl rfl rfl rfl Try.underlying61 ?_
 refine q_int rfl rfl rfl rfl rfl (b_eql _ _ _ _) ?_
 refine s_eq 38 rfl (v' := .bool true) (by rw [hfl_]; rfl) ?_
 refine q_pick_t rfl rfl rfl rfl rfl ?_
 refine q_move rfl rfl rfl rfl ?_
 refine q_move rfl rfl rfl rfl ?_
 refine q_idxO (sz := 1) (k := 0) (enc := enc2) (xs := (flFF xk3.vs)) rfl rfl rfl rfl rfl Try.underlying61 Try.sizeOf101 (show (flFF xk3.vs)[0]? = some ((0 : Int), (2 : Int)) by rw [xk3_flags]; rfl) (by first | rfl | omega) (by omega) Tk ?_
 intro ib42 io42 ha42 hl42 hc42
 refine q_loadN_O (j := 0) (k' := 0) (us := [_, _]) (enc := enc2) (off := io42) rfl rfl rfl rfl Try.isAgg101 Try.sizeOf101 ha42 enc2_len (show (flFF xk3.vs)[0]? = some ((0 : Int), (2 : Int)) by rw [xk3_flags]; rfl) Tk (by first | rfl | exact (Nat.add_zero _).symm | omega) (by rfl) rfl ?_
 refine q_build rfl rfl rfl rfl (vs := [_, _]) (run_buildS Try.underlying101 Try.zeroValue101 (ps := [(0, 1), (1, 1)]) ⟨rfl, Try.sizeOf3, rfl, Try.sizeOf3, trivial⟩ rfl) ?_
 refine q_eqS rfl rfl rfl rfl rfl (by kernel_rfl) (eqc_struct Try.underlying101 (by kernel_rfl) (eqf_cons rfl Try.isAgg3 rfl rfl (eqc_int Try.underlying3) (eqf_last rfl Try.isAgg3 rfl rfl (eqc_int Try.underlying3)))) ?_
 refine s_eq 45 rfl (v' := .bool (decide (((0 : Int), (2 : Int)) = (0, 2)))) (by first | (congr 1; done) | (congr 1; rw [Bool.eq_iff_iff]; simp [Prod.ext_iff, and_assoc])) ?_
 refine s_eq 45 rfl (v' := .bool true) (by rw [decide_eq_true rfl]) ?_
 refine q_pick_t rfl rfl rfl rfl rfl ?_
 refine q_assign rfl rfl rfl rfl ?_
 refine r_done ?_
 refine s_keep [0] (e' := [(0, _)]) rfl ?_
 refine k_then_n ?_
 refine c_ret ?_
 refine ret1 rfl rfl (()) (by first | rfl | (first | rfl | (congr 1; done) | (congr 1 <;> first | rfl | omega | (simp; done) | (simp; omega)))) (by trivial) ?_
 exact Tf
end Go.Ab.Fa
set_option linter.unusedVariables false
set_option linter.unusedSimpArgs false
set_option maxRecDepth 100000
namespace Go.Ab.DjB
open Go Go.Proofs Go.Ab Go.Ab.Fe Go.Ab.Vc Go.Ab.Dj
/-- All clocks are at most one more than there are events. -/
structure BInv (x : VS) : Prop where
  inv : VInv x
  th : ∀ t l, x.th t = some l → ∀ i : Nat, l.getD i 0 ≤ x.ck.n + 1
  lk : ∀ t l, x.lk t = some l → ∀ i : Nat, l.getD i 0 ≤ x.ck.n + 1
  vo : ∀ t l, x.vo t = some l → ∀ i : Nat, l.getD i 0 ≤ x.ck.n + 1
  rd : ∀ r p, x.rd r = some p → ∀ i : Nat, p.1.getD i 0 ≤ x.ck.n + 1
theorem b_can {x : VS} (hx : BInv x) (hn : x.ck.n ≤ 4000000) {k t o : Int} : vcanF x k t o ↔ canF x.ck k t o := by
  refine ⟨fun h => h.1, fun h => ⟨h, fun _ => ?_⟩⟩
  obtain ⟨l, hth⟩ := th_some hx.inv (can_th h)
  have := hx.th _ _ hth t.toNat
  rw [thF_eq hth]; simp only [maxC]; omega
theorem mg_le {m : Option (List Int)} {l : List Int} {B : Int} (hl : CV l) (h : ∀ q, m = some q → CV q) (i : Nat) (h1 : l.getD i 0 ≤ B) (h2 : ∀ q, m = some q → q.getD i 0 ≤ B) : (mgF m l).getD i 0 ≤ B := by
  cases m with
  | none => exact h1
  | some q => show (jn l q).getD i 0 ≤ _; rw [jn_g hl (h q rfl)]; have := h2 q rfl; omega
theorem vn_n {x : VS} {k t o : Int} (h : canF x.ck k t o) : (vnF x k t o).ck.n = x.ck.n + 1 := by
  rw [vn_ck]
  obtain ⟨n5, n6, n7, n9, n10, n11, nn⟩ := nxF_k h
  by_cases k5 : k = 5
  · rw [n5 k5]
  by_cases k6 : k = 6
  · rw [n6 k6]
  by_cases k7 : k = 7
  · rw [n7 k7]
  by_cases k9 : k = 9
  · rw [n9 k9]
  by_cases k10 : k = 10
  · rw [n10 k10]
  by_cases k11 : k = 11
  · rw [n11 k11]
  rw [nn k5 k6 k7 k9 k10 k11]
theorem b_next {x : VS} (hx : BInv x) {k t o : Int} (hvc : vcanF x k t o) : BInv (vnF x k t o) := by
  obtain ⟨l, hth⟩ := th_some hx.inv (can_th hvc.1)
  have hi := hx.inv
  have hl := hi.thc _ _ hth
  have hlt := thF_eq hth
  have hlb := hx.th _ _ hth
  have hnn := vn_n hvc.1
  obtain ⟨o5, o7, o9, o10, o11⟩ := can_obj hi.ck hvc.1
  have hic : ∀ i : Nat, (icL l t.toNat).getD i 0 ≤ x.ck.n + 1 + 1 := fun i => by
    rw [icL_g]; split
    · have := hlb t.toNat; omega
    · have := hlb i; omega
  refine ⟨next_vinv hi hvc, ?_, ?_, ?_, ?_⟩
  · intro u q h i
    rw [hnn]
    have key : ∀ {L : List Int}, (∀ i : Nat, L.getD i 0 ≤ x.ck.n + 1 + 1) → upd x.th t (some L) u = some q → q.getD i 0 ≤ x.ck.n + 1 + 1 := fun hL h => by
      rcases upd_some h with ⟨-, h⟩ | ⟨-, h⟩
      · cases h; exact hL i
      · have := hx.th _ _ h i; omega
    have up : ∀ {a : Int}, a ≤ x.ck.n + 1 → a ≤ x.ck.n + 1 + 1 := fun h => by omega
    by_cases k5 : k = 5
    · rw [vn5 hth k5] at h; exact key (fun i => up (mg_le hl (hi.lkc _) i (hlb i) fun q hq => hx.lk _ _ hq i)) h
    by_cases k3 : k = 3
    · rw [vn3 hth k3] at h; exact key (fun i => up (mg_le hl (hi.voc _) i (hlb i) fun q hq => hx.vo _ _ hq i)) h
    by_cases k8 : k = 8
    · rw [vn8 hth k8] at h; exact key (fun i => up (mg_le hl (hi.thc _) i (hlb i) fun q hq => hx.th _ _ hq i)) h
    by_cases k10 : k = 10
    · rw [vn10 hth k10] at h
      obtain ⟨p, hp, -⟩ := rd_some hi (o10 k10).1 (o10 k10).2.2
      refine key (fun i => ?_) h
      rw [hlt, rdF, hp]
      show (jn l p.1).getD i 0 ≤ _
      rw [jn_g hl (hi.rdc _ _ hp)]
      have h1 := hlb i
      have h2 := hx.rd _ _ hp i
      omega
    by_cases k6 : k = 6
    · rw [vn6 hth k6] at h; exact key hic h
    by_cases k4 : k = 4
    · rw [vn4 hth k4] at h; exact key hic h
    by_cases k9 : k = 9
    · rw [vn9 hth k9] at h; exact key hic h
    by_cases k7 : k = 7
    · rw [vn7 hth k7] at h
      rcases upd_some h with ⟨-, h⟩ | ⟨-, h⟩
      · cases h; exact hic i
      · rcases upd_some h with ⟨-, h⟩ | ⟨-, h⟩
        · cases h
          rw [stL_g]
          have h0 := hi.ck.n0
          split
          · omega
          · have := hlb i; omega
        · have := hx.th _ _ h i; omega
    rw [vn0 k5 k3 k8 k10 k6 k4 k9 k7] at h
    have := hx.th _ _ h i; omega
  · intro u q h i
    rw [hnn]
    by_cases k6 : k = 6
    · rw [vn6 hth k6] at h
      rcases upd_some h with ⟨-, h⟩ | ⟨-, h⟩
      · cases h; have := hlb i; omega
      · have := hx.lk _ _ h i; omega
    have e : (vnF x k t o).lk = x.lk := by
      unfold vnF
      rw [if_neg k6]
      repeat (split; · rfl)
      rfl
    rw [e] at h; have := hx.lk _ _ h i; omega
  · intro u q h i
    rw [hnn]
    by_cases k4 : k = 4
    · rw [vn4 hth k4] at h
      rcases upd_some h with ⟨-, h⟩ | ⟨-, h⟩
      · cases h; have := mg_le hl (hi.voc o) i (hlb i) (fun q hq => hx.vo o _ hq i); omega
      · have := hx.vo _ _ h i; omega
    have e : (vnF x k t o).vo = x.vo := by
      unfold vnF
      rw [if_neg k4]
      repeat (split; · rfl)
      rfl
    rw [e] at h; have := hx.vo _ _ h i; omega
  · intro r p h i
    rw [hnn]
    rw [vn_rd] at h
    split at h
    · rename_i k10
      rcases upd_some h with ⟨-, h⟩ | ⟨-, h⟩
      · obtain ⟨p2, hp, -⟩ := rd_some hi (o10 k10).1 (o10 k10).2.2
        split at h
        · cases h
        · cases h
          show (rdF x (rdK x t o)).1.getD i 0 ≤ _
          rw [rdK, rdF, hp]
          have := hx.rd _ _ hp i
          show p2.1.getD i 0 ≤ _; omega
      · have := hx.rd _ _ h i; omega
    · split at h
      · rcases upd_some h with ⟨-, h⟩ | ⟨-, h⟩
        · cases h
          show (mgF _ _).getD i 0 ≤ _
          rw [hlt]
          have := mg_le (m := (x.rd (o, (opF x.ck o).1)).map (·.1)) hl (fun q hq => map_fst_cv hi hq) i (hlb i) (fun q hq => by
            cases hr : x.rd (o, (opF x.ck o).1) with
            | none => rw [hr] at hq; cases hq
            | some p => rw [hr] at hq; cases hq; exact hx.rd _ _ hr i)
          omega
        · have := hx.rd _ _ h i; omega
      · have := hx.rd _ _ h i; omega
end Go.Ab.DjB
set_option linter.unusedVariables false
set_option linter.unusedSimpArgs false
set_option maxRecDepth 100000
namespace Go.Ab.Fe
open Go Go.Proofs Go.Ab
/-- The document's checker at b. -/
def rk (pa : Option Addr) (pc b : Nat) (x : CS) : HProp := fun h => ∃ ta tc oa oc ba bc, Sat [cells b 0 [.int .i64 x.th, .int .i64 x.va, .int .i64 x.vo, .int .i64 x.lk, .slice pa x.pa.length pc, .slice ta x.T.length tc, .slice oa x.O.length oc, .slice ba x.B.length bc, .int .i64 x.n], own 3 enc3 ta tc x.T, own 1 encZ oa oc x.O, own 2 enc2 ba bc x.B] h
section
variable {w0 : World} {ds : List Deferred} {n : Nat} {e : Env} {Γ : List HProp} {X : Act → World → Prop}
theorem rk_open {pa : Option Addr} {pc b : Nat} {x : CS} (k : ∀ ta tc oa oc ba bc, Le (St w0 ds n e (cells b 0 [.int .i64 x.th, .int .i64 x.va, .int .i64 x.vo, .int .i64 x.lk, .slice pa x.pa.length pc, .slice ta x.T.length tc, .slice oa x.O.length oc, .slice ba x.B.length bc, .int .i64 x.n] :: own 3 enc3 ta tc x.T :: own 1 encZ oa oc x.O :: own 2 enc2 ba bc x.B :: Γ)) X) : Le (St w0 ds n e (rk pa pc b x :: Γ)) X := fun a w s => by
  obtain ⟨h1, l1, ⟨ta, tc, oa, oc, ba, bc, a1⟩, s1⟩ := s.heap
  exact k ta tc oa oc ba bc a w ⟨s.defers, s.size, s.env, Bun.unfold ⟨h1, l1, a1, s1⟩, s.amb⟩
theorem rk_fold {Γ' : List HProp} {b : Nat} (x : CS) {pn tn on bn : Nat} {pa : Option Addr} {pc : Nat} {ta oa ba : Option Addr} {tc oc bc : Nat}
    (tk : Takes Γ [cells b 0 [.int .i64 x.th, .int .i64 x.va, .int .i64 x.vo, .int .i64 x.lk, .slice pa pn pc, .slice ta tn tc, .slice oa on oc, .slice ba bn bc, .int .i64 x.n], own 3 enc3 ta tc x.T, own 1 encZ oa oc x.O, own 2 enc2 ba bc x.B] Γ') (h1 : pn = x.pa.length) (h2 : tn = x.T.length) (h3 : on = x.O.length) (h4 : bn = x.B.length)
    (k : Le (St w0 ds n e (rk pa pc b x :: Γ')) X) : Le (St w0 ds n e Γ) X := s_heap (fun h s => by
  subst h1 h2 h3 h4
  obtain ⟨h1, l1, a1, s1⟩ := Bun.fold (tk h s)
  exact ⟨h1, l1, ⟨ta, tc, oa, oc, ba, bc, a1⟩, s1⟩) k
end
theorem can_run' {x : CS} {k t o : Int} (h : (stF x t).1 = 1) : canF x k t o ↔ 0 ≤ o ∧ okK x k t o := by
  unfold canF; rw [h]; simp
theorem owF_n {x : CS} {o : Int} : owF x o = none ↔ owV x o = -1 := by
  unfold owF; split
  · rename_i h; simp [h]
  · rename_i h; simp [h]
theorem owF_s {x : CS} {o t : Int} (ht : t ≠ -1) : owF x o = some t ↔ owV x o = t := by
  unfold owF; split
  · rename_i h; rw [h]; simp; omega
  · simp
theorem can_out {x : CS} {k t o : Int} (h : ¬ (0 ≤ t ∧ t < (x.T.length : Int))) : ¬ canF x k t o := fun hc => by
  have := stF_nz (can_th hc); omega
theorem full_out {x : CS} {t : Int} (h : ¬ (0 ≤ t ∧ t < (x.T.length : Int))) : ¬ fullF x t := fun hc => by
  have := stF_nz (x := x) (t := t) (by rw [hc.1]; decide); omega
theorem take_next {α : Type} {l : List α} {i : Nat} {a : α} (h : l[i]? = some a) : l.take (i + 1) = l.take i ++ [a] := by
  rw [List.take_add_one, h]; rfl
theorem below_spec (i m : Int) : Spec Try.prog 76 [.int .i64 i, .int .i64 m] [] (fun (_ : Unit) => .bool (decide (0 ≤ i ∧ i < m))) (fun _ => True) (fun _ => []) := by
 refine spec_mk (n := 12) Try.func76 rfl rfl rfl ?_
 intro Γ w0
 simp only [argE, List.cons_append, List.nil_append, Nat.zero_add, Nat.reduceAdd]
 refine c_seq ?_
 refine c_plain (.q 0 (.done)) (by kernel_rfl) ?_
 refine q_assign rfl rfl rfl rfl ?_
 refine r_done ?_
 refine k_then_n ?_
 refine c_seq ?_
 refine c_plain (.q 0 (.q 1 (.q 2 (.q 3 (.q 4 (.q 5 (.q 6 (.q 7 (.done))))))))) (by kernel_rfl) ?_
 refine q_move rfl rfl rfl rfl ?_
 refine q_int rfl rfl rfl rfl rfl (b_geq _ _ _ _) ?_
 refine q_move rfl rfl rfl rfl ?_
 refine s_bool_p 7 rfl (fun g_1 => ?_) (fun g_1 => ?_)
 ·
  refine q_move rfl rfl rfl rfl ?_
  refine q_move rfl rfl rfl rfl ?_
  refine q_int rfl rfl rfl rfl rfl (b_lss _ _ _ _) ?_
  refine q_pick_t rfl rfl rfl rfl rfl ?_
  refine q_assign rfl rfl rfl rfl ?_
  refine r_done ?_
  refine s_keep [4] (e' := [(4, _)]) rfl ?_
  refine k_then_n ?_
  refine c_ret ?_
  refine ret1 rfl rfl (()) (by congr 1; first | (rw [decide_eq_decide]; omega) | (symm; rw [decide_eq_false_iff_not]; omega)) (by trivial) ?_
  exact Tf
 ·
  refine q_skip rfl rfl rfl rfl ?_
  refine q_skip rfl rfl rfl rfl ?_
  refine q_skip rfl rfl rfl rfl ?_
  refine q_pick_f rfl rfl rfl rfl rfl ?_
  refine q_assign rfl rfl rfl rfl ?_
  refine r_done ?_
  refine s_keep [4] (e' := [(4, _)]) rfl ?_
  refine k_then_n ?_
  refine c_ret ?_
  refine ret1 rfl rfl (()) (by congr 1; first | (rw [decide_eq_decide]; omega) | (symm; rw [decide_eq_false_iff_not]; omega)) (by trivial) ?_
  exact Tf
theorem count_spec (i : Int) : Spec Try.prog 100 [.int .i64 i] [] (fun (_ : Unit) => .bool (decide (0 ≤ i ∧ i ≤ 4096))) (fun _ => True) (fun _ => []) := by
 refine spec_mk (n := 9) Try.func100 rfl rfl rfl ?_
 intro Γ w0
 simp only [argE, List.cons_append, List.nil_append, Nat.zero_add, Nat.reduceAdd]
 refine c_seq ?_
 refine c_plain (.q 0 (.done)) (by kernel_rfl) ?_
 refine q_assign rfl rfl rfl rfl ?_
 refine r_done ?_
 refine k_then_n ?_
 refine c_seq ?_
 refine c_plain (.q 0 (.q 1 (.q 2 (.q 3 (.q 4 (.q 5 (.q 6 (.done)))))))) (by kernel_rfl) ?_
 refine q_move rfl rfl rfl rfl ?_
 refine q_int rfl rfl rfl rfl rfl (b_geq _ _ _ _) ?_
 refine q_move rfl rfl rfl rfl ?_
 refine s_bool_p 5 rfl (fun g_1 => ?_) (fun g_1 => ?_)
 ·
  refine q_move rfl rfl rfl rfl ?_
  refine q_int rfl rfl rfl rfl rfl (b_leq _ _ _ _) ?_
  refine q_pick_t rfl rfl rfl rfl rfl ?_
  refine q_assign rfl rfl rfl rfl ?_
  refine r_done ?_
  refine s_keep [2] (e' := [(2, _)]) rfl ?_
  refine k_then_n ?_
  refine c_ret ?_
  refine ret1 rfl rfl (()) (by congr 1; first | (rw [decide_eq_decide]; omega) | (symm; rw [decide_eq_false_iff_not]; omega)) (by trivial) ?_
  exact Tf
 ·
  refine q_skip rfl rfl rfl rfl ?_
  refine q_skip rfl rfl rfl rfl ?_
  refine q_pick_f rfl rfl rfl rfl rfl ?_
  refine q_assign rfl rfl rfl rfl ?_
  refine r_done ?_
  refine s_keep [2] (e' := [(2, _)]) rfl ?_
  refine k_then_n ?_
  refine c_ret ?_
  refine ret1 rfl rfl (()) (by congr 1; first | (rw [decide_eq_decide]; omega) | (symm; rw [decide_eq_false_iff_not]; omega)) (by trivial) ?_
  exact Tf
theorem rshape_spec (th va vo lk : Int) (pl : List Int) (ao : Option Addr) (n c : Nat) (A : HProp) (hr : RdS A ao (pl.flatMap encZ)) (hn : pl.length = n) (hb : n ≤ 4000000) : Spec Try.prog 75 [.agg #[.int .i64 th, .int .i64 va, .int .i64 vo, .int .i64 lk, .slice ao n c]] [A] (fun (_ : Unit) => .int .i64 (if OkS th va vo lk pl then 0 else 5)) (fun _ => True) (fun _ => [A]) := by
 refine spec_mk (n := 58) Try.func75 rfl rfl rfl ?_
 intro Γ w0
 simp only [argE, List.cons_append, List.nil_append, Nat.zero_add, Nat.reduceAdd]
 refine c_seq ?_
 refine c_plain ((.l 0 [] (.q 1 (.done)))) (by kernel_rfl) ?_
 refine l_box rfl rfl rfl rfl (us := [_, _, _, _, _]) rfl ?_
 intro b1
 refine ag_nil ?_
 refine q_assign rfl rfl rfl rfl ?_
 refine r_done ?_
 refine k_then_n ?_
 refine c_seq ?_
 refine c_seq ?_
 refine c_plain (.q 0 (.q 1 (.q 2 (.q 3 (.q 4 (.q 5 (.q 6 (.q 7 (.q 8 (.q 9 (.q 10 ((.l 11 [] (.q 12 (.q 13 (.q 14 (.q 15 (.q 16 ((.l 17 [] (.q 18 (.q 19 (.q 20 (.q 21 (.q 22 ((.l 23 [] (.q 24 (.q 25 (.q 26 (.q 27 (.q 28 (.q 29 ((.l 30 [] (.q 31 (.q 32 (.done)))))))))))))))))))))))))))))))))))))) (by kernel_rfl) ?_
 refine q_field (k := 0) rfl rfl rfl rfl Try.underlying25 rfl Try.sizeOf3 rfl ?_
 refine q_load_c (j := 0) rfl rfl rfl rfl Try.isAgg3 Tk (by first | rfl | exact (Nat.add_zero _).symm) (by rfl) ?_
 refine q_int rfl rfl rfl rfl rfl (b_lss _ _ _ _) ?_
 refine q_move rfl rfl rfl rfl ?_
 refine s_bool_p 7 rfl (fun h1 => ?_) (fun h1 => ?_)
 ·
  refine q_skip rfl rfl rfl rfl ?_
  refine q_skip rfl rfl rfl rfl ?_
  refine q_skip rfl rfl rfl rfl ?_
  refine q_pick_t rfl rfl rfl rfl rfl ?_
  refine q_move rfl rfl rfl rfl ?_
  refine q_skip rfl rfl rfl rfl ?_
  refine q_skip rfl rfl rfl rfl ?_
  refine l_skip rfl rfl rfl rfl ?_
  refine q_skip rfl rfl rfl rfl ?_
  refine q_pick_t rfl rfl rfl rfl rfl ?_
  refine q_move rfl rfl rfl rfl ?_
  refine q_skip rfl rfl rfl rfl ?_
  refine q_skip rfl rfl rfl rfl ?_
  refine l_skip rfl rfl rfl rfl ?_
  refine q_skip rfl rfl rfl rfl ?_
  refine q_pick_t rfl rfl rfl rfl rfl ?_
  refine q_move rfl rfl rfl rfl ?_
  refine q_skip rfl rfl rfl rfl ?_
  refine q_skip rfl rfl rfl rfl ?_
  refine l_skip rfl rfl rfl rfl ?_
  refine q_skip rfl rfl rfl rfl ?_
  refine q_pick_t rfl rfl rfl rfl rfl ?_
  refine q_move rfl rfl rfl rfl ?_
  refine q_skip rfl rfl rfl rfl ?_
  refine q_skip rfl rfl rfl rfl ?_
  refine q_skip rfl rfl rfl rfl ?_
  refine l_skip rfl rfl rfl rfl ?_
  refine q_skip rfl rfl rfl rfl ?_
  refine q_pick_t rfl rfl rfl rfl rfl ?_
  refine r_done ?_
  refine s_keep [1, 36] (e' := [(1, _), (36, _)]) rfl ?_
  refine k_then_n ?_
  refine c_cond_t rfl ?_
  refine c_seq ?_
  refine c_plain (.q 0 (.done)) (by kernel_rfl) ?_
  refine q_assign rfl rfl rfl rfl ?_
  refine r_done ?_
  refine k_then_n ?_
  refine c_ret ?_
  refine k_then_ret ?_
  refine ret1 rfl rfl (()) (by rw [if_neg (fun h => by have h1 := h.th; have h2 := h.va; have h3 := h.vo; have h4 := h.lk; have h5 := h.pl; omega)]) (by trivial) ?_
  exact Tf
 ·
  refine q_field (k := 0) rfl rfl rfl rfl Try.underlying25 rfl Try.sizeOf3 rfl ?_
  refine q_load_c (j := 0) rfl rfl rfl rfl Try.isAgg3 Tk (by first | rfl | exact (Nat.add_zero _).symm) (by rfl) ?_
  refine q_int rfl rfl rfl rfl rfl (b_gtr _ _ _ _) ?_
  refine q_pick_f rfl rfl rfl rfl rfl ?_
  refine q_move rfl rfl rfl rfl ?_
  refine s_bool_p 12 rfl (fun h2 => ?_) (fun h2 => ?_)
  ·
   refine q_skip rfl rfl rfl rfl ?_
   refine q_skip rfl rfl rfl rfl ?_
   refine l_skip rfl rfl rfl rfl ?_
   refine q_skip rfl rfl rfl rfl ?_
   refine q_pick_t rfl rfl rfl rfl rfl ?_
   refine q_move rfl rfl rfl rfl ?_
   refine q_skip rfl rfl rfl rfl ?_
   refine q_skip rfl rfl rfl rfl ?_
   refine l_skip rfl rfl rfl rfl ?_
   refine q_skip rfl rfl rfl rfl ?_
   refine q_pick_t rfl rfl rfl rfl rfl ?_
   refine q_move rfl rfl rfl rfl ?_
   refine q_skip rfl rfl rfl rfl ?_
   refine q_skip rfl rfl rfl rfl ?_
   refine l_skip rfl rfl rfl rfl ?_
   refine q_skip rfl rfl rfl rfl ?_
   refine q_pick_t rfl rfl rfl rfl rfl ?_
   refine q_move rfl rfl rfl rfl ?_
   refine q_skip rfl rfl rfl rfl ?_
   refine q_skip rfl rfl rfl rfl ?_
   refine q_skip rfl rfl rfl rfl ?_
   refine l_skip rfl rfl rfl rfl ?_
   refine q_skip rfl rfl rfl rfl ?_
   refine q_pick_t rfl rfl rfl rfl rfl ?_
   refine r_done ?_
   refine s_keep [1, 36] (e' := [(1, _), (36, _)]) rfl ?_
   refine k_then_n ?_
   refine c_cond_t rfl ?_
   refine c_seq ?_
   refine c_plain (.q 0 (.done)) (by kernel_rfl) ?_
   refine q_assign rfl rfl rfl rfl ?_
   refine r_done ?_
   refine k_then_n ?_
   refine c_ret ?_
   refine k_then_ret ?_
   refine ret1 rfl rfl (()) (by rw [if_neg (fun h => by have h1 := h.th; have h2 := h.va; have h3 := h.vo; have h4 := h.lk; have h5 := h.pl; omega)]) (by trivial) ?_
   exact Tf
  ·
   refine q_field (k := 1) rfl rfl rfl rfl Try.underlying25 rfl Try.sizeOf3 rfl ?_
   refine q_load_c (j := 1) rfl rfl rfl rfl Try.isAgg3 Tk (by first | rfl | exact (Nat.add_zero _).symm) (by rfl) ?_
   have sp_1 := count_spec va
   refine l_call rfl rfl rfl rfl rfl rfl Try.call100 (sp_1) Ts ?_
   rintro ⟨⟩ -
   try simp only [List.cons_append, List.nil_append]
   refine ag_nil ?_
   refine q_not rfl rfl rfl rfl ?_
   refine q_pick_f rfl rfl rfl rfl rfl ?_
   refine q_move rfl rfl rfl rfl ?_
   refine s_bool_np 18 rfl (fun h3 => ?_) (fun h3 => ?_)
   ·
    refine q_skip rfl rfl rfl rfl ?_
    refine q_skip rfl rfl rfl rfl ?_
    refine l_skip rfl rfl rfl rfl ?_
    refine q_skip rfl rfl rfl rfl ?_
    refine q_pick_t rfl rfl rfl rfl rfl ?_
    refine q_move rfl rfl rfl rfl ?_
    refine q_skip rfl rfl rfl rfl ?_
    refine q_skip rfl rfl rfl rfl ?_
    refine l_skip rfl rfl rfl rfl ?_
    refine q_skip rfl rfl rfl rfl ?_
    refine q_pick_t rfl rfl rfl rfl rfl ?_
    refine q_move rfl rfl rfl rfl ?_
    refine q_skip rfl rfl rfl rfl ?_
    refine q_skip rfl rfl rfl rfl ?_
    refine q_skip rfl rfl rfl rfl ?_
    refine l_skip rfl rfl rfl rfl ?_
    refine q_skip rfl rfl rfl rfl ?_
    refine q_pick_t rfl rfl rfl rfl rfl ?_
    refine r_done ?_
    refine s_keep [1, 36] (e' := [(1, _), (36, _)]) rfl ?_
    refine k_then_n ?_
    refine c_cond_t rfl ?_
    refine c_seq ?_
    refine c_plain (.q 0 (.done)) (by kernel_rfl) ?_
    refine q_assign rfl rfl rfl rfl ?_
    refine r_done ?_
    refine k_then_n ?_
    refine c_ret ?_
    refine k_then_ret ?_
    refine ret1 rfl rfl (()) (by rw [if_neg (fun h => by have h1 := h.th; have h2 := h.va; have h3 := h.vo; have h4 := h.lk; have h5 := h.pl; omega)]) (by trivial) ?_
    exact Tf
   ·
    refine q_field (k := 2) rfl rfl rfl rfl Try.underlying25 rfl Try.sizeOf3 rfl ?_
    refine q_load_c (j := 2) rfl rfl rfl rfl Try.isAgg3 Tk (by first | rfl | exact (Nat.add_zero _).symm) (by rfl) ?_
    have sp_2 := count_spec vo
    refine l_call rfl rfl rfl rfl rfl rfl Try.call100 (sp_2) Ts ?_
    rintro ⟨⟩ -
    try simp only [List.cons_append, List.nil_append]
    refine ag_nil ?_
    refine q_not rfl rfl rfl rfl ?_
    refine q_pick_f rfl rfl rfl rfl rfl ?_
    refine q_move rfl rfl rfl rfl ?_
    refine s_bool_np 24 rfl (fun h4 => ?_) (fun h4 => ?_)
    ·
     refine q_skip rfl rfl rfl rfl ?_
     refine q_skip rfl rfl rfl rfl ?_
     refine l_skip rfl rfl rfl rfl ?_
     refine q_skip rfl rfl rfl rfl ?_
     refine q_pick_t rfl rfl rfl rfl rfl ?_
     refine q_move rfl rfl rfl rfl ?_
     refine q_skip rfl rfl rfl rfl ?_
     refine q_skip rfl rfl rfl rfl ?_
     refine q_skip rfl rfl rfl rfl ?_
     refine l_skip rfl rfl rfl rfl ?_
     refine q_skip rfl rfl rfl rfl ?_
     refine q_pick_t rfl rfl rfl rfl rfl ?_
     refine r_done ?_
     refine s_keep [1, 36] (e' := [(1, _), (36, _)]) rfl ?_
     refine k_then_n ?_
     refine c_cond_t rfl ?_
     refine c_seq ?_
     refine c_plain (.q 0 (.done)) (by kernel_rfl) ?_
     refine q_assign rfl rfl rfl rfl ?_
     refine r_done ?_
     refine k_then_n ?_
     refine c_ret ?_
     refine k_then_ret ?_
     refine ret1 rfl rfl (()) (by rw [if_neg (fun h => by have h1 := h.th; have h2 := h.va; have h3 := h.vo; have h4 := h.lk; have h5 := h.pl; omega)]) (by trivial) ?_
     exact Tf
    ·
     refine q_field (k := 3) rfl rfl rfl rfl Try.underlying25 rfl Try.sizeOf3 rfl ?_
     refine q_load_c (j := 3) rfl rfl rfl rfl Try.isAgg3 Tk (by first | rfl | exact (Nat.add_zero _).symm) (by rfl) ?_
     have sp_3 := count_spec lk
     refine l_call rfl rfl rfl rfl rfl rfl Try.call100 (sp_3) Ts ?_
     rintro ⟨⟩ -
     try simp only [List.cons_append, List.nil_append]
     refine ag_nil ?_
     refine q_not rfl rfl rfl rfl ?_
     refine q_pick_f rfl rfl rfl rfl rfl ?_
     refine q_move rfl rfl rfl rfl ?_
     refine s_bool_np 30 rfl (fun h5 => ?_) (fun h5 => ?_)
     ·
      refine q_skip rfl rfl rfl rfl ?_
      refine q_skip rfl rfl rfl rfl ?_
      refine q_skip rfl rfl rfl rfl ?_
      refine l_skip rfl rfl rfl rfl ?_
      refine q_skip rfl rfl rfl rfl ?_
      refine q_pick_t rfl rfl rfl rfl rfl ?_
      refine r_done ?_
      refine s_keep [1, 36] (e' := [(1, _), (36, _)]) rfl ?_
      refine k_then_n ?_
      refine c_cond_t rfl ?_
      refine c_seq ?_
      refine c_plain (.q 0 (.done)) (by kernel_rfl) ?_
      refine q_assign rfl rfl rfl rfl ?_
      refine r_done ?_
      refine k_then_n ?_
      refine c_ret ?_
      refine k_then_ret ?_
      refine ret1 rfl rfl (()) (by rw [if_neg (fun h => by have h1 := h.th; have h2 := h.va; have h3 := h.vo; have h4 := h.lk; have h5 := h.pl; omega)]) (by trivial) ?_
      exact Tf
     ·
      refine q_field (k := 4) rfl rfl rfl rfl Try.underlying25 rfl Try.sizeOf23 rfl ?_
      refine q_load_c (j := 4) rfl rfl rfl rfl Try.isAgg23 Tk (by first | rfl | exact (Nat.add_zero _).symm) (by rfl) ?_
      refine q_len rfl rfl rfl rfl Try.underlying23 ?_
      have sp_4 := count_spec ((n : Nat) : Int)
      refine l_call rfl rfl rfl rfl rfl rfl Try.call100 (sp_4) Ts ?_
      rintro ⟨⟩ -
      try simp only [List.cons_append, List.nil_append]
      refine ag_nil ?_
      refine q_not rfl rfl rfl rfl ?_
      refine q_pick_f rfl rfl rfl rfl rfl ?_
      refine r_done ?_
      refine s_keep [1, 36] (e' := [(1, _), (36, _)]) rfl ?_
      refine k_then_n ?_
      refine c_cond_np rfl (fun h6 => ?_) (fun h6 => ?_)
      ·
       refine c_seq ?_
       refine c_plain (.q 0 (.done)) (by kernel_rfl) ?_
       refine q_assign rfl rfl rfl rfl ?_
       refine r_done ?_
       refine k_then_n ?_
       refine c_ret ?_
       refine k_then_ret ?_
       refine ret1 rfl rfl (()) (by rw [if_neg (fun h => by have h1 := h.th; have h2 := h.va; have h3 := h.vo; have h4 := h.lk; have h5 := h.pl; omega)]) (by trivial) ?_
       exact Tf
      ·
       refine c_skip ?_
       refine k_then_n ?_
       refine c_seq ?_
       refine c_seq ?_
       refine c_plain (.q 0 (.done)) (by kernel_rfl) ?_
       refine q_assign rfl rfl rfl rfl ?_
       refine r_done ?_
       refine k_then_n ?_
       refine c_block ?_
       refine c_loop2 (α := Nat) (fun (i : Nat) => i ≤ n ∧ (∀ (j : Nat) (p : Int), j < i → pl[j]? = some p → badP p = false)) (fun (i : Nat) => [(3, .int .i64 ((i : Nat) : Int))]) (fun (i : Nat) => []) (fun (i : Nat) => n - i) [1] (er := [(1, _)]) rfl (0) ?_ (by exact ⟨rfl, trivial⟩) (by (try dsimp only); (try simp only [Nat.add_zero, Nat.zero_add]); (repeat ((with_reducible apply Z2); focus (first | (with_reducible (repeat (first | exact Z0 | apply Z1)); done) | (repeat (first | exact Z0 | apply Z1))))); exact Z3) ?_
       · exact ⟨Nat.zero_le _, fun j p h => by omega⟩
       rintro i ⟨hle_i, hI⟩
       try simp only [List.cons_append, List.nil_append]
       refine c_seq ?_
       refine c_seq ?_
       refine c_plain (.q 0 (.q 1 (.q 2 (.q 3 (.q 4 (.done)))))) (by kernel_rfl) ?_
       refine q_move rfl rfl rfl rfl ?_
       refine q_field (k := 4) rfl rfl rfl rfl Try.underlying25 rfl Try.sizeOf23 rfl ?_
       refine q_load_c (j := 4) rfl rfl rfl rfl Try.isAgg23 Tk (by first | rfl | exact (Nat.add_zero _).symm) (by rfl) ?_
       refine q_len rfl rfl rfl rfl Try.underlying23 ?_
       refine q_int rfl rfl rfl rfl rfl (b_lss _ _ _ _) ?_
       refine r_done ?_
       refine s_keep [1, 3, 41] (e' := [(1, _), (3, _), (41, _)]) rfl ?_
       refine k_then_n ?_
       refine c_cond_p rfl (fun hlt => ?_) (fun hlt => ?_)
       ·
        refine c_skip ?_
        refine k_then_n ?_
        refine c_seq ?_
        refine c_block ?_
        refine c_seq ?_
        obtain ⟨p, hp⟩ := get_lt (l := pl) (i := i) (by omega)
        refine c_plain (.q 0 (.q 1 (.q 2 (.q 3 (.q 4 (.q 5 (.q 6 (.q 7 (.q 8 (.q 9 (.q 10 (.q 11 (.q 12 (.q 13 (.done))))))))))))))) (by kernel_rfl) ?_
        refine q_field (k := 4) rfl rfl rfl rfl Try.underlying25 rfl Try.sizeOf23 rfl ?_
        refine q_load_c (j := 4) rfl rfl rfl rfl Try.isAgg23 Tk (by first | rfl | exact (Nat.add_zero _).symm) (by rfl) ?_
        refine q_move rfl rfl rfl rfl ?_
        refine q_idxR (sz := 0) (k := i) rfl rfl rfl rfl rfl Try.underlying23 Try.sizeOf3 (hr) hp encZ_len (by first | rfl | omega) (by omega) ?_
        intro ib47 io47 _ hd47
        refine q_load rfl rfl rfl rfl Try.isAgg3 Tk (hd47 0 (.int .i64 p) rfl) ?_
        refine q_int rfl rfl rfl rfl rfl (b_lss _ _ _ _) ?_
        refine q_move rfl rfl rfl rfl ?_
        refine s_bool_p 50 rfl (fun hp1 => ?_) (fun hp1 => ?_)
        ·
         refine q_skip rfl rfl rfl rfl ?_
         refine q_skip rfl rfl rfl rfl ?_
         refine q_skip rfl rfl rfl rfl ?_
         refine q_skip rfl rfl rfl rfl ?_
         refine q_skip rfl rfl rfl rfl ?_
         refine q_skip rfl rfl rfl rfl ?_
         refine q_pick_t rfl rfl rfl rfl rfl ?_
         refine r_done ?_
         refine s_keep [1, 3, 51, 52, 53, 54, 55, 56, 57] (e' := [(1, _), (3, _), (51, _), (52, _), (53, _), (54, _), (55, _), (56, _), (57, _)]) rfl ?_
         refine k_then_n ?_
         refine c_cond_t rfl ?_
         have hno : ¬ OkS th va vo lk pl := fun h => by
           have := h.pa p (List.mem_of_getElem? hp); omega
         refine c_seq ?_
         refine c_plain (.q 0 (.done)) (by kernel_rfl) ?_
         refine q_assign rfl rfl rfl rfl ?_
         refine r_done ?_
         refine s_keep [2] (e' := [(2, _)]) rfl ?_
         refine k_then_n ?_
         refine c_ret ?_
         refine k_blk_ret ?_
         refine k_then_ret ?_
         refine k_then_ret ?_
         refine k_blk_ret ?_
         refine k_then_ret ?_
         refine ret1 rfl rfl (()) (by rw [if_neg hno]) (by trivial) ?_
         exact Tf
        ·
         refine q_field (k := 4) rfl rfl rfl rfl Try.underlying25 rfl Try.sizeOf23 rfl ?_
         refine q_load_c (j := 4) rfl rfl rfl rfl Try.isAgg23 Tk (by first | rfl | exact (Nat.add_zero _).symm) (by rfl) ?_
         refine q_move rfl rfl rfl rfl ?_
         refine q_idxR (sz := 0) (k := i) rfl rfl rfl rfl rfl Try.underlying23 Try.sizeOf3 (hr) hp encZ_len (by first | rfl | omega) (by omega) ?_
         intro ib54 io54 _ hd54
         refine q_load rfl rfl rfl rfl Try.isAgg3 Tk (hd54 0 (.int .i64 p) rfl) ?_
         refine q_int rfl rfl rfl rfl rfl (b_gtr _ _ _ _) ?_
         refine q_pick_f rfl rfl rfl rfl rfl ?_
         refine r_done ?_
         refine s_keep [1, 3, 51, 52, 53, 54, 55, 56, 57] (e' := [(1, _), (3, _), (51, _), (52, _), (53, _), (54, _), (55, _), (56, _), (57, _)]) rfl ?_
         refine k_then_n ?_
         refine c_cond_p rfl (fun hp2 => ?_) (fun hp2 => ?_)
         ·
          have hno : ¬ OkS th va vo lk pl := fun h => by
            have := h.pa p (List.mem_of_getElem? hp); omega
          refine c_seq ?_
          refine c_plain (.q 0 (.done)) (by kernel_rfl) ?_
          refine q_assign rfl rfl rfl rfl ?_
          refine r_done ?_
          refine s_keep [2] (e' := [(2, _)]) rfl ?_
          refine k_then_n ?_
          refine c_ret ?_
          refine k_blk_ret ?_
          refine k_then_ret ?_
          refine k_then_ret ?_
          refine k_blk_ret ?_
          refine k_then_ret ?_
          refine ret1 rfl rfl (()) (by rw [if_neg hno]) (by trivial) ?_
          exact Tf
         ·
          have hgood : badP p = false := by simp only [badP, Bool.or_eq_false_iff, decide_eq_false_iff_not]; omega
          refine c_skip ?_
          refine k_blk_n ?_
          refine k_then_n ?_
          refine c_plain (.q 0 (.q 1 (.q 2 (.done)))) (by kernel_rfl) ?_
          refine q_move rfl rfl rfl rfl ?_
          refine q_int rfl rfl rfl rfl rfl (b_add' _ (by exact fits_i64 (by omega) (by omega))) ?_
          refine q_assign rfl rfl rfl rfl ?_
          refine r_done ?_
          refine k_then_n ?_
          refine loop_next (x := i) (i + 1) ?_ ?_ ?_ ?_
          · exact ⟨by omega, fun j q hj hq => (by
                by_cases h : j = i
                · subst h; rw [hp] at hq; cases hq; exact hgood
                · exact hI j q (by omega) hq)⟩
          · show n - (i + 1) < n - i; omega
          · exact ⟨rfl, rfl, trivial⟩
          · (try simp only [List.cons_append, List.nil_append]); exact Tf
       ·
        refine c_exit ?_
        refine k_then_exit ?_
        refine k_then_exit ?_
        refine k_blk_here ?_
        refine k_then_n ?_
        refine c_seq ?_
        refine c_plain (.q 0 (.done)) (by kernel_rfl) ?_
        refine q_assign rfl rfl rfl rfl ?_
        refine r_done ?_
        refine k_then_n ?_
        refine c_ret ?_
        refine ret1 rfl rfl (()) (by rw [if_pos (okS_iff.2 ⟨by omega, by omega, by omega, by omega, by omega, fun p q => by
          obtain ⟨j, hj⟩ := List.getElem?_of_mem q
          exact hI j p (by have := (List.getElem?_eq_some_iff.1 hj).1; omega) hj⟩)]) (by trivial) ?_
        exact Tf
theorem rfull_spec (pa : Option Addr) (pc b : Nat) (x : CS) (hx : CInv x) (t : Int) : Spec Try.prog 77 [.pointer (some ⟨b, 0, none⟩), .int .i64 t] [rk pa pc b x] (fun (_ : Unit) => .bool (decide (fullF x t))) (fun _ => True) (fun _ => [rk pa pc b x]) := by
 refine spec_mk (n := 42) Try.func77 rfl rfl rfl ?_
 intro Γ w0
 simp only [argE, List.cons_append, List.nil_append, Nat.zero_add, Nat.reduceAdd]
 refine c_seq ?_
 refine c_plain (.q 0 (.done)) (by kernel_rfl) ?_
 refine q_assign rfl rfl rfl rfl ?_
 refine r_done ?_
 refine k_then_n ?_
 refine c_seq ?_
 refine c_seq ?_
 refine s_take (A := rk pa pc b x) Tk ?_
 refine rk_open fun ta tc oa oc ba bc => ?_
 refine c_plain (.q 0 (.q 1 (.q 2 (.q 3 (.q 4 (.q 5 (.q 6 (.q 7 (.q 8 ((.l 9 [] (.q 10 (.q 11 (.done)))))))))))))) (by kernel_rfl) ?_
 refine q_move rfl rfl rfl rfl ?_
 refine q_eq_nil rfl rfl rfl rfl Try.underlying91 ?_
 refine s_eq 7 rfl (v' := .bool false) rfl ?_
 refine q_move rfl rfl rfl rfl ?_
 refine q_move rfl rfl rfl rfl ?_
 refine q_move rfl rfl rfl rfl ?_
 refine q_nil_p rfl rfl rfl rfl ?_
 refine q_field (k := 5) rfl rfl rfl rfl Try.underlying151 rfl Try.sizeOf149 rfl ?_
 refine q_load_c (j := 5) rfl rfl rfl rfl Try.isAgg149 Tk (by first | rfl | exact (Nat.add_zero _).symm) (by rfl) ?_
 refine q_len rfl rfl rfl rfl Try.underlying149 ?_
 have sp_1 := below_spec t ((x.T.length : Nat) : Int)
 refine l_call rfl rfl rfl rfl rfl rfl Try.call76 (sp_1) Ts ?_
 rintro ⟨⟩ -
 try simp only [List.cons_append, List.nil_append]
 refine ag_nil ?_
 refine q_not rfl rfl rfl rfl ?_
 refine q_pick_f rfl rfl rfl rfl rfl ?_
 refine r_done ?_
 refine s_keep [0, 1, 17] (e' := [(0, _), (1, _), (17, _)]) rfl ?_
 refine k_then_n ?_
 refine c_cond_np rfl (fun hin => ?_) (fun hin => ?_)
 ·
  refine c_seq ?_
  refine c_plain (.q 0 (.done)) (by kernel_rfl) ?_
  refine q_assign rfl rfl rfl rfl ?_
  refine r_done ?_
  refine k_then_n ?_
  refine c_ret ?_
  refine k_then_ret ?_
  refine rk_fold (b := b) x (pa := pa) (pc := pc) (ta := ta) (tc := tc) (oa := oa) (oc := oc) (ba := ba) (bc := bc) Ts (by rfl) (by rfl) (by rfl) (by rfl) ?_
  refine ret1 rfl rfl (()) (by congr 1; symm; rw [decide_eq_false_iff_not]; exact full_out hin) (by trivial) ?_
  exact Tf
 ·
  have hst := stF_at (x := x) hin.1 hin.2
  refine c_skip ?_
  refine k_then_n ?_
  refine c_seq ?_
  refine c_plain (.q 0 (.q 1 (.q 2 (.q 3 (.q 4 (.q 5 (.q 6 ((.l 7 [] ((.l 8 [] (.done)))))))))))) (by kernel_rfl) ?_
  refine q_move rfl rfl rfl rfl ?_
  refine q_nil_p rfl rfl rfl rfl ?_
  refine q_field (k := 5) rfl rfl rfl rfl Try.underlying151 rfl Try.sizeOf149 rfl ?_
  refine q_load_c (j := 5) rfl rfl rfl rfl Try.isAgg149 Tk (by first | rfl | exact (Nat.add_zero _).symm) (by rfl) ?_
  refine q_move rfl rfl rfl rfl ?_
  refine q_idxO (sz := 2) (k := t.toNat) (enc := enc3) (xs := x.T) rfl rfl rfl rfl rfl Try.underlying149 Try.sizeOf107 hst (by first | rfl | omega) (by omega) Tk ?_
  intro ib23 io23 ha23 hl23 hc23
  refine q_loadN_O (j := 0) (k' := t.toNat) (us := [_, _, _]) (enc := enc3) (off := io23) rfl rfl rfl rfl Try.isAgg107 Try.sizeOf107 ha23 enc3_len hst Tk (by first | rfl | exact (Nat.add_zero _).symm | omega) (by rfl) rfl ?_
  refine l_alloc rfl rfl rfl Try.zeroValue107 (zs := [.int .i64 0, .int .i64 0, .int .i64 0]) rfl ?_
  intro b5
  refine ag_nil ?_
  refine l_store (j := 0) rfl rfl rfl rfl Try.sizeOf107 (us := [_, _, _]) rfl rfl rfl Tk (by first | rfl | exact (Nat.add_zero _).symm) (by first | decide | (simp; done) | omega) ?_
  simp only [setL, List.set]
  refine ag_nil ?_
  refine r_done ?_
  refine s_keep [0, 5] (e' := [(0, _), (5, _)]) rfl ?_
  refine k_then_n ?_
  refine c_seq ?_
  refine c_draw rfl (.q 0 (.q 1 (.q 2 (.q 3 (.q 4 (.q 5 (.q 6 (.q 7 (.q 8 (.q 9 (.q 10 (.q 11 (.q 12 (.q 13 (.q 14 (.q 15 (.q 16 (.q 17 (.done))))))))))))))))))) (by kernel_rfl) ?_
  refine q_field (k := 0) rfl rfl rfl rfl Try.underlying107 rfl Try.sizeOf105 rfl ?_
  refine q_load_c (j := 0) rfl rfl rfl rfl Try.isAgg105 Tk (by first | rfl | exact (Nat.add_zero _).symm) (by rfl) ?_
  refine q_int rfl rfl rfl rfl rfl (b_eql _ _ _ _) ?_
  refine q_move rfl rfl rfl rfl ?_
  refine s_bool_p 28 rfl (fun h2 => ?_) (fun h2 => ?_)
  ·
   have hsi := (stF_inv hx t).2.2.1 h2
   have hop := opF_at hsi.1 hsi.2.1
   refine q_field (k := 2) rfl rfl rfl rfl Try.underlying107 rfl Try.sizeOf3 rfl ?_
   refine q_load_c (j := 2) rfl rfl rfl rfl Try.isAgg3 Tk (by first | rfl | exact (Nat.add_zero _).symm) (by rfl) ?_
   refine q_move rfl rfl rfl rfl ?_
   refine q_nil_p rfl rfl rfl rfl ?_
   refine q_field (k := 7) rfl rfl rfl rfl Try.underlying151 rfl Try.sizeOf144 rfl ?_
   refine q_load_c (j := 7) rfl rfl rfl rfl Try.isAgg144 Tk (by first | rfl | exact (Nat.add_zero _).symm) (by rfl) ?_
   refine q_field (k := 1) rfl rfl rfl rfl Try.underlying107 rfl Try.sizeOf3 rfl ?_
   refine q_load_c (j := 1) rfl rfl rfl rfl Try.isAgg3 Tk (by first | rfl | exact (Nat.add_zero _).symm) (by rfl) ?_
   refine q_idxO (sz := 1) (k := (stF x t).2.1.toNat) (enc := enc2) (xs := x.B) rfl rfl rfl rfl rfl Try.underlying144 Try.sizeOf153 hop (by first | rfl | omega) (by omega) Tk ?_
   intro ib37 io37 ha37 hl37 hc37
   refine q_field (k := 0) rfl rfl rfl rfl Try.underlying153 rfl Try.sizeOf3 rfl ?_
   refine q_load_O (v := (.int .i64 ((opF x (stF x t).2.1).1))) (j := 0) (k' := (stF x t).2.1.toNat) (enc := enc2) (off := io37) rfl rfl rfl rfl Try.isAgg3 ha37 enc2_len hop Tk (by first | rfl | exact (Nat.add_zero _).symm | omega) (by rfl) ?_
   refine q_int rfl rfl rfl rfl rfl (b_lss _ _ _ _) ?_
   refine q_pick_t rfl rfl rfl rfl rfl ?_
   refine q_assign rfl rfl rfl rfl ?_
   refine r_done ?_
   refine s_keep [4] (e' := [(4, _)]) rfl ?_
   refine k_then_n ?_
   refine c_ret ?_
   refine rk_fold (b := b) x (pa := pa) (pc := pc) (ta := ta) (tc := tc) (oa := oa) (oc := oc) (ba := ba) (bc := bc) Ts (by rfl) (by rfl) (by rfl) (by rfl) ?_
   refine ret1 rfl rfl (()) (by congr 1; first | (rw [decide_eq_decide]; simp [fullF, h2]; done) | (symm; rw [decide_eq_false_iff_not]; simp [fullF, h2])) (by trivial) ?_
   exact Tf
  ·
   refine q_skip rfl rfl rfl rfl ?_
   refine q_skip rfl rfl rfl rfl ?_
   refine q_skip rfl rfl rfl rfl ?_
   refine q_skip rfl rfl rfl rfl ?_
   refine q_skip rfl rfl rfl rfl ?_
   refine q_skip rfl rfl rfl rfl ?_
   refine q_skip rfl rfl rfl rfl ?_
   refine q_skip rfl rfl rfl rfl ?_
   refine q_skip rfl rfl rfl rfl ?_
   refine q_skip rfl rfl rfl rfl ?_
   refine q_skip rfl rfl rfl rfl ?_
   refine q_skip rfl rfl rfl rfl ?_
   refine q_pick_f rfl rfl rfl rfl rfl ?_
   refine q_assign rfl rfl rfl rfl ?_
   refine r_done ?_
   refine s_keep [4] (e' := [(4, _)]) rfl ?_
   refine k_then_n ?_
   refine c_ret ?_
   refine rk_fold (b := b) x (pa := pa) (pc := pc) (ta := ta) (tc := tc) (oa := oa) (oc := oc) (ba := ba) (bc := bc) Ts (by rfl) (by rfl) (by rfl) (by rfl) ?_
   refine ret1 rfl rfl (()) (by congr 1; first | (rw [decide_eq_decide]; simp [fullF, h2]; done) | (symm; rw [decide_eq_false_iff_not]; simp [fullF, h2])) (by trivial) ?_
   exact Tf
theorem rcan_spec (pa : Option Addr) (pc b : Nat) (x : CS) (hx : CInv x) (k t o : Int) : Spec Try.prog 33 [.pointer (some ⟨b, 0, none⟩), .agg #[.int .i64 k, .int .i64 t, .int .i64 o]] [rk pa pc b x] (fun (_ : Unit) => .bool (decide (canF x k t o))) (fun _ => True) (fun _ => [rk pa pc b x]) := by
 refine spec_mk (n := 176) Try.func33 rfl rfl rfl ?_
 intro Γ w0
 simp only [argE, List.cons_append, List.nil_append, Nat.zero_add, Nat.reduceAdd]
 have htl := hx.tl
 have hol := hx.ol
 have hbl := hx.bl
 refine c_seq ?_
 refine c_plain ((.l 0 [] (.q 1 (.done)))) (by kernel_rfl) ?_
 refine l_box rfl rfl rfl rfl (us := [_, _, _]) rfl ?_
 intro b3
 refine ag_nil ?_
 refine q_assign rfl rfl rfl rfl ?_
 refine r_done ?_
 refine k_then_n ?_
 refine c_seq ?_
 refine c_seq ?_
 refine s_take (A := rk pa pc b x) Tk ?_
 refine rk_open fun ta tc oa oc ba bc => ?_
 refine c_draw rfl (.q 0 (.q 1 (.q 2 (.q 3 (.q 4 (.q 5 (.q 6 (.q 7 (.q 8 (.q 9 ((.l 10 [] (.q 11 (.q 12 (.done))))))))))))))) (by kernel_rfl) ?_
 refine q_move rfl rfl rfl rfl ?_
 refine q_eq_nil rfl rfl rfl rfl Try.underlying91 ?_
 refine s_eq 7 rfl (v' := .bool false) rfl ?_
 refine q_move rfl rfl rfl rfl ?_
 refine q_field (k := 1) rfl rfl rfl rfl Try.underlying36 rfl Try.sizeOf3 rfl ?_
 refine q_load_c (j := 1) rfl rfl rfl rfl Try.isAgg3 Tk (by first | rfl | exact (Nat.add_zero _).symm) (by rfl) ?_
 refine q_move rfl rfl rfl rfl ?_
 refine q_nil_p rfl rfl rfl rfl ?_
 refine q_field (k := 5) rfl rfl rfl rfl Try.underlying151 rfl Try.sizeOf149 rfl ?_
 refine q_load_c (j := 5) rfl rfl rfl rfl Try.isAgg149 Tk (by first | rfl | exact (Nat.add_zero _).symm) (by rfl) ?_
 refine q_len rfl rfl rfl rfl Try.underlying149 ?_
 have sp_1 := below_spec t ((x.T.length : Nat) : Int)
 refine l_call rfl rfl rfl rfl rfl rfl Try.call76 (sp_1) Ts ?_
 rintro ⟨⟩ -
 try simp only [List.cons_append, List.nil_append]
 refine ag_nil ?_
 refine q_not rfl rfl rfl rfl ?_
 refine q_pick_f rfl rfl rfl rfl rfl ?_
 refine r_done ?_
 refine s_keep [0, 3, 18] (e' := [(0, _), (3, _), (18, _)]) rfl ?_
 refine k_then_n ?_
 refine c_cond_np rfl (fun hin => ?_) (fun hin => ?_)
 ·
  refine c_seq ?_
  refine c_plain (.q 0 (.done)) (by kernel_rfl) ?_
  refine q_assign rfl rfl rfl rfl ?_
  refine r_done ?_
  refine k_then_n ?_
  refine c_ret ?_
  refine k_then_ret ?_
  refine rk_fold (b := b) x (pa := pa) (pc := pc) (ta := ta) (tc := tc) (oa := oa) (oc := oc) (ba := ba) (bc := bc) Ts (by rfl) (by rfl) (by rfl) (by rfl) ?_
  refine ret1 rfl rfl (()) (by congr 1; symm; rw [decide_eq_false_iff_not]; exact can_out hin) (by trivial) ?_
  exact Tf
 ·
  have hst := stF_at (x := x) hin.1 hin.2
  refine c_skip ?_
  refine k_then_n ?_
  refine c_seq ?_
  refine c_draw rfl (.q 0 (.q 1 (.q 2 (.q 3 (.q 4 (.q 5 (.q 6 (.q 7 ((.l 8 [3, 5, 7] ((.l 9 [] (.done))))))))))))) (by kernel_rfl) ?_
  refine q_move rfl rfl rfl rfl ?_
  refine q_nil_p rfl rfl rfl rfl ?_
  refine q_field (k := 5) rfl rfl rfl rfl Try.underlying151 rfl Try.sizeOf149 rfl ?_
  refine q_load_c (j := 5) rfl rfl rfl rfl Try.isAgg149 Tk (by first | rfl | exact (Nat.add_zero _).symm) (by rfl) ?_
  refine q_field (k := 1) rfl rfl rfl rfl Try.underlying36 rfl Try.sizeOf3 rfl ?_
  refine q_load_c (j := 1) rfl rfl rfl rfl Try.isAgg3 Tk (by first | rfl | exact (Nat.add_zero _).symm) (by rfl) ?_
  refine q_idxO (sz := 2) (k := t.toNat) (enc := enc3) (xs := x.T) rfl rfl rfl rfl rfl Try.underlying149 Try.sizeOf107 hst (by first | rfl | omega) (by omega) Tk ?_
  intro ib25 io25 ha25 hl25 hc25
  refine q_loadN_O (j := 0) (k' := t.toNat) (us := [_, _, _]) (enc := enc3) (off := io25) rfl rfl rfl rfl Try.isAgg107 Try.sizeOf107 ha25 enc3_len hst Tk (by first | rfl | exact (Nat.add_zero _).symm | omega) (by rfl) rfl ?_
  refine l_alloc rfl rfl rfl Try.zeroValue107 (zs := [.int .i64 0, .int .i64 0, .int .i64 0]) rfl ?_
  intro b5
  refine ag_load_c (q := 5) rfl rfl rfl Try.isAgg149 Tk (by first | rfl | exact (Nat.add_zero _).symm) (by rfl) ?_
  refine ag_load_c (q := 1) rfl rfl rfl Try.isAgg3 Tk (by first | rfl | exact (Nat.add_zero _).symm) (by rfl) ?_
  refine ag_loadN_O (j := 0) (k' := t.toNat) (us := [_, _, _]) (enc := enc3) (off := io25) rfl rfl rfl Try.isAgg107 Try.sizeOf107 ha25 enc3_len hst Tk (by first | rfl | exact (Nat.add_zero _).symm | omega) (by rfl) rfl ?_
  refine ag_nil ?_
  refine l_store (j := 0) rfl rfl rfl rfl Try.sizeOf107 (us := [_, _, _]) rfl rfl rfl Tk (by first | rfl | exact (Nat.add_zero _).symm) (by first | decide | (simp; done) | omega) ?_
  simp only [setL, List.set]
  refine ag_nil ?_
  refine r_done ?_
  refine s_keep [0, 3, 5] (e' := [(0, _), (3, _), (5, _)]) rfl ?_
  refine k_then_n ?_
  refine c_seq ?_
  refine c_seq ?_
  refine c_plain (.q 0 (.q 1 (.q 2 (.done)))) (by kernel_rfl) ?_
  refine q_field (k := 0) rfl rfl rfl rfl Try.underlying107 rfl Try.sizeOf105 rfl ?_
  refine q_load_c (j := 0) rfl rfl rfl rfl Try.isAgg105 Tk (by first | rfl | exact (Nat.add_zero _).symm) (by rfl) ?_
  refine q_int rfl rfl rfl rfl rfl (b_eql _ _ _ _) ?_
  refine r_done ?_
  refine k_then_n ?_
  refine c_cond_p rfl (fun h2 => ?_) (fun h2 => ?_)
  ·
   refine c_seq ?_
   refine c_plain (.q 0 (.q 1 (.q 2 (.q 3 (.q 4 (.q 5 (.q 6 (.q 7 (.q 8 (.q 9 (.q 10 (.q 11 (.q 12 (.q 13 ((.l 14 [] (.q 15 (.q 16 (.done))))))))))))))))))) (by kernel_rfl) ?_
   refine q_field (k := 0) rfl rfl rfl rfl Try.underlying36 rfl Try.sizeOf34 rfl ?_
   refine q_load_c (j := 0) rfl rfl rfl rfl Try.isAgg34 Tk (by first | rfl | exact (Nat.add_zero _).symm) (by rfl) ?_
   refine q_int rfl rfl rfl rfl rfl (b_eql _ _ _ _) ?_
   refine q_move rfl rfl rfl rfl ?_
   refine s_bool_p 33 rfl (fun h10 => ?_) (fun h10 => ?_)
   ·
    refine q_field (k := 2) rfl rfl rfl rfl Try.underlying36 rfl Try.sizeOf3 rfl ?_
    refine q_load_c (j := 2) rfl rfl rfl rfl Try.isAgg3 Tk (by first | rfl | exact (Nat.add_zero _).symm) (by rfl) ?_
    refine q_field (k := 1) rfl rfl rfl rfl Try.underlying107 rfl Try.sizeOf3 rfl ?_
    refine q_load_c (j := 1) rfl rfl rfl rfl Try.isAgg3 Tk (by first | rfl | exact (Nat.add_zero _).symm) (by rfl) ?_
    refine q_int rfl rfl rfl rfl rfl (b_eql _ _ _ _) ?_
    refine q_pick_t rfl rfl rfl rfl rfl ?_
    refine q_move rfl rfl rfl rfl ?_
    refine s_bool_p 40 rfl (fun hob => ?_) (fun hob => ?_)
    ·
     refine q_move rfl rfl rfl rfl ?_
     refine q_field (k := 1) rfl rfl rfl rfl Try.underlying36 rfl Try.sizeOf3 rfl ?_
     refine q_load_c (j := 1) rfl rfl rfl rfl Try.isAgg3 Tk (by first | rfl | exact (Nat.add_zero _).symm) (by rfl) ?_
     refine rk_fold (b := b) x (pa := pa) (pc := pc) (ta := ta) (tc := tc) (oa := oa) (oc := oc) (ba := ba) (bc := bc) Ts (by rfl) (by rfl) (by rfl) (by rfl) ?_
     have sp_2 := rfull_spec pa pc b x hx t
     refine l_call rfl rfl rfl rfl rfl rfl Try.call77 (sp_2) Ts ?_
     rintro ⟨⟩ -
     try simp only [List.cons_append, List.nil_append]
     refine ag_nil ?_
     refine s_take (A := rk pa pc b x) Tk ?_
     refine rk_open fun ta tc oa oc ba bc => ?_
     refine q_pick_t rfl rfl rfl rfl rfl ?_
     refine q_assign rfl rfl rfl rfl ?_
     refine r_done ?_
     refine s_keep [4] (e' := [(4, _)]) rfl ?_
     refine k_then_n ?_
     refine c_ret ?_
     refine k_then_ret ?_
     refine rk_fold (b := b) x (pa := pa) (pc := pc) (ta := ta) (tc := tc) (oa := oa) (oc := oc) (ba := ba) (bc := bc) Ts (by rfl) (by rfl) (by rfl) (by rfl) ?_
     refine ret1 rfl rfl (()) (by congr 1; first | (rw [decide_eq_decide, can_wait h2]; simp_all; done) | (symm; rw [decide_eq_false_iff_not, can_wait h2]; simp_all)) (by trivial) ?_
     exact Tf
    ·
     refine q_skip rfl rfl rfl rfl ?_
     refine q_skip rfl rfl rfl rfl ?_
     refine q_skip rfl rfl rfl rfl ?_
     refine l_skip rfl rfl rfl rfl ?_
     refine q_pick_f rfl rfl rfl rfl rfl ?_
     refine q_assign rfl rfl rfl rfl ?_
     refine r_done ?_
     refine s_keep [4] (e' := [(4, _)]) rfl ?_
     refine k_then_n ?_
     refine c_ret ?_
     refine k_then_ret ?_
     refine rk_fold (b := b) x (pa := pa) (pc := pc) (ta := ta) (tc := tc) (oa := oa) (oc := oc) (ba := ba) (bc := bc) Ts (by rfl) (by rfl) (by rfl) (by rfl) ?_
     refine ret1 rfl rfl (()) (by congr 1; first | (rw [decide_eq_decide, can_wait h2]; simp_all; done) | (symm; rw [decide_eq_false_iff_not, can_wait h2]; simp_all)) (by trivial) ?_
     exact Tf
   ·
    refine q_skip rfl rfl rfl rfl ?_
    refine q_skip rfl rfl rfl rfl ?_
    refine q_skip rfl rfl rfl rfl ?_
    refine q_skip rfl rfl rfl rfl ?_
    refine q_skip rfl rfl rfl rfl ?_
    refine q_pick_f rfl rfl rfl rfl rfl ?_
    refine q_move rfl rfl rfl rfl ?_
    refine q_skip rfl rfl rfl rfl ?_
    refine q_skip rfl rfl rfl rfl ?_
    refine q_skip rfl rfl rfl rfl ?_
    refine l_skip rfl rfl rfl rfl ?_
    refine q_pick_f rfl rfl rfl rfl rfl ?_
    refine q_assign rfl rfl rfl rfl ?_
    refine r_done ?_
    refine s_keep [4] (e' := [(4, _)]) rfl ?_
    refine k_then_n ?_
    refine c_ret ?_
    refine k_then_ret ?_
    refine rk_fold (b := b) x (pa := pa) (pc := pc) (ta := ta) (tc := tc) (oa := oa) (oc := oc) (ba := ba) (bc := bc) Ts (by rfl) (by rfl) (by rfl) (by rfl) ?_
    refine ret1 rfl rfl (()) (by congr 1; first | (rw [decide_eq_decide, can_wait h2]; simp_all; done) | (symm; rw [decide_eq_false_iff_not, can_wait h2]; simp_all)) (by trivial) ?_
    exact Tf
  ·
   refine c_skip ?_
   refine k_then_n ?_
   refine c_seq ?_
   refine c_seq ?_
   refine c_plain (.q 0 (.q 1 (.q 2 (.done)))) (by kernel_rfl) ?_
   refine q_field (k := 0) rfl rfl rfl rfl Try.underlying107 rfl Try.sizeOf105 rfl ?_
   refine q_load_c (j := 0) rfl rfl rfl rfl Try.isAgg105 Tk (by first | rfl | exact (Nat.add_zero _).symm) (by rfl) ?_
   refine q_int rfl rfl rfl rfl rfl (b_neq _ _ _ _) ?_
   refine r_done ?_
   refine s_keep [0, 3, 48] (e' := [(0, _), (3, _), (48, _)]) rfl ?_
   refine k_then_n ?_
   refine c_cond_p rfl (fun h1 => ?_) (fun h1 => ?_)
   ·
    refine c_seq ?_
    refine c_plain (.q 0 (.done)) (by kernel_rfl) ?_
    refine q_assign rfl rfl rfl rfl ?_
    refine r_done ?_
    refine k_then_n ?_
    refine c_ret ?_
    refine k_then_ret ?_
    refine rk_fold (b := b) x (pa := pa) (pc := pc) (ta := ta) (tc := tc) (oa := oa) (oc := oc) (ba := ba) (bc := bc) Ts (by rfl) (by rfl) (by rfl) (by rfl) ?_
    refine ret1 rfl rfl (()) (by congr 1; symm; rw [decide_eq_false_iff_not]; exact can_not h2 (.inl h1)) (by trivial) ?_
    exact Tf
   ·
    have h1 : (stF x t).1 = 1 := by omega
    refine c_skip ?_
    refine k_then_n ?_
    refine c_seq ?_
    refine c_seq ?_
    refine c_plain (.q 0 (.q 1 (.done))) (by kernel_rfl) ?_
    refine q_field (k := 0) rfl rfl rfl rfl Try.underlying36 rfl Try.sizeOf34 rfl ?_
    refine q_load_c (j := 0) rfl rfl rfl rfl Try.isAgg34 Tk (by first | rfl | exact (Nat.add_zero _).symm) (by rfl) ?_
    refine r_done ?_
    refine k_then_n ?_
    refine c_block ?_
    refine c_seq ?_
    refine c_seq ?_
    refine c_plain (.q 0 (.q 1 (.done))) (by kernel_rfl) ?_
    refine q_int rfl rfl rfl rfl rfl (b_eql _ _ _ _) ?_
    refine q_assign rfl rfl rfl rfl ?_
    refine r_done ?_
    refine k_then_n ?_
    refine c_cond_p rfl (fun k1 => ?_) (fun k1 => ?_)
    ·
     refine s_eq 51 rfl (v' := .bool true) (by rw [decide_eq_true k1]) ?_
     refine c_skip ?_
     refine k_then_n ?_
     refine c_cond_t rfl ?_
     refine c_seq ?_
     refine c_draw rfl (.q 0 (.q 1 (.q 2 (.q 3 (.q 4 (.q 5 (.q 6 ((.l 7 [] (.q 8 (.done))))))))))) (by kernel_rfl) ?_
     refine q_field (k := 2) rfl rfl rfl rfl Try.underlying36 rfl Try.sizeOf3 rfl ?_
     refine q_load_c (j := 2) rfl rfl rfl rfl Try.isAgg3 Tk (by first | rfl | exact (Nat.add_zero _).symm) (by rfl) ?_
     refine q_move rfl rfl rfl rfl ?_
     refine q_nil_p rfl rfl rfl rfl ?_
     refine q_field (k := 0) rfl rfl rfl rfl Try.underlying151 rfl Try.sizeOf25 rfl ?_
     refine q_field (k := 1) rfl rfl rfl rfl Try.underlying25 rfl Try.sizeOf3 rfl ?_
     refine q_load_c (j := 1) rfl rfl rfl rfl Try.isAgg3 Tk (by first | rfl | exact (Nat.add_zero _).symm) (by rfl) ?_
     have sp_3 := below_spec o x.va
     refine l_call rfl rfl rfl rfl rfl rfl Try.call76 (sp_3) Ts ?_
     rintro ⟨⟩ -
     try simp only [List.cons_append, List.nil_append]
     refine ag_nil ?_
     refine q_assign rfl rfl rfl rfl ?_
     refine r_done ?_
     refine s_keep [4] (e' := [(4, _)]) rfl ?_
     refine k_then_n ?_
     refine c_ret ?_
     refine k_blk_ret ?_
     refine k_then_ret ?_
     refine rk_fold (b := b) x (pa := pa) (pc := pc) (ta := ta) (tc := tc) (oa := oa) (oc := oc) (ba := ba) (bc := bc) Ts (by rfl) (by rfl) (by rfl) (by rfl) ?_
     refine ret1 rfl rfl (()) (by congr 1; rw [decide_eq_decide, can_run' h1, okK_k.1 (.inl k1)]; try rfl) (by trivial) ?_
     exact Tf
    ·
     refine s_eq 51 rfl (v' := .bool false) (by rw [decide_eq_false k1]) ?_
     refine c_plain (.q 0 (.q 1 (.done))) (by kernel_rfl) ?_
     refine q_int rfl rfl rfl rfl rfl (b_eql _ _ _ _) ?_
     refine q_assign rfl rfl rfl rfl ?_
     refine r_done ?_
     refine s_keep [0, 3, 50, 51] (e' := [(0, _), (3, _), (50, _), (51, _)]) rfl ?_
     refine k_then_n ?_
     refine c_cond_p rfl (fun k2 => ?_) (fun k2 => ?_)
     ·
      refine c_seq ?_
      refine c_draw rfl (.q 0 (.q 1 (.q 2 (.q 3 (.q 4 (.q 5 (.q 6 ((.l 7 [] (.q 8 (.done))))))))))) (by kernel_rfl) ?_
      refine q_field (k := 2) rfl rfl rfl rfl Try.underlying36 rfl Try.sizeOf3 rfl ?_
      refine q_load_c (j := 2) rfl rfl rfl rfl Try.isAgg3 Tk (by first | rfl | exact (Nat.add_zero _).symm) (by rfl) ?_
      refine q_move rfl rfl rfl rfl ?_
      refine q_nil_p rfl rfl rfl rfl ?_
      refine q_field (k := 0) rfl rfl rfl rfl Try.underlying151 rfl Try.sizeOf25 rfl ?_
      refine q_field (k := 1) rfl rfl rfl rfl Try.underlying25 rfl Try.sizeOf3 rfl ?_
      refine q_load_c (j := 1) rfl rfl rfl rfl Try.isAgg3 Tk (by first | rfl | exact (Nat.add_zero _).symm) (by rfl) ?_
      have sp_4 := below_spec o x.va
      refine l_call rfl rfl rfl rfl rfl rfl Try.call76 (sp_4) Ts ?_
      rintro ⟨⟩ -
      try simp only [List.cons_append, List.nil_append]
      refine ag_nil ?_
      refine q_assign rfl rfl rfl rfl ?_
      refine r_done ?_
      refine s_keep [4] (e' := [(4, _)]) rfl ?_
      refine k_then_n ?_
      refine c_ret ?_
      refine k_blk_ret ?_
      refine k_then_ret ?_
      refine rk_fold (b := b) x (pa := pa) (pc := pc) (ta := ta) (tc := tc) (oa := oa) (oc := oc) (ba := ba) (bc := bc) Ts (by rfl) (by rfl) (by rfl) (by rfl) ?_
      refine ret1 rfl rfl (()) (by congr 1; rw [decide_eq_decide, can_run' h1, okK_k.1 (.inr k2)]; try rfl) (by trivial) ?_
      exact Tf
     ·
      refine c_seq ?_
      refine c_seq ?_
      refine c_plain (.q 0 (.q 1 (.done))) (by kernel_rfl) ?_
      refine q_int rfl rfl rfl rfl rfl (b_eql _ _ _ _) ?_
      refine q_assign rfl rfl rfl rfl ?_
      refine r_done ?_
      refine k_then_n ?_
      refine c_cond_p rfl (fun k3 => ?_) (fun k3 => ?_)
      ·
       refine s_eq 62 rfl (v' := .bool true) (by rw [decide_eq_true k3]) ?_
       refine c_skip ?_
       refine k_then_n ?_
       refine c_cond_t rfl ?_
       refine c_seq ?_
       refine c_draw rfl (.q 0 (.q 1 (.q 2 (.q 3 (.q 4 (.q 5 (.q 6 ((.l 7 [] (.q 8 (.done))))))))))) (by kernel_rfl) ?_
       refine q_field (k := 2) rfl rfl rfl rfl Try.underlying36 rfl Try.sizeOf3 rfl ?_
       refine q_load_c (j := 2) rfl rfl rfl rfl Try.isAgg3 Tk (by first | rfl | exact (Nat.add_zero _).symm) (by rfl) ?_
       refine q_move rfl rfl rfl rfl ?_
       refine q_nil_p rfl rfl rfl rfl ?_
       refine q_field (k := 0) rfl rfl rfl rfl Try.underlying151 rfl Try.sizeOf25 rfl ?_
       refine q_field (k := 2) rfl rfl rfl rfl Try.underlying25 rfl Try.sizeOf3 rfl ?_
       refine q_load_c (j := 2) rfl rfl rfl rfl Try.isAgg3 Tk (by first | rfl | exact (Nat.add_zero _).symm) (by rfl) ?_
       have sp_5 := below_spec o x.vo
       refine l_call rfl rfl rfl rfl rfl rfl Try.call76 (sp_5) Ts ?_
       rintro ⟨⟩ -
       try simp only [List.cons_append, List.nil_append]
       refine ag_nil ?_
       refine q_assign rfl rfl rfl rfl ?_
       refine r_done ?_
       refine s_keep [4] (e' := [(4, _)]) rfl ?_
       refine k_then_n ?_
       refine c_ret ?_
       refine k_blk_ret ?_
       refine k_then_ret ?_
       refine rk_fold (b := b) x (pa := pa) (pc := pc) (ta := ta) (tc := tc) (oa := oa) (oc := oc) (ba := ba) (bc := bc) Ts (by rfl) (by rfl) (by rfl) (by rfl) ?_
       refine ret1 rfl rfl (()) (by congr 1; rw [decide_eq_decide, can_run' h1, okK_k.2.1 (.inl k3)]; try rfl) (by trivial) ?_
       exact Tf
      ·
       refine s_eq 62 rfl (v' := .bool false) (by rw [decide_eq_false k3]) ?_
       refine c_plain (.q 0 (.q 1 (.done))) (by kernel_rfl) ?_
       refine q_int rfl rfl rfl rfl rfl (b_eql _ _ _ _) ?_
       refine q_assign rfl rfl rfl rfl ?_
       refine r_done ?_
       refine k_then_n ?_
       refine c_cond_p rfl (fun k4 => ?_) (fun k4 => ?_)
       ·
        refine c_seq ?_
        refine c_draw rfl (.q 0 (.q 1 (.q 2 (.q 3 (.q 4 (.q 5 (.q 6 ((.l 7 [] (.q 8 (.done))))))))))) (by kernel_rfl) ?_
        refine q_field (k := 2) rfl rfl rfl rfl Try.underlying36 rfl Try.sizeOf3 rfl ?_
        refine q_load_c (j := 2) rfl rfl rfl rfl Try.isAgg3 Tk (by first | rfl | exact (Nat.add_zero _).symm) (by rfl) ?_
        refine q_move rfl rfl rfl rfl ?_
        refine q_nil_p rfl rfl rfl rfl ?_
        refine q_field (k := 0) rfl rfl rfl rfl Try.underlying151 rfl Try.sizeOf25 rfl ?_
        refine q_field (k := 2) rfl rfl rfl rfl Try.underlying25 rfl Try.sizeOf3 rfl ?_
        refine q_load_c (j := 2) rfl rfl rfl rfl Try.isAgg3 Tk (by first | rfl | exact (Nat.add_zero _).symm) (by rfl) ?_
        have sp_6 := below_spec o x.vo
        refine l_call rfl rfl rfl rfl rfl rfl Try.call76 (sp_6) Ts ?_
        rintro ⟨⟩ -
        try simp only [List.cons_append, List.nil_append]
        refine ag_nil ?_
        refine q_assign rfl rfl rfl rfl ?_
        refine r_done ?_
        refine s_keep [4] (e' := [(4, _)]) rfl ?_
        refine k_then_n ?_
        refine c_ret ?_
        refine k_blk_ret ?_
        refine k_then_ret ?_
        refine rk_fold (b := b) x (pa := pa) (pc := pc) (ta := ta) (tc := tc) (oa := oa) (oc := oc) (ba := ba) (bc := bc) Ts (by rfl) (by rfl) (by rfl) (by rfl) ?_
        refine ret1 rfl rfl (()) (by congr 1; rw [decide_eq_decide, can_run' h1, okK_k.2.1 (.inr k4)]; try rfl) (by trivial) ?_
        exact Tf
       ·
        refine c_seq ?_
        refine c_plain (.q 0 (.q 1 (.done))) (by kernel_rfl) ?_
        refine q_int rfl rfl rfl rfl rfl (b_eql _ _ _ _) ?_
        refine q_assign rfl rfl rfl rfl ?_
        refine r_done ?_
        refine s_keep [0, 3, 50, 73] (e' := [(0, _), (3, _), (50, _), (73, _)]) rfl ?_
        refine k_then_n ?_
        refine c_cond_p rfl (fun k5 => ?_) (fun k5 => ?_)
        ·
         refine c_seq ?_
         refine c_draw rfl (.q 0 (.q 1 (.q 2 (.q 3 (.q 4 (.q 5 (.q 6 ((.l 7 [] (.q 8 (.q 9 (.q 10 (.q 11 (.q 12 (.q 13 (.q 14 (.q 15 (.q 16 (.q 17 (.q 18 (.q 19 (.done)))))))))))))))))))))) (by kernel_rfl) ?_
         refine q_field (k := 2) rfl rfl rfl rfl Try.underlying36 rfl Try.sizeOf3 rfl ?_
         refine q_load_c (j := 2) rfl rfl rfl rfl Try.isAgg3 Tk (by first | rfl | exact (Nat.add_zero _).symm) (by rfl) ?_
         refine q_move rfl rfl rfl rfl ?_
         refine q_nil_p rfl rfl rfl rfl ?_
         refine q_field (k := 6) rfl rfl rfl rfl Try.underlying151 rfl Try.sizeOf23 rfl ?_
         refine q_load_c (j := 6) rfl rfl rfl rfl Try.isAgg23 Tk (by first | rfl | exact (Nat.add_zero _).symm) (by rfl) ?_
         refine q_len rfl rfl rfl rfl Try.underlying23 ?_
         have sp_7 := below_spec o ((x.O.length : Nat) : Int)
         refine l_call rfl rfl rfl rfl rfl rfl Try.call76 (sp_7) Ts ?_
         rintro ⟨⟩ -
         try simp only [List.cons_append, List.nil_append]
         refine ag_nil ?_
         refine q_move rfl rfl rfl rfl ?_
         refine s_bool_p 83 rfl (fun hin2 => ?_) (fun hin2 => ?_)
         ·
          have hel := owV_at (x := x) (l := o) hin2.1 hin2.2
          refine q_move rfl rfl rfl rfl ?_
          refine q_nil_p rfl rfl rfl rfl ?_
          refine q_field (k := 6) rfl rfl rfl rfl Try.underlying151 rfl Try.sizeOf23 rfl ?_
          refine q_load_c (j := 6) rfl rfl rfl rfl Try.isAgg23 Tk (by first | rfl | exact (Nat.add_zero _).symm) (by rfl) ?_
          refine q_field (k := 2) rfl rfl rfl rfl Try.underlying36 rfl Try.sizeOf3 rfl ?_
          refine q_load_c (j := 2) rfl rfl rfl rfl Try.isAgg3 Tk (by first | rfl | exact (Nat.add_zero _).symm) (by rfl) ?_
          refine q_idxO (sz := 0) (k := o.toNat) (enc := encZ) (xs := x.O) rfl rfl rfl rfl rfl Try.underlying23 Try.sizeOf3 hel (by first | rfl | omega) (by omega) Tk ?_
          intro ib90 io90 ha90 hl90 hc90
          refine q_load_O (v := (.int .i64 (owV x o))) (j := 0) (k' := o.toNat) (enc := encZ) (off := io90) rfl rfl rfl rfl Try.isAgg3 ha90 encZ_len hel Tk (by first | rfl | exact (Nat.add_zero _).symm | omega) (by rfl) ?_
          refine q_int rfl rfl rfl rfl rfl (b_eql _ _ _ _) ?_
          refine q_pick_t rfl rfl rfl rfl rfl ?_
          refine q_assign rfl rfl rfl rfl ?_
          refine r_done ?_
          refine s_keep [4] (e' := [(4, _)]) rfl ?_
          refine k_then_n ?_
          refine c_ret ?_
          refine k_blk_ret ?_
          refine k_then_ret ?_
          refine rk_fold (b := b) x (pa := pa) (pc := pc) (ta := ta) (tc := tc) (oa := oa) (oc := oc) (ba := ba) (bc := bc) Ts (by rfl) (by rfl) (by rfl) (by rfl) ?_
          refine ret1 rfl rfl (()) (by congr 1; rw [decide_eq_decide, can_run' h1, okK_k.2.2.1 (k5)]; rw [owF_n]; exact ⟨fun h => ⟨hin2.1, by omega, h⟩, fun h => h.2.2⟩) (by trivial) ?_
          exact Tf
         ·
          refine q_skip rfl rfl rfl rfl ?_
          refine q_skip rfl rfl rfl rfl ?_
          refine q_skip rfl rfl rfl rfl ?_
          refine q_skip rfl rfl rfl rfl ?_
          refine q_skip rfl rfl rfl rfl ?_
          refine q_skip rfl rfl rfl rfl ?_
          refine q_skip rfl rfl rfl rfl ?_
          refine q_skip rfl rfl rfl rfl ?_
          refine q_skip rfl rfl rfl rfl ?_
          refine q_pick_f rfl rfl rfl rfl rfl ?_
          refine q_assign rfl rfl rfl rfl ?_
          refine r_done ?_
          refine s_keep [4] (e' := [(4, _)]) rfl ?_
          refine k_then_n ?_
          refine c_ret ?_
          refine k_blk_ret ?_
          refine k_then_ret ?_
          refine rk_fold (b := b) x (pa := pa) (pc := pc) (ta := ta) (tc := tc) (oa := oa) (oc := oc) (ba := ba) (bc := bc) Ts (by rfl) (by rfl) (by rfl) (by rfl) ?_
          refine ret1 rfl rfl (()) (by congr 1; symm; rw [decide_eq_false_iff_not, can_run' h1, okK_k.2.2.1 (k5)]; rintro ⟨q1, q2, -⟩; omega) (by trivial) ?_
          exact Tf
        ·
         refine c_seq ?_
         refine c_plain (.q 0 (.q 1 (.done))) (by kernel_rfl) ?_
         refine q_int rfl rfl rfl rfl rfl (b_eql _ _ _ _) ?_
         refine q_assign rfl rfl rfl rfl ?_
         refine r_done ?_
         refine k_then_n ?_
         refine c_cond_p rfl (fun k6 => ?_) (fun k6 => ?_)
         ·
          refine c_seq ?_
          refine c_draw rfl (.q 0 (.q 1 (.q 2 (.q 3 (.q 4 (.q 5 (.q 6 ((.l 7 [] (.q 8 (.q 9 (.q 10 (.q 11 (.q 12 (.q 13 (.q 14 (.q 15 (.q 16 (.q 17 (.q 18 (.q 19 (.q 20 (.q 21 (.done)))))))))))))))))))))))) (by kernel_rfl) ?_
          refine q_field (k := 2) rfl rfl rfl rfl Try.underlying36 rfl Try.sizeOf3 rfl ?_
          refine q_load_c (j := 2) rfl rfl rfl rfl Try.isAgg3 Tk (by first | rfl | exact (Nat.add_zero _).symm) (by rfl) ?_
          refine q_move rfl rfl rfl rfl ?_
          refine q_nil_p rfl rfl rfl rfl ?_
          refine q_field (k := 6) rfl rfl rfl rfl Try.underlying151 rfl Try.sizeOf23 rfl ?_
          refine q_load_c (j := 6) rfl rfl rfl rfl Try.isAgg23 Tk (by first | rfl | exact (Nat.add_zero _).symm) (by rfl) ?_
          refine q_len rfl rfl rfl rfl Try.underlying23 ?_
          have sp_8 := below_spec o ((x.O.length : Nat) : Int)
          refine l_call rfl rfl rfl rfl rfl rfl Try.call76 (sp_8) Ts ?_
          rintro ⟨⟩ -
          try simp only [List.cons_append, List.nil_append]
          refine ag_nil ?_
          refine q_move rfl rfl rfl rfl ?_
          refine s_bool_p 104 rfl (fun hin2 => ?_) (fun hin2 => ?_)
          ·
           have hel := owV_at (x := x) (l := o) hin2.1 hin2.2
           refine q_move rfl rfl rfl rfl ?_
           refine q_nil_p rfl rfl rfl rfl ?_
           refine q_field (k := 6) rfl rfl rfl rfl Try.underlying151 rfl Try.sizeOf23 rfl ?_
           refine q_load_c (j := 6) rfl rfl rfl rfl Try.isAgg23 Tk (by first | rfl | exact (Nat.add_zero _).symm) (by rfl) ?_
           refine q_field (k := 2) rfl rfl rfl rfl Try.underlying36 rfl Try.sizeOf3 rfl ?_
           refine q_load_c (j := 2) rfl rfl rfl rfl Try.isAgg3 Tk (by first | rfl | exact (Nat.add_zero _).symm) (by rfl) ?_
           refine q_idxO (sz := 0) (k := o.toNat) (enc := encZ) (xs := x.O) rfl rfl rfl rfl rfl Try.underlying23 Try.sizeOf3 hel (by first | rfl | omega) (by omega) Tk ?_
           intro ib111 io111 ha111 hl111 hc111
           refine q_load_O (v := (.int .i64 (owV x o))) (j := 0) (k' := o.toNat) (enc := encZ) (off := io111) rfl rfl rfl rfl Try.isAgg3 ha111 encZ_len hel Tk (by first | rfl | exact (Nat.add_zero _).symm | omega) (by rfl) ?_
           refine q_field (k := 1) rfl rfl rfl rfl Try.underlying36 rfl Try.sizeOf3 rfl ?_
           refine q_load_c (j := 1) rfl rfl rfl rfl Try.isAgg3 Tk (by first | rfl | exact (Nat.add_zero _).symm) (by rfl) ?_
           refine q_int rfl rfl rfl rfl rfl (b_eql _ _ _ _) ?_
           refine q_pick_t rfl rfl rfl rfl rfl ?_
           refine q_assign rfl rfl rfl rfl ?_
           refine r_done ?_
           refine s_keep [4] (e' := [(4, _)]) rfl ?_
           refine k_then_n ?_
           refine c_ret ?_
           refine k_blk_ret ?_
           refine k_then_ret ?_
           refine rk_fold (b := b) x (pa := pa) (pc := pc) (ta := ta) (tc := tc) (oa := oa) (oc := oc) (ba := ba) (bc := bc) Ts (by rfl) (by rfl) (by rfl) (by rfl) ?_
           refine ret1 rfl rfl (()) (by congr 1; rw [decide_eq_decide, can_run' h1, okK_k.2.2.2.1 (k6)]; rw [owF_s (by omega)]; exact ⟨fun h => ⟨hin2.1, by omega, h⟩, fun h => h.2.2⟩) (by trivial) ?_
           exact Tf
          ·
           refine q_skip rfl rfl rfl rfl ?_
           refine q_skip rfl rfl rfl rfl ?_
           refine q_skip rfl rfl rfl rfl ?_
           refine q_skip rfl rfl rfl rfl ?_
           refine q_skip rfl rfl rfl rfl ?_
           refine q_skip rfl rfl rfl rfl ?_
           refine q_skip rfl rfl rfl rfl ?_
           refine q_skip rfl rfl rfl rfl ?_
           refine q_skip rfl rfl rfl rfl ?_
           refine q_skip rfl rfl rfl rfl ?_
           refine q_skip rfl rfl rfl rfl ?_
           refine q_pick_f rfl rfl rfl rfl rfl ?_
           refine q_assign rfl rfl rfl rfl ?_
           refine r_done ?_
           refine s_keep [4] (e' := [(4, _)]) rfl ?_
           refine k_then_n ?_
           refine c_ret ?_
           refine k_blk_ret ?_
           refine k_then_ret ?_
           refine rk_fold (b := b) x (pa := pa) (pc := pc) (ta := ta) (tc := tc) (oa := oa) (oc := oc) (ba := ba) (bc := bc) Ts (by rfl) (by rfl) (by rfl) (by rfl) ?_
           refine ret1 rfl rfl (()) (by congr 1; symm; rw [decide_eq_false_iff_not, can_run' h1, okK_k.2.2.2.1 (k6)]; rintro ⟨q1, q2, -⟩; omega) (by trivial) ?_
           exact Tf
         ·
          refine c_seq ?_
          refine c_plain (.q 0 (.q 1 (.done))) (by kernel_rfl) ?_
          refine q_int rfl rfl rfl rfl rfl (b_eql _ _ _ _) ?_
          refine q_assign rfl rfl rfl rfl ?_
          refine r_done ?_
          refine s_keep [0, 3, 50, 117] (e' := [(0, _), (3, _), (50, _), (117, _)]) rfl ?_
          refine k_then_n ?_
          refine c_cond_p rfl (fun k7 => ?_) (fun k7 => ?_)
          ·
           refine c_seq ?_
           refine c_draw rfl (.q 0 (.q 1 (.q 2 (.q 3 (.q 4 (.q 5 (.q 6 ((.l 7 [] (.q 8 (.q 9 (.q 10 (.q 11 (.q 12 (.q 13 (.q 14 (.q 15 (.q 16 (.q 17 (.q 18 (.q 19 (.q 20 (.done))))))))))))))))))))))) (by kernel_rfl) ?_
           refine q_field (k := 2) rfl rfl rfl rfl Try.underlying36 rfl Try.sizeOf3 rfl ?_
           refine q_load_c (j := 2) rfl rfl rfl rfl Try.isAgg3 Tk (by first | rfl | exact (Nat.add_zero _).symm) (by rfl) ?_
           refine q_move rfl rfl rfl rfl ?_
           refine q_nil_p rfl rfl rfl rfl ?_
           refine q_field (k := 5) rfl rfl rfl rfl Try.underlying151 rfl Try.sizeOf149 rfl ?_
           refine q_load_c (j := 5) rfl rfl rfl rfl Try.isAgg149 Tk (by first | rfl | exact (Nat.add_zero _).symm) (by rfl) ?_
           refine q_len rfl rfl rfl rfl Try.underlying149 ?_
           have sp_9 := below_spec o ((x.T.length : Nat) : Int)
           refine l_call rfl rfl rfl rfl rfl rfl Try.call76 (sp_9) Ts ?_
           rintro ⟨⟩ -
           try simp only [List.cons_append, List.nil_append]
           refine ag_nil ?_
           refine q_move rfl rfl rfl rfl ?_
           refine s_bool_p 127 rfl (fun hin2 => ?_) (fun hin2 => ?_)
           ·
            have hel := stF_at (x := x) (t := o) hin2.1 hin2.2
            refine q_move rfl rfl rfl rfl ?_
            refine q_nil_p rfl rfl rfl rfl ?_
            refine q_field (k := 5) rfl rfl rfl rfl Try.underlying151 rfl Try.sizeOf149 rfl ?_
            refine q_load_c (j := 5) rfl rfl rfl rfl Try.isAgg149 Tk (by first | rfl | exact (Nat.add_zero _).symm) (by rfl) ?_
            refine q_field (k := 2) rfl rfl rfl rfl Try.underlying36 rfl Try.sizeOf3 rfl ?_
            refine q_load_c (j := 2) rfl rfl rfl rfl Try.isAgg3 Tk (by first | rfl | exact (Nat.add_zero _).symm) (by rfl) ?_
            refine q_idxO (sz := 2) (k := o.toNat) (enc := enc3) (xs := x.T) rfl rfl rfl rfl rfl Try.underlying149 Try.sizeOf107 hel (by first | rfl | omega) (by omega) Tk ?_
            intro ib134 io134 ha134 hl134 hc134
            refine q_field (k := 0) rfl rfl rfl rfl Try.underlying107 rfl Try.sizeOf105 rfl ?_
            refine q_load_O (v := (.int .i64 ((stF x o).1))) (j := 0) (k' := o.toNat) (enc := enc3) (off := io134) rfl rfl rfl rfl Try.isAgg105 ha134 enc3_len hel Tk (by first | rfl | exact (Nat.add_zero _).symm | omega) (by rfl) ?_
            refine q_int rfl rfl rfl rfl rfl (b_eql _ _ _ _) ?_
            refine q_pick_t rfl rfl rfl rfl rfl ?_
            refine q_assign rfl rfl rfl rfl ?_
            refine r_done ?_
            refine s_keep [4] (e' := [(4, _)]) rfl ?_
            refine k_then_n ?_
            refine c_ret ?_
            refine k_blk_ret ?_
            refine k_then_ret ?_
            refine rk_fold (b := b) x (pa := pa) (pc := pc) (ta := ta) (tc := tc) (oa := oa) (oc := oc) (ba := ba) (bc := bc) Ts (by rfl) (by rfl) (by rfl) (by rfl) ?_
            refine ret1 rfl rfl (()) (by congr 1; rw [decide_eq_decide, can_run' h1, okK_k.2.2.2.2.1 (k7)]; omega) (by trivial) ?_
            exact Tf
           ·
            refine q_skip rfl rfl rfl rfl ?_
            refine q_skip rfl rfl rfl rfl ?_
            refine q_skip rfl rfl rfl rfl ?_
            refine q_skip rfl rfl rfl rfl ?_
            refine q_skip rfl rfl rfl rfl ?_
            refine q_skip rfl rfl rfl rfl ?_
            refine q_skip rfl rfl rfl rfl ?_
            refine q_skip rfl rfl rfl rfl ?_
            refine q_skip rfl rfl rfl rfl ?_
            refine q_skip rfl rfl rfl rfl ?_
            refine q_pick_f rfl rfl rfl rfl rfl ?_
            refine q_assign rfl rfl rfl rfl ?_
            refine r_done ?_
            refine s_keep [4] (e' := [(4, _)]) rfl ?_
            refine k_then_n ?_
            refine c_ret ?_
            refine k_blk_ret ?_
            refine k_then_ret ?_
            refine rk_fold (b := b) x (pa := pa) (pc := pc) (ta := ta) (tc := tc) (oa := oa) (oc := oc) (ba := ba) (bc := bc) Ts (by rfl) (by rfl) (by rfl) (by rfl) ?_
            refine ret1 rfl rfl (()) (by congr 1; symm; rw [decide_eq_false_iff_not, can_run' h1, okK_k.2.2.2.2.1 (k7)]; rintro ⟨q1, q2, -⟩; omega) (by trivial) ?_
            exact Tf
          ·
           refine c_seq ?_
           refine c_plain (.q 0 (.q 1 (.done))) (by kernel_rfl) ?_
           refine q_int rfl rfl rfl rfl rfl (b_eql _ _ _ _) ?_
           refine q_assign rfl rfl rfl rfl ?_
           refine r_done ?_
           refine k_then_n ?_
           refine c_cond_p rfl (fun k8 => ?_) (fun k8 => ?_)
           ·
            refine c_seq ?_
            refine c_draw rfl (.q 0 (.q 1 (.q 2 (.q 3 (.q 4 (.q 5 (.q 6 ((.l 7 [] (.q 8 (.q 9 (.q 10 (.q 11 (.q 12 (.q 13 (.q 14 (.q 15 (.q 16 (.q 17 (.q 18 (.q 19 (.q 20 (.done))))))))))))))))))))))) (by kernel_rfl) ?_
            refine q_field (k := 2) rfl rfl rfl rfl Try.underlying36 rfl Try.sizeOf3 rfl ?_
            refine q_load_c (j := 2) rfl rfl rfl rfl Try.isAgg3 Tk (by first | rfl | exact (Nat.add_zero _).symm) (by rfl) ?_
            refine q_move rfl rfl rfl rfl ?_
            refine q_nil_p rfl rfl rfl rfl ?_
            refine q_field (k := 5) rfl rfl rfl rfl Try.underlying151 rfl Try.sizeOf149 rfl ?_
            refine q_load_c (j := 5) rfl rfl rfl rfl Try.isAgg149 Tk (by first | rfl | exact (Nat.add_zero _).symm) (by rfl) ?_
            refine q_len rfl rfl rfl rfl Try.underlying149 ?_
            have sp_10 := below_spec o ((x.T.length : Nat) : Int)
            refine l_call rfl rfl rfl rfl rfl rfl Try.call76 (sp_10) Ts ?_
            rintro ⟨⟩ -
            try simp only [List.cons_append, List.nil_append]
            refine ag_nil ?_
            refine q_move rfl rfl rfl rfl ?_
            refine s_bool_p 149 rfl (fun hin2 => ?_) (fun hin2 => ?_)
            ·
             have hel := stF_at (x := x) (t := o) hin2.1 hin2.2
             refine q_move rfl rfl rfl rfl ?_
             refine q_nil_p rfl rfl rfl rfl ?_
             refine q_field (k := 5) rfl rfl rfl rfl Try.underlying151 rfl Try.sizeOf149 rfl ?_
             refine q_load_c (j := 5) rfl rfl rfl rfl Try.isAgg149 Tk (by first | rfl | exact (Nat.add_zero _).symm) (by rfl) ?_
             refine q_field (k := 2) rfl rfl rfl rfl Try.underlying36 rfl Try.sizeOf3 rfl ?_
             refine q_load_c (j := 2) rfl rfl rfl rfl Try.isAgg3 Tk (by first | rfl | exact (Nat.add_zero _).symm) (by rfl) ?_
             refine q_idxO (sz := 2) (k := o.toNat) (enc := enc3) (xs := x.T) rfl rfl rfl rfl rfl Try.underlying149 Try.sizeOf107 hel (by first | rfl | omega) (by omega) Tk ?_
             intro ib156 io156 ha156 hl156 hc156
             refine q_field (k := 0) rfl rfl rfl rfl Try.underlying107 rfl Try.sizeOf105 rfl ?_
             refine q_load_O (v := (.int .i64 ((stF x o).1))) (j := 0) (k' := o.toNat) (enc := enc3) (off := io156) rfl rfl rfl rfl Try.isAgg105 ha156 enc3_len hel Tk (by first | rfl | exact (Nat.add_zero _).symm | omega) (by rfl) ?_
             refine q_int rfl rfl rfl rfl rfl (b_eql _ _ _ _) ?_
             refine q_pick_t rfl rfl rfl rfl rfl ?_
             refine q_assign rfl rfl rfl rfl ?_
             refine r_done ?_
             refine s_keep [4] (e' := [(4, _)]) rfl ?_
             refine k_then_n ?_
             refine c_ret ?_
             refine k_blk_ret ?_
             refine k_then_ret ?_
             refine rk_fold (b := b) x (pa := pa) (pc := pc) (ta := ta) (tc := tc) (oa := oa) (oc := oc) (ba := ba) (bc := bc) Ts (by rfl) (by rfl) (by rfl) (by rfl) ?_
             refine ret1 rfl rfl (()) (by congr 1; rw [decide_eq_decide, can_run' h1, okK_k.2.2.2.2.2.1 (k8)]; omega) (by trivial) ?_
             exact Tf
            ·
             refine q_skip rfl rfl rfl rfl ?_
             refine q_skip rfl rfl rfl rfl ?_
             refine q_skip rfl rfl rfl rfl ?_
             refine q_skip rfl rfl rfl rfl ?_
             refine q_skip rfl rfl rfl rfl ?_
             refine q_skip rfl rfl rfl rfl ?_
             refine q_skip rfl rfl rfl rfl ?_
             refine q_skip rfl rfl rfl rfl ?_
             refine q_skip rfl rfl rfl rfl ?_
             refine q_skip rfl rfl rfl rfl ?_
             refine q_pick_f rfl rfl rfl rfl rfl ?_
             refine q_assign rfl rfl rfl rfl ?_
             refine r_done ?_
             refine s_keep [4] (e' := [(4, _)]) rfl ?_
             refine k_then_n ?_
             refine c_ret ?_
             refine k_blk_ret ?_
             refine k_then_ret ?_
             refine rk_fold (b := b) x (pa := pa) (pc := pc) (ta := ta) (tc := tc) (oa := oa) (oc := oc) (ba := ba) (bc := bc) Ts (by rfl) (by rfl) (by rfl) (by rfl) ?_
             refine ret1 rfl rfl (()) (by congr 1; symm; rw [decide_eq_false_iff_not, can_run' h1, okK_k.2.2.2.2.2.1 (k8)]; rintro ⟨q1, q2, -⟩; omega) (by trivial) ?_
             exact Tf
           ·
            refine c_seq ?_
            refine c_plain (.q 0 (.q 1 (.done))) (by kernel_rfl) ?_
            refine q_int rfl rfl rfl rfl rfl (b_eql _ _ _ _) ?_
            refine q_assign rfl rfl rfl rfl ?_
            refine r_done ?_
            refine s_keep [0, 3, 50, 161] (e' := [(0, _), (3, _), (50, _), (161, _)]) rfl ?_
            refine k_then_n ?_
            refine c_cond_p rfl (fun k9 => ?_) (fun k9 => ?_)
            ·
             refine c_seq ?_
             refine c_draw rfl (.q 0 (.q 1 (.q 2 (.q 3 (.q 4 (.q 5 (.q 6 ((.l 7 [] (.q 8 (.done))))))))))) (by kernel_rfl) ?_
             refine q_field (k := 2) rfl rfl rfl rfl Try.underlying36 rfl Try.sizeOf3 rfl ?_
             refine q_load_c (j := 2) rfl rfl rfl rfl Try.isAgg3 Tk (by first | rfl | exact (Nat.add_zero _).symm) (by rfl) ?_
             refine q_move rfl rfl rfl rfl ?_
             refine q_nil_p rfl rfl rfl rfl ?_
             refine q_field (k := 7) rfl rfl rfl rfl Try.underlying151 rfl Try.sizeOf144 rfl ?_
             refine q_load_c (j := 7) rfl rfl rfl rfl Try.isAgg144 Tk (by first | rfl | exact (Nat.add_zero _).symm) (by rfl) ?_
             refine q_len rfl rfl rfl rfl Try.underlying144 ?_
             have sp_11 := below_spec o ((x.B.length : Nat) : Int)
             refine l_call rfl rfl rfl rfl rfl rfl Try.call76 (sp_11) Ts ?_
             rintro ⟨⟩ -
             try simp only [List.cons_append, List.nil_append]
             refine ag_nil ?_
             refine q_assign rfl rfl rfl rfl ?_
             refine r_done ?_
             refine s_keep [4] (e' := [(4, _)]) rfl ?_
             refine k_then_n ?_
             refine c_ret ?_
             refine k_blk_ret ?_
             refine k_then_ret ?_
             refine rk_fold (b := b) x (pa := pa) (pc := pc) (ta := ta) (tc := tc) (oa := oa) (oc := oc) (ba := ba) (bc := bc) Ts (by rfl) (by rfl) (by rfl) (by rfl) ?_
             refine ret1 rfl rfl (()) (by congr 1; rw [decide_eq_decide, can_run' h1, okK_k.2.2.2.2.2.2.1 (k9)]; try rfl) (by trivial) ?_
             exact Tf
            ·
             refine c_seq ?_
             refine c_plain (.q 0 (.q 1 (.done))) (by kernel_rfl) ?_
             refine q_int rfl rfl rfl rfl rfl (b_eql _ _ _ _) ?_
             refine q_assign rfl rfl rfl rfl ?_
             refine r_done ?_
             refine s_keep [3, 171] (e' := [(3, _), (171, _)]) rfl ?_
             refine k_then_n ?_
             refine c_cond_p rfl (fun k11 => ?_) (fun k11 => ?_)
             ·
              refine c_seq ?_
              refine c_plain (.q 0 (.q 1 (.q 2 (.q 3 (.done))))) (by kernel_rfl) ?_
              refine q_field (k := 2) rfl rfl rfl rfl Try.underlying36 rfl Try.sizeOf3 rfl ?_
              refine q_load_c (j := 2) rfl rfl rfl rfl Try.isAgg3 Tk (by first | rfl | exact (Nat.add_zero _).symm) (by rfl) ?_
              refine q_int rfl rfl rfl rfl rfl (b_eql _ _ _ _) ?_
              refine q_assign rfl rfl rfl rfl ?_
              refine r_done ?_
              refine s_keep [4] (e' := [(4, _)]) rfl ?_
              refine k_then_n ?_
              refine c_ret ?_
              refine k_blk_ret ?_
              refine k_then_ret ?_
              refine rk_fold (b := b) x (pa := pa) (pc := pc) (ta := ta) (tc := tc) (oa := oa) (oc := oc) (ba := ba) (bc := bc) Ts (by rfl) (by rfl) (by rfl) (by rfl) ?_
              refine ret1 rfl rfl (()) (by congr 1; rw [decide_eq_decide, can_run' h1, okK_k.2.2.2.2.2.2.2.1 (k11)]; omega) (by trivial) ?_
              exact Tf
             ·
              refine c_skip ?_
              refine k_blk_n ?_
              refine k_then_n ?_
              refine c_seq ?_
              refine c_plain (.q 0 (.done)) (by kernel_rfl) ?_
              refine q_assign rfl rfl rfl rfl ?_
              refine r_done ?_
              refine k_then_n ?_
              refine c_ret ?_
              refine rk_fold (b := b) x (pa := pa) (pc := pc) (ta := ta) (tc := tc) (oa := oa) (oc := oc) (ba := ba) (bc := bc) Ts (by rfl) (by rfl) (by rfl) (by rfl) ?_
              refine ret1 rfl rfl (()) (by congr 1; symm; rw [decide_eq_false_iff_not, can_run' h1]; exact fun h => okK_k.2.2.2.2.2.2.2.2 k1 k2 k3 k4 k5 k6 k7 k8 k9 k11 h.2) (by trivial) ?_
              exact Tf
end Go.Ab.Fe
set_option linter.unusedVariables false
set_option linter.unusedSimpArgs false
set_option maxRecDepth 100000
namespace Go.Ab.Fe
open Go Go.Proofs Go.Ab
theorem rnext_spec (pa : Option Addr) (pc b : Nat) (x : CS) (hx : CInv x) (hn : x.n ≤ 1000000000000000) (pl : List Int) (hpl : x.pa = pl) (k t o : Int) : Spec Try.prog 38 [.pointer (some ⟨b, 0, none⟩), .agg #[.int .i64 k, .int .i64 t, .int .i64 o]] [rk pa pc b x, own 1 encZ pa pc pl] (fun (_ : Unit) => .int .i64 (nxE x k t o)) (fun _ => True) (fun _ => [rk pa pc b (nxF x k t o), own 1 encZ pa pc pl]) := by
 refine spec_mk (n := 123) Try.func38 rfl rfl rfl ?_
 intro Γ w0
 simp only [argE, List.cons_append, List.nil_append, Nat.zero_add, Nat.reduceAdd]
 have hn0 := hx.n0
 have htl := hx.tl
 have hol := hx.ol
 have hbl := hx.bl
 refine c_seq ?_
 refine c_plain ((.l 0 [] (.q 1 (.done)))) (by kernel_rfl) ?_
 refine l_box rfl rfl rfl rfl (us := [_, _, _]) rfl ?_
 intro b3
 refine ag_nil ?_
 refine q_assign rfl rfl rfl rfl ?_
 refine r_done ?_
 refine k_then_n ?_
 refine c_seq ?_
 refine c_seq ?_
 refine c_plain (.q 0 (.q 1 (.done))) (by kernel_rfl) ?_
 refine q_move rfl rfl rfl rfl ?_
 refine q_eq_nil rfl rfl rfl rfl Try.underlying91 ?_
 refine s_eq 8 rfl (v' := .bool false) rfl ?_
 refine r_done ?_
 refine k_then_n ?_
 refine c_cond_f rfl ?_
 refine c_skip ?_
 refine k_then_n ?_
 refine c_seq ?_
 refine c_plain (.q 0 (.q 1 ((.l 2 [] (.q 3 (.done)))))) (by kernel_rfl) ?_
 refine q_move rfl rfl rfl rfl ?_
 refine q_loadN_c rfl rfl rfl rfl Try.isAgg36 Try.sizeOf36 Tk 0 (us := [_, _, _]) (by first | rfl | exact (Nat.add_zero _).symm) rfl rfl ?_
 have sp_1 := rcan_spec pa pc b x hx k t o
 refine l_call rfl rfl rfl rfl rfl rfl Try.call33 (sp_1) Ts ?_
 rintro ⟨⟩ -
 try simp only [List.cons_append, List.nil_append]
 refine ag_nil ?_
 refine q_assign rfl rfl rfl rfl ?_
 refine r_done ?_
 refine s_keep [0, 3, 5] (e' := [(0, _), (3, _), (5, _)]) rfl ?_
 refine k_then_n ?_
 refine c_seq ?_
 refine c_seq ?_
 refine c_plain (.q 0 (.q 1 (.done))) (by kernel_rfl) ?_
 refine q_move rfl rfl rfl rfl ?_
 refine q_not rfl rfl rfl rfl ?_
 refine r_done ?_
 refine k_then_n ?_
 refine c_cond_np rfl (fun hc => ?_) (fun hc => ?_)
 ·
  refine c_seq ?_
  refine c_plain (.q 0 (.done)) (by kernel_rfl) ?_
  refine q_assign rfl rfl rfl rfl ?_
  refine r_done ?_
  refine s_keep [4] (e' := [(4, _)]) rfl ?_
  refine k_then_n ?_
  refine c_ret ?_
  refine k_then_ret ?_
  rw [show nxF x k t o = x from if_neg hc]
  refine ret1 rfl rfl (()) (by rw [show nxE x k t o = 6 from if_neg hc]) (by trivial) ?_
  exact Tf
 ·
  obtain ⟨o5, o7, o9, o10, o11⟩ := can_obj hx hc
  obtain ⟨n5, n6, n7, n9, n10, n11, nn⟩ := nxF_k hc
  obtain ⟨t0, t1, t2⟩ := stF_nz (can_th hc)
  refine c_skip ?_
  refine k_then_n ?_
  refine c_seq ?_
  refine s_take (A := rk pa pc b x) Tk ?_
  refine rk_open fun ta tc oa oc ba bc => ?_
  refine c_plain (.q 0 (.q 1 (.q 2 (.q 3 (.q 4 (.q 5 (.q 6 ((.l 7 [] (.done)))))))))) (by kernel_rfl) ?_
  refine q_move rfl rfl rfl rfl ?_
  refine q_nil_p rfl rfl rfl rfl ?_
  refine q_field (k := 8) rfl rfl rfl rfl Try.underlying151 rfl Try.sizeOf3 rfl ?_
  refine q_load_c (j := 8) rfl rfl rfl rfl Try.isAgg3 Tk (by first | rfl | exact (Nat.add_zero _).symm) (by rfl) ?_
  refine q_int rfl rfl rfl rfl rfl (b_add' _ (by exact fits_i64 (by omega) (by omega))) ?_
  refine q_nil_p rfl rfl rfl rfl ?_
  refine q_field (k := 8) rfl rfl rfl rfl Try.underlying151 rfl Try.sizeOf3 rfl ?_
  refine l_store (j := 8) rfl rfl rfl rfl Try.sizeOf3 (us := [_]) rfl rfl rfl Tk (by first | rfl | exact (Nat.add_zero _).symm) (by first | decide | (simp; done) | omega) ?_
  simp only [setL, List.set]
  refine ag_nil ?_
  refine r_done ?_
  refine s_keep [0, 3] (e' := [(0, _), (3, _)]) rfl ?_
  refine k_then_n ?_
  refine c_seq ?_
  refine c_seq ?_
  refine c_plain (.q 0 (.q 1 (.done))) (by kernel_rfl) ?_
  refine q_field (k := 0) rfl rfl rfl rfl Try.underlying36 rfl Try.sizeOf34 rfl ?_
  refine q_load_c (j := 0) rfl rfl rfl rfl Try.isAgg34 Tk (by first | rfl | exact (Nat.add_zero _).symm) (by rfl) ?_
  refine r_done ?_
  refine k_then_n ?_
  refine c_block ?_
  refine c_seq ?_
  refine c_plain (.q 0 (.q 1 (.done))) (by kernel_rfl) ?_
  refine q_int rfl rfl rfl rfl rfl (b_eql _ _ _ _) ?_
  refine q_assign rfl rfl rfl rfl ?_
  refine r_done ?_
  refine k_then_n ?_
  refine c_cond_p rfl (fun k5 => ?_) (fun k5 => ?_)
  ·
   have hel := owV_at (x := x) (l := o) (o5 (.inl k5)).1 (by have := (o5 (.inl k5)).2; omega)
   have q5 := o5 (.inl k5)
   refine c_draw rfl (.q 0 (.q 1 (.q 2 (.q 3 (.q 4 (.q 5 (.q 6 (.q 7 (.q 8 ((.l 9 [] (.done)))))))))))) (by kernel_rfl) ?_
   refine q_move rfl rfl rfl rfl ?_
   refine q_nil_p rfl rfl rfl rfl ?_
   refine q_field (k := 6) rfl rfl rfl rfl Try.underlying151 rfl Try.sizeOf23 rfl ?_
   refine q_load_c (j := 6) rfl rfl rfl rfl Try.isAgg23 Tk (by first | rfl | exact (Nat.add_zero _).symm) (by rfl) ?_
   refine q_field (k := 2) rfl rfl rfl rfl Try.underlying36 rfl Try.sizeOf3 rfl ?_
   refine q_load_c (j := 2) rfl rfl rfl rfl Try.isAgg3 Tk (by first | rfl | exact (Nat.add_zero _).symm) (by rfl) ?_
   refine q_field (k := 1) rfl rfl rfl rfl Try.underlying36 rfl Try.sizeOf3 rfl ?_
   refine q_load_c (j := 1) rfl rfl rfl rfl Try.isAgg3 Tk (by first | rfl | exact (Nat.add_zero _).symm) (by rfl) ?_
   refine q_idxO (sz := 0) (k := o.toNat) (enc := encZ) (xs := x.O) rfl rfl rfl rfl rfl Try.underlying23 Try.sizeOf3 hel (by first | rfl | omega) (by omega) Tk ?_
   intro ib33 io33 ha33 hl33 hc33
   refine l_store_O (j := 0) (k := o.toNat) (q := t) (enc := encZ) (off := io33) rfl rfl rfl rfl Try.sizeOf3 (us := [_]) rfl rfl rfl ha33 encZ_len hel Tk (by first | rfl | exact (Nat.add_zero _).symm | omega) (by first | decide | exact Nat.le_of_ble_eq_true rfl) (by rfl) ?_
   refine ag_nil ?_
   refine r_done ?_
   refine s_keep [] (e' := []) rfl ?_
   refine k_blk_n ?_
   refine k_then_n ?_
   refine c_seq ?_
   refine c_plain (.q 0 (.done)) (by kernel_rfl) ?_
   refine q_assign rfl rfl rfl rfl ?_
   refine r_done ?_
   refine k_then_n ?_
   refine c_ret ?_
   rw [n5 k5]
   refine rk_fold (b := b) (⟨x.th, x.va, x.vo, x.lk, x.pa, x.T, x.O.set o.toNat t, x.B, x.n + 1⟩) (pa := pa) (pc := pc) (ta := ta) (tc := tc) (oa := oa) (oc := oc) (ba := ba) (bc := bc) Ts (by rfl) (by rfl) (by simp) (by rfl) ?_
   refine ret1 rfl rfl (()) (by rw [show nxE x k t o = 0 from if_pos hc]) (by trivial) ?_
   exact Tf
  ·
   refine c_seq ?_
   refine c_plain (.q 0 (.q 1 (.done))) (by kernel_rfl) ?_
   refine q_int rfl rfl rfl rfl rfl (b_eql _ _ _ _) ?_
   refine q_assign rfl rfl rfl rfl ?_
   refine r_done ?_
   refine s_keep [0, 3, 22, 34] (e' := [(0, _), (3, _), (22, _), (34, _)]) rfl ?_
   refine k_then_n ?_
   refine c_cond_p rfl (fun k6 => ?_) (fun k6 => ?_)
   ·
    have hel := owV_at (x := x) (l := o) (o5 (.inr k6)).1 (by have := (o5 (.inr k6)).2; omega)
    have q5 := o5 (.inr k6)
    refine c_draw rfl (.q 0 (.q 1 (.q 2 (.q 3 (.q 4 (.q 5 (.q 6 ((.l 7 [] (.done)))))))))) (by kernel_rfl) ?_
    refine q_move rfl rfl rfl rfl ?_
    refine q_nil_p rfl rfl rfl rfl ?_
    refine q_field (k := 6) rfl rfl rfl rfl Try.underlying151 rfl Try.sizeOf23 rfl ?_
    refine q_load_c (j := 6) rfl rfl rfl rfl Try.isAgg23 Tk (by first | rfl | exact (Nat.add_zero _).symm) (by rfl) ?_
    refine q_field (k := 2) rfl rfl rfl rfl Try.underlying36 rfl Try.sizeOf3 rfl ?_
    refine q_load_c (j := 2) rfl rfl rfl rfl Try.isAgg3 Tk (by first | rfl | exact (Nat.add_zero _).symm) (by rfl) ?_
    refine q_idxO (sz := 0) (k := o.toNat) (enc := encZ) (xs := x.O) rfl rfl rfl rfl rfl Try.underlying23 Try.sizeOf3 hel (by first | rfl | omega) (by omega) Tk ?_
    intro ib42 io42 ha42 hl42 hc42
    refine l_store_O (j := 0) (k := o.toNat) (q := (-1)) (enc := encZ) (off := io42) rfl rfl rfl rfl Try.sizeOf3 (us := [_]) rfl rfl rfl ha42 encZ_len hel Tk (by first | rfl | exact (Nat.add_zero _).symm | omega) (by first | decide | exact Nat.le_of_ble_eq_true rfl) (by rfl) ?_
    refine ag_nil ?_
    refine r_done ?_
    refine s_keep [] (e' := []) rfl ?_
    refine k_blk_n ?_
    refine k_then_n ?_
    refine c_seq ?_
    refine c_plain (.q 0 (.done)) (by kernel_rfl) ?_
    refine q_assign rfl rfl rfl rfl ?_
    refine r_done ?_
    refine k_then_n ?_
    refine c_ret ?_
    rw [n6 k6]
    refine rk_fold (b := b) (⟨x.th, x.va, x.vo, x.lk, x.pa, x.T, x.O.set o.toNat (-1), x.B, x.n + 1⟩) (pa := pa) (pc := pc) (ta := ta) (tc := tc) (oa := oa) (oc := oc) (ba := ba) (bc := bc) Ts (by rfl) (by rfl) (by simp) (by rfl) ?_
    refine ret1 rfl rfl (()) (by rw [show nxE x k t o = 0 from if_pos hc]) (by trivial) ?_
    exact Tf
   ·
    refine c_seq ?_
    refine c_plain (.q 0 (.q 1 (.done))) (by kernel_rfl) ?_
    refine q_int rfl rfl rfl rfl rfl (b_eql _ _ _ _) ?_
    refine q_assign rfl rfl rfl rfl ?_
    refine r_done ?_
    refine k_then_n ?_
    refine c_cond_p rfl (fun k7 => ?_) (fun k7 => ?_)
    ·
     have q7 := o7 k7
     have hel := stF_at (x := x) (t := o) q7.1 (by omega)
     have hz : (stF x o).2 = (0, 0) := (stF_inv hx o).2.2.2 (by rw [q7.2.2]; decide)
     refine c_draw rfl (.q 0 (.q 1 (.q 2 (.q 3 (.q 4 (.q 5 (.q 6 (.q 7 ((.l 8 [] (.done))))))))))) (by kernel_rfl) ?_
     refine q_move rfl rfl rfl rfl ?_
     refine q_nil_p rfl rfl rfl rfl ?_
     refine q_field (k := 5) rfl rfl rfl rfl Try.underlying151 rfl Try.sizeOf149 rfl ?_
     refine q_load_c (j := 5) rfl rfl rfl rfl Try.isAgg149 Tk (by first | rfl | exact (Nat.add_zero _).symm) (by rfl) ?_
     refine q_field (k := 2) rfl rfl rfl rfl Try.underlying36 rfl Try.sizeOf3 rfl ?_
     refine q_load_c (j := 2) rfl rfl rfl rfl Try.isAgg3 Tk (by first | rfl | exact (Nat.add_zero _).symm) (by rfl) ?_
     refine q_idxO (sz := 2) (k := o.toNat) (enc := enc3) (xs := x.T) rfl rfl rfl rfl rfl Try.underlying149 Try.sizeOf107 hel (by first | rfl | omega) (by omega) Tk ?_
     intro ib51 io51 ha51 hl51 hc51
     refine q_field (k := 0) rfl rfl rfl rfl Try.underlying107 rfl Try.sizeOf105 rfl ?_
     refine l_store_O (j := 0) (k := o.toNat) (q := (1, 0, 0)) (enc := enc3) (off := io51) rfl rfl rfl rfl Try.sizeOf105 (us := [_]) rfl rfl rfl ha51 enc3_len hel Tk (by first | rfl | exact (Nat.add_zero _).symm | omega) (by first | decide | exact Nat.le_of_ble_eq_true rfl) (by show [Value.int .i64 1, .int .i64 0, .int .i64 0] = [Value.int .i64 1, .int .i64 (stF x o).2.1, .int .i64 (stF x o).2.2]; rw [hz]) ?_
     refine ag_nil ?_
     refine r_done ?_
     refine s_keep [] (e' := []) rfl ?_
     refine k_blk_n ?_
     refine k_then_n ?_
     refine c_seq ?_
     refine c_plain (.q 0 (.done)) (by kernel_rfl) ?_
     refine q_assign rfl rfl rfl rfl ?_
     refine r_done ?_
     refine k_then_n ?_
     refine c_ret ?_
     rw [n7 k7]
     refine rk_fold (b := b) (⟨x.th, x.va, x.vo, x.lk, x.pa, x.T.set o.toNat (1, 0, 0), x.O, x.B, x.n + 1⟩) (pa := pa) (pc := pc) (ta := ta) (tc := tc) (oa := oa) (oc := oc) (ba := ba) (bc := bc) Ts (by rfl) (by simp) (by rfl) (by rfl) ?_
     refine ret1 rfl rfl (()) (by rw [show nxE x k t o = 0 from if_pos hc]) (by trivial) ?_
     exact Tf
    ·
     refine c_seq ?_
     refine c_plain (.q 0 (.q 1 (.done))) (by kernel_rfl) ?_
     refine q_int rfl rfl rfl rfl rfl (b_eql _ _ _ _) ?_
     refine q_assign rfl rfl rfl rfl ?_
     refine r_done ?_
     refine s_keep [0, 3, 22, 53] (e' := [(0, _), (3, _), (22, _), (53, _)]) rfl ?_
     refine k_then_n ?_
     refine c_cond_p rfl (fun k9 => ?_) (fun k9 => ?_)
     ·
      refine c_seq ?_
      obtain ⟨p0, p1, p2, p3⟩ := o9 k9
      have hop := opF_at (x := x) (b := o) p0 (by omega)
      obtain ⟨pp, hpp⟩ := get_lt p2
      have hbp := hx.op _ _ _ hop hpp
      have hpr := hx.sh.pa pp (List.mem_of_getElem? hpp)
      refine c_draw rfl (.q 0 (.q 1 (.q 2 (.q 3 (.q 4 (.q 5 (.q 6 (.q 7 ((.l 8 [3, 5, 7] ((.l 9 [] (.done))))))))))))) (by kernel_rfl) ?_
      refine q_move rfl rfl rfl rfl ?_
      refine q_nil_p rfl rfl rfl rfl ?_
      refine q_field (k := 7) rfl rfl rfl rfl Try.underlying151 rfl Try.sizeOf144 rfl ?_
      refine q_load_c (j := 7) rfl rfl rfl rfl Try.isAgg144 Tk (by first | rfl | exact (Nat.add_zero _).symm) (by rfl) ?_
      refine q_field (k := 2) rfl rfl rfl rfl Try.underlying36 rfl Try.sizeOf3 rfl ?_
      refine q_load_c (j := 2) rfl rfl rfl rfl Try.isAgg3 Tk (by first | rfl | exact (Nat.add_zero _).symm) (by rfl) ?_
      refine q_idxO (sz := 1) (k := o.toNat) (enc := enc2) (xs := x.B) rfl rfl rfl rfl rfl Try.underlying144 Try.sizeOf153 hop (by first | rfl | omega) (by omega) Tk ?_
      intro ib61 io61 ha61 hl61 hc61
      refine q_loadN_O (j := 0) (k' := o.toNat) (us := [_, _]) (enc := enc2) (off := io61) rfl rfl rfl rfl Try.isAgg153 Try.sizeOf153 ha61 enc2_len hop Tk (by first | rfl | exact (Nat.add_zero _).symm | omega) (by rfl) rfl ?_
      refine l_alloc rfl rfl rfl Try.zeroValue153 (zs := [.int .i64 0, .int .i64 0]) rfl ?_
      intro b6
      refine ag_load_c (q := 7) rfl rfl rfl Try.isAgg144 Tk (by first | rfl | exact (Nat.add_zero _).symm) (by rfl) ?_
      refine ag_load_c (q := 2) rfl rfl rfl Try.isAgg3 Tk (by first | rfl | exact (Nat.add_zero _).symm) (by rfl) ?_
      refine ag_loadN_O (j := 0) (k' := o.toNat) (us := [_, _]) (enc := enc2) (off := io61) rfl rfl rfl Try.isAgg153 Try.sizeOf153 ha61 enc2_len hop Tk (by first | rfl | exact (Nat.add_zero _).symm | omega) (by rfl) rfl ?_
      refine ag_nil ?_
      refine l_store (j := 0) rfl rfl rfl rfl Try.sizeOf153 (us := [_, _]) rfl rfl rfl Tk (by first | rfl | exact (Nat.add_zero _).symm) (by first | decide | (simp; done) | omega) ?_
      simp only [setL, List.set]
      refine ag_nil ?_
      refine r_done ?_
      refine s_keep [0, 3, 6] (e' := [(0, _), (3, _), (6, _)]) rfl ?_
      refine k_then_n ?_
      refine c_seq ?_
      refine c_draw rfl (.q 0 (.q 1 (.q 2 (.q 3 (.q 4 (.q 5 (.q 6 (.q 7 (.q 8 (.q 9 (.q 10 (.q 11 ((.l 12 [] (.done))))))))))))))) (by kernel_rfl) ?_
      refine q_move rfl rfl rfl rfl ?_
      refine q_nil_p rfl rfl rfl rfl ?_
      refine q_field (k := 5) rfl rfl rfl rfl Try.underlying151 rfl Try.sizeOf149 rfl ?_
      refine q_load_c (j := 5) rfl rfl rfl rfl Try.isAgg149 Tk (by first | rfl | exact (Nat.add_zero _).symm) (by rfl) ?_
      refine q_field (k := 1) rfl rfl rfl rfl Try.underlying36 rfl Try.sizeOf3 rfl ?_
      refine q_load_c (j := 1) rfl rfl rfl rfl Try.isAgg3 Tk (by first | rfl | exact (Nat.add_zero _).symm) (by rfl) ?_
      refine q_field (k := 2) rfl rfl rfl rfl Try.underlying36 rfl Try.sizeOf3 rfl ?_
      refine q_load_c (j := 2) rfl rfl rfl rfl Try.isAgg3 Tk (by first | rfl | exact (Nat.add_zero _).symm) (by rfl) ?_
      refine q_field (k := 0) rfl rfl rfl rfl Try.underlying153 rfl Try.sizeOf3 rfl ?_
      refine q_load_c (j := 0) rfl rfl rfl rfl Try.isAgg3 Tk (by first | rfl | exact (Nat.add_zero _).symm) (by rfl) ?_
      refine q_build rfl rfl rfl rfl (vs := [_, _, _]) (run_buildS Try.underlying107 Try.zeroValue107 (ps := [(0, 1), (1, 1), (2, 1)]) ⟨rfl, Try.sizeOf105, rfl, Try.sizeOf3, rfl, Try.sizeOf3, trivial⟩ rfl) ?_
      refine q_idxO (sz := 2) (k := t.toNat) (enc := enc3) (xs := x.T) rfl rfl rfl rfl rfl Try.underlying149 Try.sizeOf107 t2 (by first | rfl | omega) (by omega) Tk ?_
      intro ib74 io74 ha74 hl74 hc74
      refine l_store_O (j := 0) (k := t.toNat) (q := (2, o, (opF x o).1)) (enc := enc3) (off := io74) rfl rfl rfl rfl Try.sizeOf107 (us := [_, _, _]) rfl rfl rfl ha74 enc3_len t2 Tk (by first | rfl | exact (Nat.add_zero _).symm | omega) (by first | decide | exact Nat.le_of_ble_eq_true rfl) (by rfl) ?_
      refine ag_nil ?_
      refine r_done ?_
      refine s_keep [0, 3, 6] (e' := [(0, _), (3, _), (6, _)]) rfl ?_
      refine k_then_n ?_
      refine c_seq ?_
      refine c_plain (.q 0 (.q 1 (.q 2 (.q 3 ((.l 4 [] (.done))))))) (by kernel_rfl) ?_
      refine q_field (k := 1) rfl rfl rfl rfl Try.underlying153 rfl Try.sizeOf3 rfl ?_
      refine q_load_c (j := 1) rfl rfl rfl rfl Try.isAgg3 Tk (by first | rfl | exact (Nat.add_zero _).symm) (by rfl) ?_
      refine q_int rfl rfl rfl rfl rfl (b_add' _ (by exact fits_i64 (by omega) (by omega))) ?_
      refine q_field (k := 1) rfl rfl rfl rfl Try.underlying153 rfl Try.sizeOf3 rfl ?_
      refine l_store (j := 1) rfl rfl rfl rfl Try.sizeOf3 (us := [_]) rfl rfl rfl Tk (by first | rfl | exact (Nat.add_zero _).symm) (by first | decide | (simp; done) | omega) ?_
      simp only [setL, List.set]
      refine ag_nil ?_
      refine r_done ?_
      refine s_keep [0, 3, 6] (e' := [(0, _), (3, _), (6, _)]) rfl ?_
      refine k_then_n ?_
      refine c_seq ?_
      refine c_seq ?_
      rw [hpl] at hpp p2
      refine c_draw rfl (.q 0 (.q 1 (.q 2 (.q 3 (.q 4 (.q 5 (.q 6 (.q 7 (.q 8 (.q 9 (.q 10 (.q 11 (.done))))))))))))) (by kernel_rfl) ?_
      refine q_field (k := 1) rfl rfl rfl rfl Try.underlying153 rfl Try.sizeOf3 rfl ?_
      refine q_load_c (j := 1) rfl rfl rfl rfl Try.isAgg3 Tk (by first | rfl | exact (Nat.add_zero _).symm) (by rfl) ?_
      refine q_move rfl rfl rfl rfl ?_
      refine q_nil_p rfl rfl rfl rfl ?_
      refine q_field (k := 0) rfl rfl rfl rfl Try.underlying151 rfl Try.sizeOf25 rfl ?_
      refine q_field (k := 4) rfl rfl rfl rfl Try.underlying25 rfl Try.sizeOf23 rfl ?_
      refine q_load_c (j := 4) rfl rfl rfl rfl Try.isAgg23 Tk (by first | rfl | exact (Nat.add_zero _).symm) (by rfl) ?_
      refine q_field (k := 2) rfl rfl rfl rfl Try.underlying36 rfl Try.sizeOf3 rfl ?_
      refine q_load_c (j := 2) rfl rfl rfl rfl Try.isAgg3 Tk (by first | rfl | exact (Nat.add_zero _).symm) (by rfl) ?_
      refine q_idxO (sz := 0) (k := o.toNat) (enc := encZ) (xs := pl) rfl rfl rfl rfl rfl Try.underlying23 Try.sizeOf3 hpp (by omega) (by rw [hpl]; omega) Tk ?_
      intro ib88 io88 ha88 hl88 hc88
      refine q_load_O (v := (.int .i64 pp)) (j := 0) (k' := o.toNat) (enc := encZ) (off := io88) rfl rfl rfl rfl Try.isAgg3 ha88 encZ_len hpp Tk (by first | rfl | exact (Nat.add_zero _).symm | omega) (by rfl) ?_
      refine q_int rfl rfl rfl rfl rfl (b_eql _ _ _ _) ?_
      refine r_done ?_
      refine s_keep [0, 3, 6, 90] (e' := [(0, _), (3, _), (6, _), (90, _)]) rfl ?_
      refine k_then_n ?_
      refine c_cond_p rfl (fun hful => ?_) (fun hful => ?_)
      ·
       refine c_plain (.q 0 (.q 1 (.q 2 (.q 3 ((.l 4 [] (.done))))))) (by kernel_rfl) ?_
       refine q_field (k := 0) rfl rfl rfl rfl Try.underlying153 rfl Try.sizeOf3 rfl ?_
       refine q_load_c (j := 0) rfl rfl rfl rfl Try.isAgg3 Tk (by first | rfl | exact (Nat.add_zero _).symm) (by rfl) ?_
       refine q_int rfl rfl rfl rfl rfl (b_add' _ (by exact fits_i64 (by omega) (by omega))) ?_
       refine q_build rfl rfl rfl rfl (vs := [_, _]) (run_buildS Try.underlying153 Try.zeroValue153 (ps := [(0, 1), (1, 1)]) ⟨rfl, Try.sizeOf3, rfl, Try.sizeOf3, trivial⟩ rfl) ?_
       refine l_store (j := 0) rfl rfl rfl rfl Try.sizeOf153 (us := [_, _]) rfl rfl rfl Tk (by first | rfl | exact (Nat.add_zero _).symm) (by first | decide | (simp; done) | omega) ?_
       simp only [setL, List.set]
       refine ag_nil ?_
       refine r_done ?_
       refine s_keep [0, 3, 6] (e' := [(0, _), (3, _), (6, _)]) rfl ?_
       refine k_then_n ?_
       refine c_draw rfl (.q 0 (.q 1 (.q 2 (.q 3 (.q 4 (.q 5 (.q 6 (.q 7 ((.l 8 [] (.done))))))))))) (by kernel_rfl) ?_
       refine q_move rfl rfl rfl rfl ?_
       refine q_nil_p rfl rfl rfl rfl ?_
       refine q_field (k := 7) rfl rfl rfl rfl Try.underlying151 rfl Try.sizeOf144 rfl ?_
       refine q_load_c (j := 7) rfl rfl rfl rfl Try.isAgg144 Tk (by first | rfl | exact (Nat.add_zero _).symm) (by rfl) ?_
       refine q_field (k := 2) rfl rfl rfl rfl Try.underlying36 rfl Try.sizeOf3 rfl ?_
       refine q_load_c (j := 2) rfl rfl rfl rfl Try.isAgg3 Tk (by first | rfl | exact (Nat.add_zero _).symm) (by rfl) ?_
       refine q_loadN_c rfl rfl rfl rfl Try.isAgg153 Try.sizeOf153 Tk 0 (us := [_, _]) (by first | rfl | exact (Nat.add_zero _).symm) rfl rfl ?_
       refine q_idxO (sz := 1) (k := o.toNat) (enc := enc2) (xs := x.B) rfl rfl rfl rfl rfl Try.underlying144 Try.sizeOf153 hop (by first | rfl | omega) (by omega) Tk ?_
       intro ib102 io102 ha102 hl102 hc102
       refine l_store_O (j := 0) (k := o.toNat) (q := (((opF x o).1) + 1, 0)) (enc := enc2) (off := io102) rfl rfl rfl rfl Try.sizeOf153 (us := [_, _]) rfl rfl rfl ha102 enc2_len hop Tk (by first | rfl | exact (Nat.add_zero _).symm | omega) (by first | decide | exact Nat.le_of_ble_eq_true rfl) (by rfl) ?_
       refine ag_nil ?_
       refine r_done ?_
       refine s_keep [] (e' := []) rfl ?_
       refine k_blk_n ?_
       refine k_then_n ?_
       refine c_seq ?_
       refine c_plain (.q 0 (.done)) (by kernel_rfl) ?_
       refine q_assign rfl rfl rfl rfl ?_
       refine r_done ?_
       refine k_then_n ?_
       refine c_ret ?_
       rw [n9 k9, hpl, getD_some hpp, ← hpl, show arrF (opF x o) pp = ((opF x o).1 + 1, 0) from if_pos hful]
       refine rk_fold (b := b) (⟨x.th, x.va, x.vo, x.lk, x.pa, x.T.set t.toNat (2, o, (opF x o).1), x.O, x.B.set o.toNat ((opF x o).1 + 1, 0), x.n + 1⟩) (pa := pa) (pc := pc) (ta := ta) (tc := tc) (oa := oa) (oc := oc) (ba := ba) (bc := bc) Ts (by rfl) (by simp) (by rfl) (by simp) ?_
       refine ret1 rfl rfl (()) (by rw [show nxE x k t o = 0 from if_pos hc]) (by trivial) ?_
       exact Tf
      ·
       refine c_skip ?_
       refine k_then_n ?_
       refine c_draw rfl (.q 0 (.q 1 (.q 2 (.q 3 (.q 4 (.q 5 (.q 6 (.q 7 ((.l 8 [] (.done))))))))))) (by kernel_rfl) ?_
       refine q_move rfl rfl rfl rfl ?_
       refine q_nil_p rfl rfl rfl rfl ?_
       refine q_field (k := 7) rfl rfl rfl rfl Try.underlying151 rfl Try.sizeOf144 rfl ?_
       refine q_load_c (j := 7) rfl rfl rfl rfl Try.isAgg144 Tk (by first | rfl | exact (Nat.add_zero _).symm) (by rfl) ?_
       refine q_field (k := 2) rfl rfl rfl rfl Try.underlying36 rfl Try.sizeOf3 rfl ?_
       refine q_load_c (j := 2) rfl rfl rfl rfl Try.isAgg3 Tk (by first | rfl | exact (Nat.add_zero _).symm) (by rfl) ?_
       refine q_loadN_c rfl rfl rfl rfl Try.isAgg153 Try.sizeOf153 Tk 0 (us := [_, _]) (by first | rfl | exact (Nat.add_zero _).symm) rfl rfl ?_
       refine q_idxO (sz := 1) (k := o.toNat) (enc := enc2) (xs := x.B) rfl rfl rfl rfl rfl Try.underlying144 Try.sizeOf153 hop (by first | rfl | omega) (by omega) Tk ?_
       intro ib102 io102 ha102 hl102 hc102
       refine l_store_O (j := 0) (k := o.toNat) (q := ((opF x o).1, ((opF x o).2) + 1)) (enc := enc2) (off := io102) rfl rfl rfl rfl Try.sizeOf153 (us := [_, _]) rfl rfl rfl ha102 enc2_len hop Tk (by first | rfl | exact (Nat.add_zero _).symm | omega) (by first | decide | exact Nat.le_of_ble_eq_true rfl) (by rfl) ?_
       refine ag_nil ?_
       refine r_done ?_
       refine s_keep [] (e' := []) rfl ?_
       refine k_blk_n ?_
       refine k_then_n ?_
       refine c_seq ?_
       refine c_plain (.q 0 (.done)) (by kernel_rfl) ?_
       refine q_assign rfl rfl rfl rfl ?_
       refine r_done ?_
       refine k_then_n ?_
       refine c_ret ?_
       rw [n9 k9, hpl, getD_some hpp, ← hpl, show arrF (opF x o) pp = ((opF x o).1, (opF x o).2 + 1) from if_neg hful]
       refine rk_fold (b := b) (⟨x.th, x.va, x.vo, x.lk, x.pa, x.T.set t.toNat (2, o, (opF x o).1), x.O, x.B.set o.toNat ((opF x o).1, (opF x o).2 + 1), x.n + 1⟩) (pa := pa) (pc := pc) (ta := ta) (tc := tc) (oa := oa) (oc := oc) (ba := ba) (bc := bc) Ts (by rfl) (by simp) (by rfl) (by simp) ?_
       refine ret1 rfl rfl (()) (by rw [show nxE x k t o = 0 from if_pos hc]) (by trivial) ?_
       exact Tf
     ·
      refine c_seq ?_
      refine c_plain (.q 0 (.q 1 (.done))) (by kernel_rfl) ?_
      refine q_int rfl rfl rfl rfl rfl (b_eql _ _ _ _) ?_
      refine q_assign rfl rfl rfl rfl ?_
      refine r_done ?_
      refine k_then_n ?_
      refine c_cond_p rfl (fun k10 => ?_) (fun k10 => ?_)
      ·
       refine c_draw rfl (.q 0 (.q 1 (.q 2 (.q 3 (.q 4 (.q 5 (.q 6 (.q 7 ((.l 8 [] (.done))))))))))) (by kernel_rfl) ?_
       refine q_move rfl rfl rfl rfl ?_
       refine q_nil_p rfl rfl rfl rfl ?_
       refine q_field (k := 5) rfl rfl rfl rfl Try.underlying151 rfl Try.sizeOf149 rfl ?_
       refine q_load_c (j := 5) rfl rfl rfl rfl Try.isAgg149 Tk (by first | rfl | exact (Nat.add_zero _).symm) (by rfl) ?_
       refine q_field (k := 1) rfl rfl rfl rfl Try.underlying36 rfl Try.sizeOf3 rfl ?_
       refine q_load_c (j := 1) rfl rfl rfl rfl Try.isAgg3 Tk (by first | rfl | exact (Nat.add_zero _).symm) (by rfl) ?_
       refine q_build rfl rfl rfl rfl (vs := [_, _, _]) (run_buildS Try.underlying107 Try.zeroValue107 (ps := [(0, 1), (1, 1), (2, 1)]) ⟨rfl, Try.sizeOf105, rfl, Try.sizeOf3, rfl, Try.sizeOf3, trivial⟩ rfl) ?_
       refine q_idxO (sz := 2) (k := t.toNat) (enc := enc3) (xs := x.T) rfl rfl rfl rfl rfl Try.underlying149 Try.sizeOf107 t2 (by first | rfl | omega) (by omega) Tk ?_
       intro ib112 io112 ha112 hl112 hc112
       refine l_store_O (j := 0) (k := t.toNat) (q := (1, 0, 0)) (enc := enc3) (off := io112) rfl rfl rfl rfl Try.sizeOf107 (us := [_, _, _]) rfl rfl rfl ha112 enc3_len t2 Tk (by first | rfl | exact (Nat.add_zero _).symm | omega) (by first | decide | exact Nat.le_of_ble_eq_true rfl) (by rfl) ?_
       refine ag_nil ?_
       refine r_done ?_
       refine s_keep [] (e' := []) rfl ?_
       refine k_blk_n ?_
       refine k_then_n ?_
       refine c_seq ?_
       refine c_plain (.q 0 (.done)) (by kernel_rfl) ?_
       refine q_assign rfl rfl rfl rfl ?_
       refine r_done ?_
       refine k_then_n ?_
       refine c_ret ?_
       rw [n10 k10]
       refine rk_fold (b := b) (⟨x.th, x.va, x.vo, x.lk, x.pa, x.T.set t.toNat (1, 0, 0), x.O, x.B, x.n + 1⟩) (pa := pa) (pc := pc) (ta := ta) (tc := tc) (oa := oa) (oc := oc) (ba := ba) (bc := bc) Ts (by rfl) (by simp) (by rfl) (by rfl) ?_
       refine ret1 rfl rfl (()) (by rw [show nxE x k t o = 0 from if_pos hc]) (by trivial) ?_
       exact Tf
      ·
       refine c_seq ?_
       refine c_plain (.q 0 (.q 1 (.done))) (by kernel_rfl) ?_
       refine q_int rfl rfl rfl rfl rfl (b_eql _ _ _ _) ?_
       refine q_assign rfl rfl rfl rfl ?_
       refine r_done ?_
       refine s_keep [0, 3, 113] (e' := [(0, _), (3, _), (113, _)]) rfl ?_
       refine k_then_n ?_
       refine c_cond_p rfl (fun k11 => ?_) (fun k11 => ?_)
       ·
        refine c_draw rfl (.q 0 (.q 1 (.q 2 (.q 3 (.q 4 (.q 5 (.q 6 (.q 7 ((.l 8 [] (.done))))))))))) (by kernel_rfl) ?_
        refine q_move rfl rfl rfl rfl ?_
        refine q_nil_p rfl rfl rfl rfl ?_
        refine q_field (k := 5) rfl rfl rfl rfl Try.underlying151 rfl Try.sizeOf149 rfl ?_
        refine q_load_c (j := 5) rfl rfl rfl rfl Try.isAgg149 Tk (by first | rfl | exact (Nat.add_zero _).symm) (by rfl) ?_
        refine q_field (k := 1) rfl rfl rfl rfl Try.underlying36 rfl Try.sizeOf3 rfl ?_
        refine q_load_c (j := 1) rfl rfl rfl rfl Try.isAgg3 Tk (by first | rfl | exact (Nat.add_zero _).symm) (by rfl) ?_
        refine q_build rfl rfl rfl rfl (vs := [_, _, _]) (run_buildS Try.underlying107 Try.zeroValue107 (ps := [(0, 1), (1, 1), (2, 1)]) ⟨rfl, Try.sizeOf105, rfl, Try.sizeOf3, rfl, Try.sizeOf3, trivial⟩ rfl) ?_
        refine q_idxO (sz := 2) (k := t.toNat) (enc := enc3) (xs := x.T) rfl rfl rfl rfl rfl Try.underlying149 Try.sizeOf107 t2 (by first | rfl | omega) (by omega) Tk ?_
        intro ib122 io122 ha122 hl122 hc122
        refine l_store_O (j := 0) (k := t.toNat) (q := (3, 0, 0)) (enc := enc3) (off := io122) rfl rfl rfl rfl Try.sizeOf107 (us := [_, _, _]) rfl rfl rfl ha122 enc3_len t2 Tk (by first | rfl | exact (Nat.add_zero _).symm | omega) (by first | decide | exact Nat.le_of_ble_eq_true rfl) (by rfl) ?_
        refine ag_nil ?_
        refine r_done ?_
        refine s_keep [] (e' := []) rfl ?_
        refine k_blk_n ?_
        refine k_then_n ?_
        refine c_seq ?_
        refine c_plain (.q 0 (.done)) (by kernel_rfl) ?_
        refine q_assign rfl rfl rfl rfl ?_
        refine r_done ?_
        refine k_then_n ?_
        refine c_ret ?_
        rw [n11 k11]
        refine rk_fold (b := b) (⟨x.th, x.va, x.vo, x.lk, x.pa, x.T.set t.toNat (3, 0, 0), x.O, x.B, x.n + 1⟩) (pa := pa) (pc := pc) (ta := ta) (tc := tc) (oa := oa) (oc := oc) (ba := ba) (bc := bc) Ts (by rfl) (by simp) (by rfl) (by rfl) ?_
        refine ret1 rfl rfl (()) (by rw [show nxE x k t o = 0 from if_pos hc]) (by trivial) ?_
        exact Tf
       ·
        refine c_skip ?_
        refine k_blk_n ?_
        refine k_then_n ?_
        refine c_seq ?_
        refine c_plain (.q 0 (.done)) (by kernel_rfl) ?_
        refine q_assign rfl rfl rfl rfl ?_
        refine r_done ?_
        refine k_then_n ?_
        refine c_ret ?_
        rw [nn k5 k6 k7 k9 k10 k11]
        refine rk_fold (b := b) (⟨x.th, x.va, x.vo, x.lk, x.pa, x.T, x.O, x.B, x.n + 1⟩) (pa := pa) (pc := pc) (ta := ta) (tc := tc) (oa := oa) (oc := oc) (ba := ba) (bc := bc) Ts (by rfl) (by rfl) (by rfl) (by rfl) ?_
        refine ret1 rfl rfl (()) (by rw [show nxE x k t o = 0 from if_pos hc]) (by trivial) ?_
        exact Tf
theorem rstand_spec (pa : Option Addr) (pc b : Nat) (x : CS) (hx : CInv x) (t : Int) : Spec Try.prog 36 [.pointer (some ⟨b, 0, none⟩), .int .i64 t] [rk pa pc b x] (fun (_ : Unit) => .tuple #[ev3 (stF x t), .int .i64 (if 0 ≤ t ∧ t < x.th then 0 else 2)]) (fun _ => True) (fun _ => [rk pa pc b x]) := by
 refine spec_mk (n := 25) Try.func36 rfl rfl rfl ?_
 intro Γ w0
 simp only [argE, List.cons_append, List.nil_append, Nat.zero_add, Nat.reduceAdd]
 have htl := hx.tl
 have hol := hx.ol
 have hbl := hx.bl
 refine c_seq ?_
 refine c_plain ((.l 0 [] (.q 1 (.done)))) (by kernel_rfl) ?_
 refine l_alloc rfl rfl rfl Try.zeroValue107 (zs := [.int .i64 0, .int .i64 0, .int .i64 0]) rfl ?_
 intro b4
 refine ag_nil ?_
 refine q_assign rfl rfl rfl rfl ?_
 refine r_done ?_
 refine k_then_n ?_
 refine c_seq ?_
 refine c_seq ?_
 refine c_plain (.q 0 (.q 1 (.done))) (by kernel_rfl) ?_
 refine q_move rfl rfl rfl rfl ?_
 refine q_eq_nil rfl rfl rfl rfl Try.underlying91 ?_
 refine s_eq 7 rfl (v' := .bool false) rfl ?_
 refine r_done ?_
 refine k_then_n ?_
 refine c_cond_f rfl ?_
 refine c_skip ?_
 refine k_then_n ?_
 refine c_seq ?_
 refine c_seq ?_
 refine s_take (A := rk pa pc b x) Tk ?_
 refine rk_open fun ta tc oa oc ba bc => ?_
 refine c_plain (.q 0 (.q 1 (.q 2 (.q 3 (.q 4 (.q 5 ((.l 6 [] (.q 7 (.done)))))))))) (by kernel_rfl) ?_
 refine q_move rfl rfl rfl rfl ?_
 refine q_move rfl rfl rfl rfl ?_
 refine q_nil_p rfl rfl rfl rfl ?_
 refine q_field (k := 5) rfl rfl rfl rfl Try.underlying151 rfl Try.sizeOf149 rfl ?_
 refine q_load_c (j := 5) rfl rfl rfl rfl Try.isAgg149 Tk (by first | rfl | exact (Nat.add_zero _).symm) (by rfl) ?_
 refine q_len rfl rfl rfl rfl Try.underlying149 ?_
 have sp_1 := below_spec t ((x.T.length : Nat) : Int)
 refine l_call rfl rfl rfl rfl rfl rfl Try.call76 (sp_1) Ts ?_
 rintro ⟨⟩ -
 try simp only [List.cons_append, List.nil_append]
 refine ag_nil ?_
 refine q_not rfl rfl rfl rfl ?_
 refine r_done ?_
 refine s_keep [0, 1, 4, 16] (e' := [(0, _), (1, _), (4, _), (16, _)]) rfl ?_
 refine k_then_n ?_
 refine c_cond_np rfl (fun hin => ?_) (fun hin => ?_)
 ·
  have hno : ¬ (0 ≤ t ∧ t < x.th) := fun h => hin (by omega)
  refine c_seq ?_
  refine c_plain (.q 0 ((.l 1 [] (.q 2 (.done))))) (by kernel_rfl) ?_
  refine q_build rfl rfl rfl rfl (vs := [_, _, _]) (run_buildS Try.underlying107 Try.zeroValue107 (ps := [(0, 1), (1, 1), (2, 1)]) ⟨rfl, Try.sizeOf105, rfl, Try.sizeOf3, rfl, Try.sizeOf3, trivial⟩ rfl) ?_
  refine l_store (j := 0) rfl rfl rfl rfl Try.sizeOf107 (us := [_, _, _]) rfl rfl rfl Tk (by first | rfl | exact (Nat.add_zero _).symm) (by first | decide | (simp; done) | omega) ?_
  simp only [setL, List.set]
  refine ag_nil ?_
  refine q_assign rfl rfl rfl rfl ?_
  refine r_done ?_
  refine s_keep [4, 5] (e' := [(4, _), (5, _)]) rfl ?_
  refine k_then_n ?_
  refine c_ret ?_
  refine k_then_ret ?_
  refine rk_fold (b := b) x (pa := pa) (pc := pc) (ta := ta) (tc := tc) (oa := oa) (oc := oc) (ba := ba) (bc := bc) Ts (by rfl) (by rfl) (by rfl) (by rfl) ?_
  refine retL (us := [_, _]) rfl ⟨rv_cellN rfl Try.isAgg107 Try.sizeOf107 Tk 0 rfl (us := [_, _, _]) rfl rfl, rv_tmp rfl, trivial⟩ (()) (by rw [if_neg hno, stF_out (by omega)]; rfl) (by trivial) ?_
  exact Tf
 ·
  have hyes : 0 ≤ t ∧ t < x.th := by omega
  have hel := stF_at (x := x) (t := t) hin.1 hin.2
  refine c_skip ?_
  refine k_then_n ?_
  refine c_seq ?_
  refine c_plain (.q 0 (.q 1 (.q 2 (.q 3 (.q 4 (.q 5 (.q 6 ((.l 7 [] (.q 8 (.done))))))))))) (by kernel_rfl) ?_
  refine q_move rfl rfl rfl rfl ?_
  refine q_nil_p rfl rfl rfl rfl ?_
  refine q_field (k := 5) rfl rfl rfl rfl Try.underlying151 rfl Try.sizeOf149 rfl ?_
  refine q_load_c (j := 5) rfl rfl rfl rfl Try.isAgg149 Tk (by first | rfl | exact (Nat.add_zero _).symm) (by rfl) ?_
  refine q_move rfl rfl rfl rfl ?_
  refine q_idxO (sz := 2) (k := t.toNat) (enc := enc3) (xs := x.T) rfl rfl rfl rfl rfl Try.underlying149 Try.sizeOf107 hel (by first | rfl | omega) (by omega) Tk ?_
  intro ib23 io23 ha23 hl23 hc23
  refine q_loadN_O (j := 0) (k' := t.toNat) (us := [_, _, _]) (enc := enc3) (off := io23) rfl rfl rfl rfl Try.isAgg107 Try.sizeOf107 ha23 enc3_len hel Tk (by first | rfl | exact (Nat.add_zero _).symm | omega) (by rfl) rfl ?_
  refine l_store (j := 0) rfl rfl rfl rfl Try.sizeOf107 (us := [_, _, _]) rfl rfl rfl Tk (by first | rfl | exact (Nat.add_zero _).symm) (by first | decide | (simp; done) | omega) ?_
  simp only [setL, List.set]
  refine ag_nil ?_
  refine q_assign rfl rfl rfl rfl ?_
  refine r_done ?_
  refine s_keep [4, 5] (e' := [(4, _), (5, _)]) rfl ?_
  refine k_then_n ?_
  refine c_ret ?_
  refine rk_fold (b := b) x (pa := pa) (pc := pc) (ta := ta) (tc := tc) (oa := oa) (oc := oc) (ba := ba) (bc := bc) Ts (by rfl) (by rfl) (by rfl) (by rfl) ?_
  refine retL (us := [_, _]) rfl ⟨rv_cellN rfl Try.isAgg107 Try.sizeOf107 Tk 0 rfl (us := [_, _, _]) rfl rfl, rv_tmp rfl, trivial⟩ (()) (by rw [if_pos hyes]; rfl) (by trivial) ?_
  exact Tf
end Go.Ab.Fe
set_option linter.unusedVariables false
set_option linter.unusedSimpArgs false
set_option maxRecDepth 100000
namespace Go.Ab.Fe
open Go Go.Proofs Go.Ab
abbrev nxT (x : CS) (e : T3) : CS := nxF x e.1 e.2.1 e.2.2
abbrev canT (x : CS) (e : T3) : Prop := canF x e.1 e.2.1 e.2.2
/-- Behind the first i events, those that cannot be next left out. -/
def sN (x : CS) (es : List T3) (i : Nat) : CS := (es.take i).foldl nxT x
theorem sN_zero (x : CS) (es : List T3) : sN x es 0 = x := rfl
theorem sN_next {x : CS} {es : List T3} {i : Nat} {e : T3} (h : es[i]? = some e) : sN x es (i + 1) = nxF (sN x es i) e.1 e.2.1 e.2.2 := by
  unfold sN; rw [take_next h, List.foldl_append]; rfl
theorem sN_cons (x : CS) (e : T3) (es : List T3) (i : Nat) : sN x (e :: es) (i + 1) = sN (nxT x e) es i := rfl
theorem nxF_pa (x : CS) (k t o : Int) : (nxF x k t o).pa = x.pa ∧ (nxF x k t o).th = x.th ∧ (nxF x k t o).va = x.va ∧ (nxF x k t o).vo = x.vo ∧ (nxF x k t o).lk = x.lk := by
  unfold nxF nextF; split
  · repeat' split
    all_goals exact ⟨rfl, rfl, rfl, rfl, rfl⟩
  · exact ⟨rfl, rfl, rfl, rfl, rfl⟩
theorem nxF_n (x : CS) (k t o : Int) : (nxF x k t o).n = x.n ∨ (nxF x k t o).n = x.n + 1 := by
  unfold nxF nextF; split
  · repeat' split
    all_goals exact .inr rfl
  · exact .inl rfl
theorem sN_inv {x : CS} (hx : CInv x) (es : List T3) : ∀ i, CInv (sN x es i) := by
  intro i
  induction i with
  | zero => exact hx
  | succ i ih =>
    rcases Nat.lt_or_ge i es.length with h | h
    · obtain ⟨e, he⟩ := get_lt h
      rw [sN_next he]; exact next_inv ih _ _ _
    · have : sN x es (i + 1) = sN x es i := by unfold sN; rw [List.take_of_length_le (by omega), List.take_of_length_le h]
      rw [this]; exact ih
theorem sN_sh (x : CS) (es : List T3) : ∀ i, (sN x es i).pa = x.pa ∧ (sN x es i).th = x.th ∧ (sN x es i).va = x.va ∧ (sN x es i).vo = x.vo ∧ (sN x es i).lk = x.lk := by
  intro i
  induction i with
  | zero => exact ⟨rfl, rfl, rfl, rfl, rfl⟩
  | succ i ih =>
    rcases Nat.lt_or_ge i es.length with h | h
    · obtain ⟨e, he⟩ := get_lt h
      rw [sN_next he]
      obtain ⟨a, b, c, d, f⟩ := nxF_pa (sN x es i) e.1 e.2.1 e.2.2
      rw [a, b, c, d, f]; exact ih
    · have : sN x es (i + 1) = sN x es i := by unfold sN; rw [List.take_of_length_le (by omega), List.take_of_length_le h]
      rw [this]; exact ih
theorem sN_n (x : CS) (es : List T3) : ∀ i, x.n ≤ (sN x es i).n ∧ (sN x es i).n ≤ x.n + i := by
  intro i
  induction i with
  | zero => rw [sN_zero]; omega
  | succ i ih =>
    rcases Nat.lt_or_ge i es.length with h | h
    · obtain ⟨e, he⟩ := get_lt h
      rw [sN_next he]
      rcases nxF_n (sN x es i) e.1 e.2.1 e.2.2 with h | h <;> rw [h] <;> omega
    · have : sN x es (i + 1) = sN x es i := by unfold sN; rw [List.take_of_length_le (by omega), List.take_of_length_le h]
      rw [this]; omega
/-- All of the first i events can be. -/
def allC (x : CS) (es : List T3) (i : Nat) : Prop := ∀ (j : Nat) (e : T3), j < i → es[j]? = some e → canT (sN x es j) e
def leastN : CS → List T3 → Nat
  | _, [] => 0
  | x, e :: es => if canT x e then leastN (nxT x e) es + 1 else 0
def lsR (th va vo lk : Int) (pl : List Int) (es : List T3) : Int := if OkS th va vo lk pl then ((leastN (newF th va vo lk pl) es : Nat) : Int) else 0
theorem rnew_spec (th va vo lk : Int) (pl : List Int) (ao : Option Addr) (n c : Nat) (A : HProp) (hr : RdS A ao (pl.flatMap encZ)) (hn : pl.length = n) (hb : n ≤ 4000000) (hok : OkS th va vo lk pl) : Spec Try.prog 31 [.agg #[.int .i64 th, .int .i64 va, .int .i64 vo, .int .i64 lk, .slice ao n c]] [A] (fun (r : Nat × Option Addr × Nat) => .tuple #[.pointer (some ⟨r.1, 0, none⟩), .int .i64 0]) (fun r => True) (fun r => [A, own 1 encZ r.2.1 r.2.2 pl, rk r.2.1 r.2.2 r.1 (newF th va vo lk pl)]) := by
 refine spec_mk (n := 92) Try.func31 rfl rfl rfl ?_
 intro Γ w0
 simp only [argE, List.cons_append, List.nil_append, Nat.zero_add, Nat.reduceAdd]
 have h1_ := hok.th
 have h2_ := hok.lk
 have h3_ := hok.pl
 refine c_seq ?_
 refine c_plain ((.l 0 [] (.q 1 (.q 2 (.done))))) (by kernel_rfl) ?_
 refine l_box rfl rfl rfl rfl (us := [_, _, _, _, _]) rfl ?_
 intro b1
 refine ag_nil ?_
 refine q_assign rfl rfl rfl rfl ?_
 refine q_assign rfl rfl rfl rfl ?_
 refine r_done ?_
 refine k_then_n ?_
 refine c_seq ?_
 refine c_plain (.q 0 ((.l 1 [] (.q 2 (.done))))) (by kernel_rfl) ?_
 refine q_loadN_c rfl rfl rfl rfl Try.isAgg25 Try.sizeOf25 Tk 0 (us := [_, _, _, _, _]) (by first | rfl | exact (Nat.add_zero _).symm) rfl rfl ?_
 have sp_1 := rshape_spec th va vo lk pl ao n c A (hr) (by first | rfl | assumption | omega | (simp; done) | (simp; omega)) (by omega)
 refine l_call rfl rfl rfl rfl rfl rfl Try.call75 (sp_1) Ts ?_
 rintro ⟨⟩ -
 try simp only [List.cons_append, List.nil_append]
 refine ag_nil ?_
 refine s_eq 10 rfl (v' := .int .i64 0) (by rw [if_pos hok]) ?_
 refine q_assign rfl rfl rfl rfl ?_
 refine r_done ?_
 refine s_keep [1, 4] (e' := [(1, _), (4, _)]) rfl ?_
 refine k_then_n ?_
 refine c_seq ?_
 refine c_seq ?_
 refine c_plain (.q 0 (.q 1 (.done))) (by kernel_rfl) ?_
 refine q_move rfl rfl rfl rfl ?_
 refine q_int rfl rfl rfl rfl rfl (b_neq _ _ _ _) ?_
 refine s_eq 12 rfl (v' := .bool false) (by first | rfl | simp) ?_
 refine r_done ?_
 refine k_then_n ?_
 refine c_cond_f rfl ?_
 refine c_skip ?_
 refine k_then_n ?_
 refine c_seq ?_
 refine c_plain (.q 0 (.q 1 ((.l 2 [] (.q 3 (.done)))))) (by kernel_rfl) ?_
 refine q_loadN_c rfl rfl rfl rfl Try.isAgg25 Try.sizeOf25 Tk 0 (us := [_, _, _, _, _]) (by first | rfl | exact (Nat.add_zero _).symm) rfl rfl ?_
 refine q_build rfl rfl rfl rfl (vs := [_, _, _, _, _, _, _, _, _]) (run_buildS Try.underlying151 Try.zeroValue151 (ps := [(0, 5), (5, 1), (6, 1), (7, 1), (8, 1)]) ⟨rfl, Try.sizeOf25, rfl, Try.sizeOf149, rfl, Try.sizeOf23, rfl, Try.sizeOf144, rfl, Try.sizeOf3, trivial⟩ rfl) ?_
 refine l_box rfl rfl rfl rfl (us := [_, _, _, _, _, _, _, _, _]) rfl ?_
 intro b16
 refine ag_nil ?_
 refine q_assign rfl rfl rfl rfl ?_
 refine r_done ?_
 refine s_keep [1, 5] (e' := [(1, _), (5, _)]) rfl ?_
 refine k_then_n ?_
 refine c_seq ?_
 refine c_plain (.q 0 (.q 1 (.q 2 (.q 3 ((.l 4 [] (.done))))))) (by kernel_rfl) ?_
 refine q_move rfl rfl rfl rfl ?_
 refine q_nil_p rfl rfl rfl rfl ?_
 refine q_field (k := 0) rfl rfl rfl rfl Try.underlying151 rfl Try.sizeOf25 rfl ?_
 refine q_field (k := 4) rfl rfl rfl rfl Try.underlying25 rfl Try.sizeOf23 rfl ?_
 refine l_store (j := 4) rfl rfl rfl rfl Try.sizeOf23 (us := [_]) rfl rfl rfl Tk (by first | rfl | exact (Nat.add_zero _).symm) (by first | decide | (simp; done) | omega) ?_
 simp only [setL, List.set]
 refine ag_nil ?_
 refine r_done ?_
 refine s_keep [1, 5] (e' := [(1, _), (5, _)]) rfl ?_
 refine k_then_n ?_
 refine c_seq ?_
 refine c_seq ?_
 refine c_plain (.q 0 (.done)) (by kernel_rfl) ?_
 refine q_assign rfl rfl rfl rfl ?_
 refine r_done ?_
 refine k_then_n ?_
 refine c_block ?_
 refine s_heap (fun _ h => own_nil (sz := 1) (enc := encZ) h) ?_
 refine s_heap (fun _ h => own_nil (sz := 2) (enc := enc2) h) ?_
 refine c_loop2 (α := Nat × Option Addr × Nat × Option Addr × Nat) (fun (x_ : Nat × Option Addr × Nat × Option Addr × Nat) => match x_ with | (i, ai, ci, bi, di) => i ≤ n ∧ True) (fun (x_ : Nat × Option Addr × Nat × Option Addr × Nat) => match x_ with | (i, ai, ci, bi, di) => [(6, .int .i64 ((i : Nat) : Int))]) (fun (x_ : Nat × Option Addr × Nat × Option Addr × Nat) => match x_ with | (i, ai, ci, bi, di) => [cells b16 0 [.int .i64 th, .int .i64 va, .int .i64 vo, .int .i64 lk, .slice ai i ci, .slice none 0 0, .slice none 0 0, .slice bi i di, .int .i64 0], own 1 encZ ai ci (pl.take i), own 2 enc2 bi di (List.replicate i ((0 : Int), (0 : Int)))]) (fun (x_ : Nat × Option Addr × Nat × Option Addr × Nat) => match x_ with | (i, ai, ci, bi, di) => n - i) [1, 5] (er := [(1, _), (5, _)]) rfl (0, none, 0, none, 0) ?_ (by exact ⟨rfl, trivial⟩) (by (try dsimp only); (try simp only [Nat.add_zero, Nat.zero_add]); (repeat ((with_reducible apply Z2); focus (first | (with_reducible (repeat (first | exact Z0 | apply Z1)); done) | (repeat (first | exact Z0 | apply Z1))))); exact Z3) ?_
 · exact ⟨Nat.zero_le _, trivial⟩
 rintro ⟨i, ai, ci, bi, di⟩ ⟨hle_i, hz1⟩
 try simp only [List.cons_append, List.nil_append]
 refine c_seq ?_
 refine c_seq ?_
 refine c_plain (.q 0 (.q 1 (.q 2 (.q 3 (.q 4 (.done)))))) (by kernel_rfl) ?_
 refine q_move rfl rfl rfl rfl ?_
 refine q_field (k := 4) rfl rfl rfl rfl Try.underlying25 rfl Try.sizeOf23 rfl ?_
 refine q_load_c (j := 4) rfl rfl rfl rfl Try.isAgg23 Tk (by first | rfl | exact (Nat.add_zero _).symm) (by rfl) ?_
 refine q_len rfl rfl rfl rfl Try.underlying23 ?_
 refine q_int rfl rfl rfl rfl rfl (b_lss _ _ _ _) ?_
 refine r_done ?_
 refine s_keep [1, 5, 6, 25] (e' := [(1, _), (5, _), (6, _), (25, _)]) rfl ?_
 refine k_then_n ?_
 refine c_cond_p rfl (fun hlt1 => ?_) (fun hlt1 => ?_)
 ·
  refine c_skip ?_
  refine k_then_n ?_
  refine c_seq ?_
  refine c_block ?_
  refine c_seq ?_
  refine c_draw rfl (.q 0 (.q 1 (.q 2 (.q 3 (.q 4 (.q 5 (.q 6 (.q 7 (.q 8 (.q 9 (.q 10 ((.l 11 [5] ((.l 12 [] (.q 13 (.q 14 (.q 15 ((.l 16 [] (.done))))))))))))))))))))) (by kernel_rfl) ?_
  refine q_move rfl rfl rfl rfl ?_
  refine q_move rfl rfl rfl rfl ?_
  refine q_nil_p rfl rfl rfl rfl ?_
  refine q_field (k := 0) rfl rfl rfl rfl Try.underlying151 rfl Try.sizeOf25 rfl ?_
  refine q_field (k := 4) rfl rfl rfl rfl Try.underlying25 rfl Try.sizeOf23 rfl ?_
  refine q_load_c (j := 4) rfl rfl rfl rfl Try.isAgg23 Tk (by first | rfl | exact (Nat.add_zero _).symm) (by rfl) ?_
  refine q_field (k := 4) rfl rfl rfl rfl Try.underlying25 rfl Try.sizeOf23 rfl ?_
  refine q_load_c (j := 4) rfl rfl rfl rfl Try.isAgg23 Tk (by first | rfl | exact (Nat.add_zero _).symm) (by rfl) ?_
  refine q_move rfl rfl rfl rfl ?_
  obtain ⟨p, hp⟩ := get_lt (l := pl) (i := i) (by first | omega | (simp; done) | (simp; omega))
  refine q_idxR (sz := 0) (k := i) rfl rfl rfl rfl rfl Try.underlying23 Try.sizeOf3 (hr) hp encZ_len (by first | rfl | omega) (by omega) ?_
  intro ib37 io37 _ hd37
  refine q_load rfl rfl rfl rfl Try.isAgg3 Tk (hd37 0 (.int .i64 p) rfl) ?_
  refine l_buildSlice rfl rfl rfl rfl (run_build1 (us := [_]) Try.underlying23 Try.sizeOf3 rfl Try.zeroValue3 rfl rfl rfl) ?_
  intro b39
  refine ag_load_c (q := 4) rfl rfl rfl Try.isAgg23 Tk (by first | rfl | exact (Nat.add_zero _).symm) (by rfl) ?_
  refine ag_nil ?_
  refine l_append (sz := 1) (enc := encZ) (xs := (pl.take i)) rfl rfl rfl rfl rfl Try.underlying23 Try.typeInfo3 rfl rfl rfl (by decide) Tk Tk (by first | rfl | omega | (simp; done) | (simp; omega)) (ys := [p]) (rds_some rdn_cells) (by rfl) (by first | rfl | omega) (encZ_len) (encZ_one) (by omega) (by show _ * 8 ≤ _; omega) ?_
  intro ao40 cp40
  refine ag_nil ?_
  refine q_nil_p rfl rfl rfl rfl ?_
  refine q_field (k := 0) rfl rfl rfl rfl Try.underlying151 rfl Try.sizeOf25 rfl ?_
  refine q_field (k := 4) rfl rfl rfl rfl Try.underlying25 rfl Try.sizeOf23 rfl ?_
  refine l_store (j := 4) rfl rfl rfl rfl Try.sizeOf23 (us := [_]) rfl rfl rfl Tk (by first | rfl | exact (Nat.add_zero _).symm) (by first | decide | (simp; done) | omega) ?_
  simp only [setL, List.set]
  refine ag_nil ?_
  refine r_done ?_
  refine s_keep [1, 5, 6] (e' := [(1, _), (5, _), (6, _)]) rfl ?_
  refine k_then_n ?_
  refine c_plain (.q 0 (.q 1 (.q 2 (.q 3 (.q 4 (.q 5 ((.l 6 [] ((.l 7 [] (.q 8 (.q 9 ((.l 10 [] (.done))))))))))))))) (by kernel_rfl) ?_
  refine q_move rfl rfl rfl rfl ?_
  refine q_move rfl rfl rfl rfl ?_
  refine q_nil_p rfl rfl rfl rfl ?_
  refine q_field (k := 7) rfl rfl rfl rfl Try.underlying151 rfl Try.sizeOf144 rfl ?_
  refine q_load_c (j := 7) rfl rfl rfl rfl Try.isAgg144 Tk (by first | rfl | exact (Nat.add_zero _).symm) (by rfl) ?_
  refine q_build rfl rfl rfl rfl (vs := [_, _]) (run_buildS Try.underlying153 Try.zeroValue153 (ps := [(0, 1), (1, 1)]) ⟨rfl, Try.sizeOf3, rfl, Try.sizeOf3, trivial⟩ rfl) ?_
  refine l_buildSlice rfl rfl rfl rfl (run_build1 (us := [_, _]) Try.underlying144 Try.sizeOf153 rfl Try.zeroValue153 rfl rfl rfl) ?_
  intro b50
  refine ag_nil ?_
  refine l_append (sz := 2) (enc := enc2) (xs := (List.replicate i ((0 : Int), (0 : Int)))) rfl rfl rfl rfl rfl Try.underlying144 Try.typeInfo153 rfl rfl rfl (by decide) Tk Tk (by first | rfl | omega | (simp; done) | (simp; omega)) (ys := [(0, 0)]) (rds_some rdn_cells) (by rfl) (by first | rfl | omega) (enc2_len) (enc2_one) (by omega) (by show _ * 16 ≤ _; omega) ?_
  intro ao51 cp51
  refine ag_nil ?_
  refine q_nil_p rfl rfl rfl rfl ?_
  refine q_field (k := 7) rfl rfl rfl rfl Try.underlying151 rfl Try.sizeOf144 rfl ?_
  refine l_store (j := 7) rfl rfl rfl rfl Try.sizeOf144 (us := [_]) rfl rfl rfl Tk (by first | rfl | exact (Nat.add_zero _).symm) (by first | decide | (simp; done) | omega) ?_
  simp only [setL, List.set]
  refine ag_nil ?_
  refine r_done ?_
  refine s_keep [1, 5, 6] (e' := [(1, _), (5, _), (6, _)]) rfl ?_
  refine k_blk_n ?_
  refine k_then_n ?_
  refine c_plain (.q 0 (.q 1 (.q 2 (.done)))) (by kernel_rfl) ?_
  refine q_move rfl rfl rfl rfl ?_
  refine q_int rfl rfl rfl rfl rfl (b_add' _ (by exact fits_i64 (by omega) (by omega))) ?_
  refine q_assign rfl rfl rfl rfl ?_
  refine r_done ?_
  refine k_then_n ?_
  rw [← take_next hp, ← List.replicate_succ']
  refine loop_next (x := (i, ai, ci, bi, di)) ((i + 1, ao40, cp40, ao51, cp51)) ?_ ?_ ?_ ?_
  · try dsimp only
    exact ⟨by omega, trivial⟩
  · show n - (i + 1) < n - i; omega
  · exact ⟨rfl, rfl, rfl, trivial⟩
  · (try simp only [List.cons_append, List.nil_append]); exact Tf
 ·
  refine c_exit ?_
  refine k_then_exit ?_
  refine k_then_exit ?_
  refine k_blk_here ?_
  refine k_then_n ?_
  refine c_seq ?_
  refine c_seq ?_
  refine c_plain (.q 0 (.done)) (by kernel_rfl) ?_
  refine q_assign rfl rfl rfl rfl ?_
  refine r_done ?_
  refine k_then_n ?_
  refine c_block ?_
  refine s_heap (fun _ h => own_nil (sz := 3) (enc := enc3) h) ?_
  refine c_loop2 (α := Nat × Option Addr × Nat) (fun (x_ : Nat × Option Addr × Nat) => match x_ with | (j, aj, cj) => j ≤ th.toNat ∧ True) (fun (x_ : Nat × Option Addr × Nat) => match x_ with | (j, aj, cj) => [(7, .int .i64 ((j : Nat) : Int))]) (fun (x_ : Nat × Option Addr × Nat) => match x_ with | (j, aj, cj) => [cells b16 0 [.int .i64 th, .int .i64 va, .int .i64 vo, .int .i64 lk, .slice ai i ci, .slice aj j cj, .slice none 0 0, .slice bi i di, .int .i64 0], own 1 encZ ai ci (pl.take i), own 3 enc3 aj cj (List.replicate j ((0 : Int), (0 : Int), (0 : Int))), own 2 enc2 bi di (List.replicate i ((0 : Int), (0 : Int)))]) (fun (x_ : Nat × Option Addr × Nat) => match x_ with | (j, aj, cj) => th.toNat - j) [1, 5] (er := [(1, _), (5, _)]) rfl (0, none, 0) ?_ (by exact ⟨rfl, trivial⟩) (by (try dsimp only); (try simp only [Nat.add_zero, Nat.zero_add]); (repeat ((with_reducible apply Z2); focus (first | (with_reducible (repeat (first | exact Z0 | apply Z1)); done) | (repeat (first | exact Z0 | apply Z1))))); exact Z3) ?_
  · exact ⟨Nat.zero_le _, trivial⟩
  rintro ⟨j, aj, cj⟩ ⟨hle_j, hz2⟩
  try simp only [List.cons_append, List.nil_append]
  refine c_seq ?_
  refine c_seq ?_
  refine c_plain (.q 0 (.q 1 (.q 2 (.q 3 (.done))))) (by kernel_rfl) ?_
  refine q_move rfl rfl rfl rfl ?_
  refine q_field (k := 0) rfl rfl rfl rfl Try.underlying25 rfl Try.sizeOf3 rfl ?_
  refine q_load_c (j := 0) rfl rfl rfl rfl Try.isAgg3 Tk (by first | rfl | exact (Nat.add_zero _).symm) (by rfl) ?_
  refine q_int rfl rfl rfl rfl rfl (b_lss _ _ _ _) ?_
  refine r_done ?_
  refine k_then_n ?_
  refine c_cond_p rfl (fun hlt2 => ?_) (fun hlt2 => ?_)
  ·
   refine c_skip ?_
   refine k_then_n ?_
   refine c_seq ?_
   refine c_block ?_
   refine c_plain (.q 0 (.q 1 (.q 2 (.q 3 (.q 4 (.q 5 ((.l 6 [] ((.l 7 [] (.q 8 (.q 9 ((.l 10 [] (.done))))))))))))))) (by kernel_rfl) ?_
   refine q_move rfl rfl rfl rfl ?_
   refine q_move rfl rfl rfl rfl ?_
   refine q_nil_p rfl rfl rfl rfl ?_
   refine q_field (k := 5) rfl rfl rfl rfl Try.underlying151 rfl Try.sizeOf149 rfl ?_
   refine q_load_c (j := 5) rfl rfl rfl rfl Try.isAgg149 Tk (by first | rfl | exact (Nat.add_zero _).symm) (by rfl) ?_
   refine q_build rfl rfl rfl rfl (vs := [_, _, _]) (run_buildS Try.underlying107 Try.zeroValue107 (ps := [(0, 1), (1, 1), (2, 1)]) ⟨rfl, Try.sizeOf105, rfl, Try.sizeOf3, rfl, Try.sizeOf3, trivial⟩ rfl) ?_
   refine l_buildSlice rfl rfl rfl rfl (run_build1 (us := [_, _, _]) Try.underlying149 Try.sizeOf107 rfl Try.zeroValue107 rfl rfl rfl) ?_
   intro b66
   refine ag_nil ?_
   refine l_append (sz := 3) (enc := enc3) (xs := (List.replicate j ((0 : Int), (0 : Int), (0 : Int)))) rfl rfl rfl rfl rfl Try.underlying149 Try.typeInfo107 rfl rfl rfl (by decide) Tk Tk (by first | rfl | omega | (simp; done) | (simp; omega)) (ys := [(0, 0, 0)]) (rds_some rdn_cells) (by rfl) (by first | rfl | omega) (enc3_len) (enc3_one) (by omega) (by show _ * 24 ≤ _; omega) ?_
   intro ao67 cp67
   refine ag_nil ?_
   refine q_nil_p rfl rfl rfl rfl ?_
   refine q_field (k := 5) rfl rfl rfl rfl Try.underlying151 rfl Try.sizeOf149 rfl ?_
   refine l_store (j := 5) rfl rfl rfl rfl Try.sizeOf149 (us := [_]) rfl rfl rfl Tk (by first | rfl | exact (Nat.add_zero _).symm) (by first | decide | (simp; done) | omega) ?_
   simp only [setL, List.set]
   refine ag_nil ?_
   refine r_done ?_
   refine s_keep [1, 5, 7] (e' := [(1, _), (5, _), (7, _)]) rfl ?_
   refine k_blk_n ?_
   refine k_then_n ?_
   refine c_plain (.q 0 (.q 1 (.q 2 (.done)))) (by kernel_rfl) ?_
   refine q_move rfl rfl rfl rfl ?_
   refine q_int rfl rfl rfl rfl rfl (b_add' _ (by exact fits_i64 (by omega) (by omega))) ?_
   refine q_assign rfl rfl rfl rfl ?_
   refine r_done ?_
   refine k_then_n ?_
   rw [← List.replicate_succ']
   refine loop_next (x := (j, aj, cj)) ((j + 1, ao67, cp67)) ?_ ?_ ?_ ?_
   · try dsimp only
     exact ⟨by omega, trivial⟩
   · show th.toNat - (j + 1) < th.toNat - j; omega
   · exact ⟨rfl, rfl, rfl, trivial⟩
   · (try simp only [List.cons_append, List.nil_append]); exact Tf
  ·
   refine c_exit ?_
   refine k_then_exit ?_
   refine k_then_exit ?_
   refine k_blk_here ?_
   refine k_then_n ?_
   refine c_seq ?_
   have hj0 : j = th.toNat := by omega
   obtain ⟨z0, hz0⟩ := get_lt (l := List.replicate j ((0 : Int), (0 : Int), (0 : Int))) (i := 0) (by simp; omega)
   obtain rfl : z0 = (0, 0, 0) := (List.mem_replicate.1 (List.mem_of_getElem? hz0)).2
   refine c_plain (.q 0 (.q 1 (.q 2 (.q 3 (.q 4 (.q 5 ((.l 6 [] (.done))))))))) (by kernel_rfl) ?_
   refine q_move rfl rfl rfl rfl ?_
   refine q_nil_p rfl rfl rfl rfl ?_
   refine q_field (k := 5) rfl rfl rfl rfl Try.underlying151 rfl Try.sizeOf149 rfl ?_
   refine q_load_c (j := 5) rfl rfl rfl rfl Try.isAgg149 Tk (by first | rfl | exact (Nat.add_zero _).symm) (by rfl) ?_
   refine q_idxO (sz := 2) (k := 0) (enc := enc3) (xs := (List.replicate j ((0 : Int), (0 : Int), (0 : Int)))) rfl rfl rfl rfl rfl Try.underlying149 Try.sizeOf107 hz0 (by first | rfl | omega) (by omega) Tk ?_
   intro ib74 io74 ha74 hl74 hc74
   refine q_field (k := 0) rfl rfl rfl rfl Try.underlying107 rfl Try.sizeOf105 rfl ?_
   refine l_store_O (j := 0) (k := 0) (q := (1, 0, 0)) (enc := enc3) (off := io74) rfl rfl rfl rfl Try.sizeOf105 (us := [_]) rfl rfl rfl ha74 enc3_len hz0 Tk (by first | rfl | exact (Nat.add_zero _).symm | omega) (by first | decide | exact Nat.le_of_ble_eq_true rfl) (by rfl) ?_
   refine ag_nil ?_
   refine r_done ?_
   refine s_keep [1, 5] (e' := [(1, _), (5, _)]) rfl ?_
   refine k_then_n ?_
   refine c_seq ?_
   refine c_seq ?_
   refine c_plain (.q 0 (.done)) (by kernel_rfl) ?_
   refine q_assign rfl rfl rfl rfl ?_
   refine r_done ?_
   refine k_then_n ?_
   refine c_block ?_
   refine s_heap (fun _ h => own_nil (sz := 1) (enc := encZ) h) ?_
   refine c_loop2 (α := Nat × Option Addr × Nat) (fun (x_ : Nat × Option Addr × Nat) => match x_ with | (m, am, cm) => m ≤ lk.toNat ∧ True) (fun (x_ : Nat × Option Addr × Nat) => match x_ with | (m, am, cm) => [(8, .int .i64 ((m : Nat) : Int))]) (fun (x_ : Nat × Option Addr × Nat) => match x_ with | (m, am, cm) => [cells b16 0 [.int .i64 th, .int .i64 va, .int .i64 vo, .int .i64 lk, .slice ai i ci, .slice aj j cj, .slice am m cm, .slice bi i di, .int .i64 0], own 1 encZ ai ci (pl.take i), own 3 enc3 aj cj ((List.replicate j ((0 : Int), (0 : Int), (0 : Int))).set 0 (1, 0, 0)), own 1 encZ am cm (List.replicate m (-1 : Int)), own 2 enc2 bi di (List.replicate i ((0 : Int), (0 : Int)))]) (fun (x_ : Nat × Option Addr × Nat) => match x_ with | (m, am, cm) => lk.toNat - m) [1, 5] (er := [(1, _), (5, _)]) rfl (0, none, 0) ?_ (by exact ⟨rfl, trivial⟩) (by (try dsimp only); (try simp only [Nat.add_zero, Nat.zero_add]); (repeat ((with_reducible apply Z2); focus (first | (with_reducible (repeat (first | exact Z0 | apply Z1)); done) | (repeat (first | exact Z0 | apply Z1))))); exact Z3) ?_
   · exact ⟨Nat.zero_le _, trivial⟩
   rintro ⟨m, am, cm⟩ ⟨hle_m, hz3⟩
   try simp only [List.cons_append, List.nil_append]
   refine c_seq ?_
   refine c_seq ?_
   refine c_plain (.q 0 (.q 1 (.q 2 (.q 3 (.done))))) (by kernel_rfl) ?_
   refine q_move rfl rfl rfl rfl ?_
   refine q_field (k := 3) rfl rfl rfl rfl Try.underlying25 rfl Try.sizeOf3 rfl ?_
   refine q_load_c (j := 3) rfl rfl rfl rfl Try.isAgg3 Tk (by first | rfl | exact (Nat.add_zero _).symm) (by rfl) ?_
   refine q_int rfl rfl rfl rfl rfl (b_lss _ _ _ _) ?_
   refine r_done ?_
   refine k_then_n ?_
   refine c_cond_p rfl (fun hlt3 => ?_) (fun hlt3 => ?_)
   ·
    refine c_skip ?_
    refine k_then_n ?_
    refine c_seq ?_
    refine c_block ?_
    refine c_plain (.q 0 (.q 1 (.q 2 (.q 3 (.q 4 ((.l 5 [] ((.l 6 [] (.q 7 (.q 8 ((.l 9 [] (.done)))))))))))))) (by kernel_rfl) ?_
    refine q_move rfl rfl rfl rfl ?_
    refine q_move rfl rfl rfl rfl ?_
    refine q_nil_p rfl rfl rfl rfl ?_
    refine q_field (k := 6) rfl rfl rfl rfl Try.underlying151 rfl Try.sizeOf23 rfl ?_
    refine q_load_c (j := 6) rfl rfl rfl rfl Try.isAgg23 Tk (by first | rfl | exact (Nat.add_zero _).symm) (by rfl) ?_
    refine l_buildSlice rfl rfl rfl rfl (run_build1 (us := [_]) Try.underlying23 Try.sizeOf3 rfl Try.zeroValue3 rfl rfl rfl) ?_
    intro b87
    refine ag_nil ?_
    refine l_append (sz := 1) (enc := encZ) (xs := (List.replicate m (-1 : Int))) rfl rfl rfl rfl rfl Try.underlying23 Try.typeInfo3 rfl rfl rfl (by decide) Tk Tk (by first | rfl | omega | (simp; done) | (simp; omega)) (ys := [(-1)]) (rds_some rdn_cells) (by rfl) (by first | rfl | omega) (encZ_len) (encZ_one) (by omega) (by show _ * 8 ≤ _; omega) ?_
    intro ao88 cp88
    refine ag_nil ?_
    refine q_nil_p rfl rfl rfl rfl ?_
    refine q_field (k := 6) rfl rfl rfl rfl Try.underlying151 rfl Try.sizeOf23 rfl ?_
    refine l_store (j := 6) rfl rfl rfl rfl Try.sizeOf23 (us := [_]) rfl rfl rfl Tk (by first | rfl | exact (Nat.add_zero _).symm) (by first | decide | (simp; done) | omega) ?_
    simp only [setL, List.set]
    refine ag_nil ?_
    refine r_done ?_
    refine s_keep [1, 5, 8] (e' := [(1, _), (5, _), (8, _)]) rfl ?_
    refine k_blk_n ?_
    refine k_then_n ?_
    refine c_plain (.q 0 (.q 1 (.q 2 (.done)))) (by kernel_rfl) ?_
    refine q_move rfl rfl rfl rfl ?_
    refine q_int rfl rfl rfl rfl rfl (b_add' _ (by exact fits_i64 (by omega) (by omega))) ?_
    refine q_assign rfl rfl rfl rfl ?_
    refine r_done ?_
    refine k_then_n ?_
    rw [← List.replicate_succ']
    refine loop_next (x := (m, am, cm)) ((m + 1, ao88, cp88)) ?_ ?_ ?_ ?_
    · try dsimp only
      exact ⟨by omega, trivial⟩
    · show lk.toNat - (m + 1) < lk.toNat - m; omega
    · exact ⟨rfl, rfl, rfl, trivial⟩
    · (try simp only [List.cons_append, List.nil_append]); exact Tf
   ·
    refine c_exit ?_
    refine k_then_exit ?_
    refine k_then_exit ?_
    refine k_blk_here ?_
    refine k_then_n ?_
    refine c_seq ?_
    refine c_plain (.q 0 (.q 1 (.q 2 (.done)))) (by kernel_rfl) ?_
    refine q_move rfl rfl rfl rfl ?_
    refine q_assign rfl rfl rfl rfl ?_
    refine q_assign rfl rfl rfl rfl ?_
    refine r_done ?_
    refine s_keep [2, 3] (e' := [(2, _), (3, _)]) rfl ?_
    refine k_then_n ?_
    refine c_ret ?_
    obtain rfl : i = n := by omega
    obtain rfl : j = th.toNat := hj0
    obtain rfl : m = lk.toNat := by omega
    subst hn
    rw [List.take_length]
    refine rk_fold (b := b16) (newF th va vo lk pl) (pa := ai) (pc := ci) (ta := aj) (tc := cj) (oa := am) (oc := cm) (ba := bi) (bc := di) Ts (by rfl) (by simp [newF]) (by simp [newF]) (by simp [newF]) ?_
    refine ret2 rfl rfl rfl ((b16, ai, ci)) (by first | rfl | (first | rfl | (congr 1; done) | (congr 1 <;> first | rfl | omega | (simp; done) | (simp; omega)))) (by trivial) ?_
    exact Tf
theorem rnewbad_spec (th va vo lk : Int) (pl : List Int) (ao : Option Addr) (n c : Nat) (A : HProp) (hr : RdS A ao (pl.flatMap encZ)) (hn : pl.length = n) (hb : n ≤ 4000000) (hok : ¬ OkS th va vo lk pl) : Spec Try.prog 31 [.agg #[.int .i64 th, .int .i64 va, .int .i64 vo, .int .i64 lk, .slice ao n c]] [A] (fun (_ : Unit) => .tuple #[.pointer none, .int .i64 5]) (fun _ => True) (fun _ => [A]) := by
 refine spec_mk (n := 92) Try.func31 rfl rfl rfl ?_
 intro Γ w0
 simp only [argE, List.cons_append, List.nil_append, Nat.zero_add, Nat.reduceAdd]
 refine c_seq ?_
 refine c_plain ((.l 0 [] (.q 1 (.q 2 (.done))))) (by kernel_rfl) ?_
 refine l_box rfl rfl rfl rfl (us := [_, _, _, _, _]) rfl ?_
 intro b1
 refine ag_nil ?_
 refine q_assign rfl rfl rfl rfl ?_
 refine q_assign rfl rfl rfl rfl ?_
 refine r_done ?_
 refine k_then_n ?_
 refine c_seq ?_
 refine c_plain (.q 0 ((.l 1 [] (.q 2 (.done))))) (by kernel_rfl) ?_
 refine q_loadN_c rfl rfl rfl rfl Try.isAgg25 Try.sizeOf25 Tk 0 (us := [_, _, _, _, _]) (by first | rfl | exact (Nat.add_zero _).symm) rfl rfl ?_
 have sp_1 := rshape_spec th va vo lk pl ao n c A (hr) (by first | rfl | assumption | omega | (simp; done) | (simp; omega)) (by omega)
 refine l_call rfl rfl rfl rfl rfl rfl Try.call75 (sp_1) Ts ?_
 rintro ⟨⟩ -
 try simp only [List.cons_append, List.nil_append]
 refine ag_nil ?_
 refine s_eq 10 rfl (v' := .int .i64 5) (by rw [if_neg hok]) ?_
 refine q_assign rfl rfl rfl rfl ?_
 refine r_done ?_
 refine s_keep [1, 4] (e' := [(1, _), (4, _)]) rfl ?_
 refine k_then_n ?_
 refine c_seq ?_
 refine c_seq ?_
 refine c_plain (.q 0 (.q 1 (.done))) (by kernel_rfl) ?_
 refine q_move rfl rfl rfl rfl ?_
 refine q_int rfl rfl rfl rfl rfl (b_neq _ _ _ _) ?_
 refine s_eq 12 rfl (v' := .bool true) (by first | rfl | simp) ?_
 refine r_done ?_
 refine k_then_n ?_
 refine c_cond_t rfl ?_
 refine c_seq ?_
 refine c_plain (.q 0 (.q 1 (.q 2 (.done)))) (by kernel_rfl) ?_
 refine q_move rfl rfl rfl rfl ?_
 refine q_assign rfl rfl rfl rfl ?_
 refine q_assign rfl rfl rfl rfl ?_
 refine r_done ?_
 refine s_keep [2, 3] (e' := [(2, _), (3, _)]) rfl ?_
 refine k_then_n ?_
 refine c_ret ?_
 refine k_then_ret ?_
 refine ret2 rfl rfl rfl (()) (by first | rfl | (first | rfl | (congr 1; done) | (congr 1 <;> first | rfl | omega | (simp; done) | (simp; omega)))) (by trivial) ?_
 exact Tf
end Go.Ab.Fe
set_option linter.unusedVariables false
set_option linter.unusedSimpArgs false
namespace Go.Ab.Fe
open Go Go.Proofs Go.Ab
def runE : CS → List T3 → List T3
  | _, [] => []
  | x, e :: es => if canT x e then e :: runE (nxT x e) es else runE x es
theorem nxT_no {x : CS} {e : T3} (h : ¬ canT x e) : nxT x e = x := if_neg h
theorem runE_app : ∀ (a b : List T3) (x : CS), runE x (a ++ b) = runE x a ++ runE (a.foldl nxT x) b
  | [], b, x => rfl
  | e :: a, b, x => by
    show (if canT x e then e :: runE (nxT x e) (a ++ b) else runE x (a ++ b)) = (if canT x e then e :: runE (nxT x e) a else runE x a) ++ runE (a.foldl nxT (nxT x e)) b
    by_cases h : canT x e
    · rw [if_pos h, if_pos h, runE_app a b]; rfl
    · rw [if_neg h, if_neg h, runE_app a b, nxT_no h]
theorem runE_next {x : CS} {es : List T3} {i : Nat} {e : T3} (h : es[i]? = some e) : runE x (es.take (i + 1)) = runE x (es.take i) ++ (if canT (sN x es i) e then [e] else []) := by
  rw [take_next h, runE_app]; rfl
theorem runE_yes {x : CS} {es : List T3} {i : Nat} {e : T3} (h : es[i]? = some e) (hc : canT (sN x es i) e) : runE x (es.take (i + 1)) = runE x (es.take i) ++ [e] := by
  rw [runE_next h, if_pos hc]
theorem runE_no {x : CS} {es : List T3} {i : Nat} {e : T3} (h : es[i]? = some e) (hc : ¬ canT (sN x es i) e) : runE x (es.take (i + 1)) = runE x (es.take i) := by
  rw [runE_next h, if_neg hc, List.append_nil]
theorem sN_skip {x : CS} {es : List T3} {i : Nat} {e : T3} (h : es[i]? = some e) (hc : ¬ canT (sN x es i) e) : sN x es (i + 1) = sN x es i := by
  rw [sN_next h]; exact if_neg hc
theorem runE_len : ∀ (es : List T3) (x : CS), (runE x es).length ≤ es.length
  | [], x => Nat.le_refl _
  | e :: es, x => by
    unfold runE
    split
    · have := runE_len es (nxT x e); simp only [List.length_cons]; omega
    · have := runE_len es x; simp only [List.length_cons]; omega
theorem runE_all : ∀ (es : List T3) (x : CS), allC x (runE x es) (runE x es).length
  | [], x => fun j e h => by simp [runE] at h
  | e :: es, x => by
    by_cases hc : canT x e
    · have hr : runE x (e :: es) = e :: runE (nxT x e) es := if_pos hc
      rw [hr]
      intro j q hj hq
      rcases j with _ | j
      · cases hq; exact hc
      · rw [sN_cons]; exact runE_all es (nxT x e) j q (by simpa using hj) (by simpa using hq)
    · have hr : runE x (e :: es) = runE x es := if_neg hc
      rw [hr]; exact runE_all es x
end Go.Ab.Fe
