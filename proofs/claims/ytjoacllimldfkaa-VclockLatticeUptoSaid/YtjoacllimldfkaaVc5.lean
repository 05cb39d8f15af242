/- Package vclock: the law Lattice. -/
import Derived.Test.YtjoacllimldfkaaVc4
set_option linter.unusedVariables false
set_option linter.unusedSimpArgs false
set_option maxRecDepth 100000
namespace Go.Ab.Vc
open Go Go.Proofs Go.Ab
theorem lattice_spec (xs : List Int) (xo : Option Addr) (xn xd : Nat) (ys : List Int) (yo : Option Addr) (yn yd : Nat) (zs : List Int) (zo : Option Addr) (zn zd : Nat) (A : HProp) (hxn : xs.length = xn) (hrx : RdS A xo (xs.flatMap encU)) (hx0 : ∀ x ∈ xs, 0 ≤ x) (hxb : xn ≤ 1048576) (hyn : ys.length = yn) (hry : RdS A yo (ys.flatMap encU)) (hy0 : ∀ x ∈ ys, 0 ≤ x) (hyb : yn ≤ 1048576) (hzn : zs.length = zn) (hrz : RdS A zo (zs.flatMap encU)) (hz0 : ∀ x ∈ zs, 0 ≤ x) (hzb : zn ≤ 1048576) : Spec Try.prog 4 [.slice xo xn xd, .slice yo yn yd, .slice zo zn zd] [A] (fun (_ : Unit) => .bool true) (fun _ => True) (fun _ => [A]) := by
  refine spec_mk (n := 323) Try.func4 rfl rfl rfl ?_
  intro Γ w0
  simp only [argE, List.cons_append, List.nil_append, Nat.zero_add, Nat.reduceAdd]
  refine c_seq ?_
  refine c_plain (.q 0 (.done)) (by kernel_rfl) ?_
  refine q_assign rfl rfl rfl rfl ?_
  refine r_done ?_
  refine k_then_n ?_
  refine c_seq ?_
  refine c_plain (.q 0 ((.l 1 [] (.q 2 ((.l 3 [] (.q 4 ((.l 5 [] (.q 6 (.q 7 (.q 8 (.done))))))))))))) (by kernel_rfl) ?_
  refine q_move rfl rfl rfl rfl ?_
  have sp_1 := fit_spec xs xo xn xd A hxn hrx hx0 (by omega)
  refine l_call rfl rfl rfl rfl rfl rfl Try.call9 (sp_1) (by (repeat ((with_reducible apply Takes.cons); focus (first | (with_reducible (repeat (first | exact Take.here | apply Take.there)); done) | (repeat (first | exact Take.here | apply Take.there))))); exact Takes.nil) ?_
  rintro ⟨ka, kc⟩ -
  have hkl := fit_len xs
  try simp only [List.cons_append, List.nil_append]
  refine ag_nil ?_
  refine q_move rfl rfl rfl rfl ?_
  have sp_2 := fit_spec ys yo yn yd A hyn hry hy0 (by omega)
  refine l_call rfl rfl rfl rfl rfl rfl Try.call9 (sp_2) (by (repeat ((with_reducible apply Takes.cons); focus (first | (with_reducible (repeat (first | exact Take.here | apply Take.there)); done) | (repeat (first | exact Take.here | apply Take.there))))); exact Takes.nil) ?_
  rintro ⟨la, lc⟩ -
  have hll := fit_len ys
  try simp only [List.cons_append, List.nil_append]
  refine ag_nil ?_
  refine q_move rfl rfl rfl rfl ?_
  have sp_3 := fit_spec zs zo zn zd A hzn hrz hz0 (by omega)
  refine l_call rfl rfl rfl rfl rfl rfl Try.call9 (sp_3) (by (repeat ((with_reducible apply Takes.cons); focus (first | (with_reducible (repeat (first | exact Take.here | apply Take.there)); done) | (repeat (first | exact Take.here | apply Take.there))))); exact Takes.nil) ?_
  rintro ⟨ma, mc⟩ -
  have hml := fit_len zs
  try simp only [List.cons_append, List.nil_append]
  refine ag_nil ?_
  refine q_assign rfl rfl rfl rfl ?_
  refine q_assign rfl rfl rfl rfl ?_
  refine q_assign rfl rfl rfl rfl ?_
  refine r_done ?_
  refine s_keep [7, 8, 9] (e' := [(7, _), (8, _), (9, _)]) rfl ?_
  refine k_then_n ?_
  refine c_seq ?_
  refine c_plain (.q 0 ((.l 1 [] (.q 2 (.q 3 (.q 4 (.q 5 (.q 6 (.done))))))))) (by kernel_rfl) ?_
  refine q_move rfl rfl rfl rfl ?_
  refine s_take (A := own 1 encU ka kc (fitL xs)) (by with_reducible (repeat (first | exact Take.here | apply Take.there))) ?_
  refine own_fc fun f_4a f_4b f_4c => ?_
  have sp_5 := made_spec (fitL xs) ka ((fitL xs).length) kc (own 1 encU ka kc (fitL xs)) (by first | rfl | assumption | omega | (simp; done) | (simp; omega)) (rds_own encU_len (fun h => (f_4b h).1) f_4c) (by omega) (by exact fit_rng _)
  refine l_call rfl rfl rfl rfl rfl rfl Try.call10 (sp_5) (by (repeat ((with_reducible apply Takes.cons); focus (first | (with_reducible (repeat (first | exact Take.here | apply Take.there)); done) | (repeat (first | exact Take.here | apply Take.there))))); exact Takes.nil) ?_
  rintro ⟨ab, aa, ac⟩ -
  obtain ⟨LA, hLA⟩ : ∃ L, L = tr (fitL xs) := ⟨_, rfl⟩
  rw [← hLA]
  have hLAv : CV LA := by rw [hLA]; exact fit_cv _
  have hLAl := hLAv.len
  have hLAg : ∀ i, LA.getD i 0 = (fitL xs).getD i 0 := fun i => by rw [hLA, tr_g]
  try simp only [List.cons_append, List.nil_append]
  refine ag_nil ?_
  refine q_move rfl rfl rfl rfl ?_
  refine q_extract rfl rfl rfl rfl rfl ?_
  refine q_extract rfl rfl rfl rfl rfl ?_
  refine q_assign rfl rfl rfl rfl ?_
  refine q_assign rfl rfl rfl rfl ?_
  refine r_done ?_
  refine s_keep [7, 8, 9, 10, 11] (e' := [(7, _), (8, _), (9, _), (10, _), (11, _)]) rfl ?_
  refine k_then_n ?_
  refine c_seq ?_
  refine c_plain (.q 0 ((.l 1 [] (.q 2 (.q 3 (.q 4 (.q 5 (.q 6 (.done))))))))) (by kernel_rfl) ?_
  refine q_move rfl rfl rfl rfl ?_
  refine s_take (A := own 1 encU la lc (fitL ys)) (by with_reducible (repeat (first | exact Take.here | apply Take.there))) ?_
  refine own_fc fun f_6a f_6b f_6c => ?_
  have sp_7 := made_spec (fitL ys) la ((fitL ys).length) lc (own 1 encU la lc (fitL ys)) (by first | rfl | assumption | omega | (simp; done) | (simp; omega)) (rds_own encU_len (fun h => (f_6b h).1) f_6c) (by omega) (by exact fit_rng _)
  refine l_call rfl rfl rfl rfl rfl rfl Try.call10 (sp_7) (by (repeat ((with_reducible apply Takes.cons); focus (first | (with_reducible (repeat (first | exact Take.here | apply Take.there)); done) | (repeat (first | exact Take.here | apply Take.there))))); exact Takes.nil) ?_
  rintro ⟨bb, ba, bc⟩ -
  obtain ⟨LB, hLB⟩ : ∃ L, L = tr (fitL ys) := ⟨_, rfl⟩
  rw [← hLB]
  have hLBv : CV LB := by rw [hLB]; exact fit_cv _
  have hLBl := hLBv.len
  have hLBg : ∀ i, LB.getD i 0 = (fitL ys).getD i 0 := fun i => by rw [hLB, tr_g]
  try simp only [List.cons_append, List.nil_append]
  refine ag_nil ?_
  refine q_move rfl rfl rfl rfl ?_
  refine q_extract rfl rfl rfl rfl rfl ?_
  refine q_extract rfl rfl rfl rfl rfl ?_
  refine q_assign rfl rfl rfl rfl ?_
  refine q_assign rfl rfl rfl rfl ?_
  refine r_done ?_
  refine s_keep [7, 8, 9, 10, 11, 12, 13] (e' := [(7, _), (8, _), (9, _), (10, _), (11, _), (12, _), (13, _)]) rfl ?_
  refine k_then_n ?_
  refine c_seq ?_
  refine c_plain (.q 0 ((.l 1 [] (.q 2 (.q 3 (.q 4 (.q 5 (.q 6 (.done))))))))) (by kernel_rfl) ?_
  refine q_move rfl rfl rfl rfl ?_
  refine s_take (A := own 1 encU ma mc (fitL zs)) (by with_reducible (repeat (first | exact Take.here | apply Take.there))) ?_
  refine own_fc fun f_8a f_8b f_8c => ?_
  have sp_9 := made_spec (fitL zs) ma ((fitL zs).length) mc (own 1 encU ma mc (fitL zs)) (by first | rfl | assumption | omega | (simp; done) | (simp; omega)) (rds_own encU_len (fun h => (f_8b h).1) f_8c) (by omega) (by exact fit_rng _)
  refine l_call rfl rfl rfl rfl rfl rfl Try.call10 (sp_9) (by (repeat ((with_reducible apply Takes.cons); focus (first | (with_reducible (repeat (first | exact Take.here | apply Take.there)); done) | (repeat (first | exact Take.here | apply Take.there))))); exact Takes.nil) ?_
  rintro ⟨cb, ca, cc⟩ -
  obtain ⟨LC, hLC⟩ : ∃ L, L = tr (fitL zs) := ⟨_, rfl⟩
  rw [← hLC]
  have hLCv : CV LC := by rw [hLC]; exact fit_cv _
  have hLCl := hLCv.len
  have hLCg : ∀ i, LC.getD i 0 = (fitL zs).getD i 0 := fun i => by rw [hLC, tr_g]
  try simp only [List.cons_append, List.nil_append]
  refine ag_nil ?_
  refine q_move rfl rfl rfl rfl ?_
  refine q_extract rfl rfl rfl rfl rfl ?_
  refine q_extract rfl rfl rfl rfl rfl ?_
  refine q_assign rfl rfl rfl rfl ?_
  refine q_assign rfl rfl rfl rfl ?_
  refine r_done ?_
  refine s_keep [7, 8, 9, 10, 11, 12, 13, 14, 15] (e' := [(7, _), (8, _), (9, _), (10, _), (11, _), (12, _), (13, _), (14, _), (15, _)]) rfl ?_
  refine k_then_n ?_
  refine c_seq ?_
  refine c_seq ?_
  refine c_plain (.q 0 (.q 1 (.q 2 (.q 3 (.q 4 (.q 5 (.q 6 (.q 7 (.q 8 (.q 9 (.q 10 ((.l 11 [] (.q 12 (.q 13 (.done)))))))))))))))) (by kernel_rfl) ?_
  refine q_move rfl rfl rfl rfl ?_
  refine q_not rfl rfl rfl rfl ?_
  refine s_eq 52 rfl (v' := .bool false) rfl ?_
  refine q_move rfl rfl rfl rfl ?_
  refine q_move rfl rfl rfl rfl ?_
  refine q_not rfl rfl rfl rfl ?_
  refine s_eq 55 rfl (v' := .bool false) rfl ?_
  refine q_pick_f rfl rfl rfl rfl rfl ?_
  refine q_move rfl rfl rfl rfl ?_
  refine q_move rfl rfl rfl rfl ?_
  refine q_not rfl rfl rfl rfl ?_
  refine s_eq 59 rfl (v' := .bool false) rfl ?_
  refine q_pick_f rfl rfl rfl rfl rfl ?_
  refine q_move rfl rfl rfl rfl ?_
  refine l_call rfl rfl rfl rfl rfl rfl Try.call8 (works_spec) (by (repeat ((with_reducible apply Takes.cons); focus (first | (with_reducible (repeat (first | exact Take.here | apply Take.there)); done) | (repeat (first | exact Take.here | apply Take.there))))); exact Takes.nil) ?_
  rintro ⟨⟩ -
  try simp only [List.cons_append, List.nil_append]
  refine ag_nil ?_
  refine q_not rfl rfl rfl rfl ?_
  refine s_eq 63 rfl (v' := .bool false) rfl ?_
  refine q_pick_f rfl rfl rfl rfl rfl ?_
  refine r_done ?_
  refine s_keep [7, 8, 9, 10, 12, 14, 64] (e' := [(7, _), (8, _), (9, _), (10, _), (12, _), (14, _), (64, _)]) rfl ?_
  refine k_then_n ?_
  refine c_cond_f rfl ?_
  refine c_skip ?_
  refine k_then_n ?_
  refine c_seq ?_
  have hM3 : ∀ x ∈ ([(ab, aa, ac, LA), (bb, ba, bc, LB), (cb, ca, cc, LC)] : List K), CV x.2.2.2 := by intro x hx; simp at hx; rcases hx with rfl | rfl | rfl; exact hLAv; exact hLBv; exact hLCv
  refine s_big_nil (f := kf) ?_
  refine s_heap (fun _ h => Bun.fold ((by (repeat ((with_reducible apply Takes.cons); focus (first | (with_reducible (repeat (first | exact Take.here | apply Take.there)); done) | (repeat (first | exact Take.here | apply Take.there))))); exact Takes.nil : Takes _ [cells ab 0 [.slice aa LA.length ac], own 1 encU aa ac LA] _) _ h)) ?_
  refine s_big_push (f := kf) (L := []) (x := (ab, aa, ac, LA)) (by (repeat ((with_reducible apply Takes.cons); focus (first | (with_reducible (repeat (first | exact Take.here | apply Take.there)); done) | (repeat (first | exact Take.here | apply Take.there))))); exact Takes.nil) ?_
  try simp only [List.nil_append, List.cons_append]
  refine s_heap (fun _ h => Bun.fold ((by (repeat ((with_reducible apply Takes.cons); focus (first | (with_reducible (repeat (first | exact Take.here | apply Take.there)); done) | (repeat (first | exact Take.here | apply Take.there))))); exact Takes.nil : Takes _ [cells bb 0 [.slice ba LB.length bc], own 1 encU ba bc LB] _) _ h)) ?_
  refine s_big_push (f := kf) (L := [(ab, aa, ac, LA)]) (x := (bb, ba, bc, LB)) (by (repeat ((with_reducible apply Takes.cons); focus (first | (with_reducible (repeat (first | exact Take.here | apply Take.there)); done) | (repeat (first | exact Take.here | apply Take.there))))); exact Takes.nil) ?_
  try simp only [List.nil_append, List.cons_append]
  refine s_heap (fun _ h => Bun.fold ((by (repeat ((with_reducible apply Takes.cons); focus (first | (with_reducible (repeat (first | exact Take.here | apply Take.there)); done) | (repeat (first | exact Take.here | apply Take.there))))); exact Takes.nil : Takes _ [cells cb 0 [.slice ca LC.length cc], own 1 encU ca cc LC] _) _ h)) ?_
  refine s_big_push (f := kf) (L := [(ab, aa, ac, LA), (bb, ba, bc, LB)]) (x := (cb, ca, cc, LC)) (by (repeat ((with_reducible apply Takes.cons); focus (first | (with_reducible (repeat (first | exact Take.here | apply Take.there)); done) | (repeat (first | exact Take.here | apply Take.there))))); exact Takes.nil) ?_
  try simp only [List.nil_append, List.cons_append]
  refine c_plain (.q 0 (.q 1 (.q 2 ((.l 3 [] ((.l 4 [] (.q 5 (.q 6 (.q 7 (.q 8 (.q 9 (.done))))))))))))) (by kernel_rfl) ?_
  refine q_move rfl rfl rfl rfl ?_
  refine q_move rfl rfl rfl rfl ?_
  refine q_move rfl rfl rfl rfl ?_
  refine l_buildSlice rfl rfl rfl rfl (vs := [_, _]) (run_buildSl Try.underlying73 Try.sizeOf25 Try.zeroValue25 rfl rfl rfl rfl) ?_
  intro b69
  refine ag_nil ?_
  have sp_10 := joined_spec ab aa ac LA [(ab, aa, ac, LA), (bb, ba, bc, LB), (cb, ca, cc, LC)] (by simp) hLAv [(bb, ba, bc, LB), (cb, ca, cc, LC)] (by simp) hM3 (some ⟨b69, 0, none⟩) 2 2 (cells b69 0 [.pointer (some ⟨bb, 0, none⟩), .pointer (some ⟨cb, 0, none⟩)]) (rds_some rdn_cells) rfl (by decide)
  refine l_call rfl rfl rfl rfl rfl rfl Try.call11 (sp_10) (by (repeat ((with_reducible apply Takes.cons); focus (first | (with_reducible (repeat (first | exact Take.here | apply Take.there)); done) | (repeat (first | exact Take.here | apply Take.there))))); exact Takes.nil) ?_
  rintro ⟨ub, ua, uc⟩ -
  try simp only [List.cons_append, List.nil_append]
  obtain ⟨LU, hLU⟩ : ∃ L, L = jnA LA [(bb, ba, bc, LB), (cb, ca, cc, LC)] := ⟨_, rfl⟩
  rw [← hLU]
  have hLUv : CV LU := by rw [hLU]; exact jnA_cv hLAv (fun x hx => hM3 x (by simp at hx ⊢; rcases hx with rfl | rfl <;> simp))
  have hLUl := hLUv.len
  have hLUg : ∀ i, LU.getD i 0 = max (max (LA.getD i 0) (LB.getD i 0)) (LC.getD i 0) := fun i => by rw [hLU]; simp only [jnA_cons, jnA_nil]; rw [jn_g (jn_cv hLAv hLBv) hLCv, jn_g hLAv hLBv]
  try simp only [List.cons_append, List.nil_append]
  refine ag_nil ?_
  refine q_move rfl rfl rfl rfl ?_
  refine q_extract rfl rfl rfl rfl rfl ?_
  refine q_extract rfl rfl rfl rfl rfl ?_
  refine q_assign rfl rfl rfl rfl ?_
  refine q_assign rfl rfl rfl rfl ?_
  refine r_done ?_
  refine s_keep [7, 8, 9, 10, 12, 14, 16, 17] (e' := [(7, _), (8, _), (9, _), (10, _), (12, _), (14, _), (16, _), (17, _)]) rfl ?_
  refine k_then_n ?_
  refine c_seq ?_
  refine c_plain (.q 0 (.q 1 (.q 2 (.q 3 (.q 4 ((.l 5 [] ((.l 6 [] (.q 7 (.q 8 (.q 9 (.q 10 (.q 11 (.done))))))))))))))) (by kernel_rfl) ?_
  refine q_move rfl rfl rfl rfl ?_
  refine q_move rfl rfl rfl rfl ?_
  refine q_move rfl rfl rfl rfl ?_
  refine q_move rfl rfl rfl rfl ?_
  refine q_move rfl rfl rfl rfl ?_
  refine l_buildSlice rfl rfl rfl rfl (vs := [_, _, _, _]) (run_buildSl Try.underlying73 Try.sizeOf25 Try.zeroValue25 rfl rfl rfl rfl) ?_
  intro b79
  refine ag_nil ?_
  have sp_11 := joined_spec cb ca cc LC [(ab, aa, ac, LA), (bb, ba, bc, LB), (cb, ca, cc, LC)] (by simp) hLCv [(bb, ba, bc, LB), (ab, aa, ac, LA), (bb, ba, bc, LB), (cb, ca, cc, LC)] (by simp) hM3 (some ⟨b79, 0, none⟩) 4 4 (cells b79 0 [.pointer (some ⟨bb, 0, none⟩), .pointer (some ⟨ab, 0, none⟩), .pointer (some ⟨bb, 0, none⟩), .pointer (some ⟨cb, 0, none⟩)]) (rds_some rdn_cells) rfl (by decide)
  refine l_call rfl rfl rfl rfl rfl rfl Try.call11 (sp_11) (by (repeat ((with_reducible apply Takes.cons); focus (first | (with_reducible (repeat (first | exact Take.here | apply Take.there)); done) | (repeat (first | exact Take.here | apply Take.there))))); exact Takes.nil) ?_
  rintro ⟨vb, va, vc⟩ -
  try simp only [List.cons_append, List.nil_append]
  obtain ⟨LV, hLV⟩ : ∃ L, L = jnA LC [(bb, ba, bc, LB), (ab, aa, ac, LA), (bb, ba, bc, LB), (cb, ca, cc, LC)] := ⟨_, rfl⟩
  rw [← hLV]
  have hLVv : CV LV := by rw [hLV]; exact jnA_cv hLCv (fun x hx => hM3 x (by simp at hx ⊢; rcases hx with rfl | rfl | rfl | rfl <;> simp))
  have hLVl := hLVv.len
  have hLVg : ∀ i, LV.getD i 0 = max (max (max (max (LC.getD i 0) (LB.getD i 0)) (LA.getD i 0)) (LB.getD i 0)) (LC.getD i 0) := fun i => by rw [hLV]; simp only [jnA_cons, jnA_nil]; rw [jn_g (jn_cv (jn_cv (jn_cv hLCv hLBv) hLAv) hLBv) hLCv, jn_g (jn_cv (jn_cv hLCv hLBv) hLAv) hLBv, jn_g (jn_cv hLCv hLBv) hLAv, jn_g hLCv hLBv]
  try simp only [List.cons_append, List.nil_append]
  refine ag_nil ?_
  refine q_move rfl rfl rfl rfl ?_
  refine q_extract rfl rfl rfl rfl rfl ?_
  refine q_extract rfl rfl rfl rfl rfl ?_
  refine q_assign rfl rfl rfl rfl ?_
  refine q_assign rfl rfl rfl rfl ?_
  refine r_done ?_
  refine s_keep [7, 8, 9, 10, 12, 14, 16, 17, 18, 19] (e' := [(7, _), (8, _), (9, _), (10, _), (12, _), (14, _), (16, _), (17, _), (18, _), (19, _)]) rfl ?_
  refine k_then_n ?_
  refine c_seq ?_
  refine c_plain (.q 0 (.q 1 (.q 2 ((.l 3 [] ((.l 4 [] (.q 5 (.q 6 (.q 7 (.q 8 (.q 9 (.done))))))))))))) (by kernel_rfl) ?_
  refine q_move rfl rfl rfl rfl ?_
  refine q_move rfl rfl rfl rfl ?_
  refine q_move rfl rfl rfl rfl ?_
  refine l_buildSlice rfl rfl rfl rfl (vs := [_, _]) (run_buildSl Try.underlying73 Try.sizeOf25 Try.zeroValue25 rfl rfl rfl rfl) ?_
  intro b87
  refine ag_nil ?_
  have sp_12 := met_spec ab aa ac LA [(ab, aa, ac, LA), (bb, ba, bc, LB), (cb, ca, cc, LC)] (by simp) hLAv [(bb, ba, bc, LB), (cb, ca, cc, LC)] (by simp) hM3 (some ⟨b87, 0, none⟩) 2 2 (cells b87 0 [.pointer (some ⟨bb, 0, none⟩), .pointer (some ⟨cb, 0, none⟩)]) (rds_some rdn_cells) rfl (by decide)
  refine l_call rfl rfl rfl rfl rfl rfl Try.call11 (sp_12) (by (repeat ((with_reducible apply Takes.cons); focus (first | (with_reducible (repeat (first | exact Take.here | apply Take.there)); done) | (repeat (first | exact Take.here | apply Take.there))))); exact Takes.nil) ?_
  rintro ⟨db, da, dc⟩ -
  try simp only [List.cons_append, List.nil_append]
  obtain ⟨LD, hLD⟩ : ∃ L, L = mtA LA [(bb, ba, bc, LB), (cb, ca, cc, LC)] := ⟨_, rfl⟩
  rw [← hLD]
  have hLDv : CV LD := by rw [hLD]; exact mtA_cv hLAv (fun x hx => hM3 x (by simp at hx ⊢; rcases hx with rfl | rfl <;> simp))
  have hLDl := hLDv.len
  have hLDg : ∀ i, LD.getD i 0 = min (min (LA.getD i 0) (LB.getD i 0)) (LC.getD i 0) := fun i => by rw [hLD]; simp only [mtA_cons, mtA_nil]; rw [mt_g (mt_cv hLAv hLBv) hLCv, mt_g hLAv hLBv]
  try simp only [List.cons_append, List.nil_append]
  refine ag_nil ?_
  refine q_move rfl rfl rfl rfl ?_
  refine q_extract rfl rfl rfl rfl rfl ?_
  refine q_extract rfl rfl rfl rfl rfl ?_
  refine q_assign rfl rfl rfl rfl ?_
  refine q_assign rfl rfl rfl rfl ?_
  refine r_done ?_
  refine s_keep [7, 8, 9, 10, 12, 14, 16, 17, 18, 19, 20, 21] (e' := [(7, _), (8, _), (9, _), (10, _), (12, _), (14, _), (16, _), (17, _), (18, _), (19, _), (20, _), (21, _)]) rfl ?_
  refine k_then_n ?_
  refine c_seq ?_
  refine c_plain (.q 0 (.q 1 (.q 2 (.q 3 (.q 4 ((.l 5 [] ((.l 6 [] (.q 7 (.q 8 (.q 9 (.q 10 (.q 11 (.done))))))))))))))) (by kernel_rfl) ?_
  refine q_move rfl rfl rfl rfl ?_
  refine q_move rfl rfl rfl rfl ?_
  refine q_move rfl rfl rfl rfl ?_
  refine q_move rfl rfl rfl rfl ?_
  refine q_move rfl rfl rfl rfl ?_
  refine l_buildSlice rfl rfl rfl rfl (vs := [_, _, _, _]) (run_buildSl Try.underlying73 Try.sizeOf25 Try.zeroValue25 rfl rfl rfl rfl) ?_
  intro b97
  refine ag_nil ?_
  have sp_13 := met_spec cb ca cc LC [(ab, aa, ac, LA), (bb, ba, bc, LB), (cb, ca, cc, LC)] (by simp) hLCv [(bb, ba, bc, LB), (ab, aa, ac, LA), (bb, ba, bc, LB), (cb, ca, cc, LC)] (by simp) hM3 (some ⟨b97, 0, none⟩) 4 4 (cells b97 0 [.pointer (some ⟨bb, 0, none⟩), .pointer (some ⟨ab, 0, none⟩), .pointer (some ⟨bb, 0, none⟩), .pointer (some ⟨cb, 0, none⟩)]) (rds_some rdn_cells) rfl (by decide)
  refine l_call rfl rfl rfl rfl rfl rfl Try.call11 (sp_13) (by (repeat ((with_reducible apply Takes.cons); focus (first | (with_reducible (repeat (first | exact Take.here | apply Take.there)); done) | (repeat (first | exact Take.here | apply Take.there))))); exact Takes.nil) ?_
  rintro ⟨ob, oa, oc⟩ -
  try simp only [List.cons_append, List.nil_append]
  obtain ⟨LO, hLO⟩ : ∃ L, L = mtA LC [(bb, ba, bc, LB), (ab, aa, ac, LA), (bb, ba, bc, LB), (cb, ca, cc, LC)] := ⟨_, rfl⟩
  rw [← hLO]
  have hLOv : CV LO := by rw [hLO]; exact mtA_cv hLCv (fun x hx => hM3 x (by simp at hx ⊢; rcases hx with rfl | rfl | rfl | rfl <;> simp))
  have hLOl := hLOv.len
  have hLOg : ∀ i, LO.getD i 0 = min (min (min (min (LC.getD i 0) (LB.getD i 0)) (LA.getD i 0)) (LB.getD i 0)) (LC.getD i 0) := fun i => by rw [hLO]; simp only [mtA_cons, mtA_nil]; rw [mt_g (mt_cv (mt_cv (mt_cv hLCv hLBv) hLAv) hLBv) hLCv, mt_g (mt_cv (mt_cv hLCv hLBv) hLAv) hLBv, mt_g (mt_cv hLCv hLBv) hLAv, mt_g hLCv hLBv]
  try simp only [List.cons_append, List.nil_append]
  refine ag_nil ?_
  refine q_move rfl rfl rfl rfl ?_
  refine q_extract rfl rfl rfl rfl rfl ?_
  refine q_extract rfl rfl rfl rfl rfl ?_
  refine q_assign rfl rfl rfl rfl ?_
  refine q_assign rfl rfl rfl rfl ?_
  refine r_done ?_
  refine s_big_take (f := kf) (L := [(ab, aa, ac, LA), (bb, ba, bc, LB), (cb, ca, cc, LC)]) (i := 0) (x := (ab, aa, ac, LA)) (by first | (with_reducible (repeat (first | exact Take.here | apply Take.there)); done) | (repeat (first | exact Take.here | apply Take.there))) rfl ?_
  refine s_bun ?_
  try simp only [List.cons_append, List.nil_append, List.eraseIdx_cons_zero]
  refine s_big_take (f := kf) (L := [(bb, ba, bc, LB), (cb, ca, cc, LC)]) (i := 0) (x := (bb, ba, bc, LB)) (by first | (with_reducible (repeat (first | exact Take.here | apply Take.there)); done) | (repeat (first | exact Take.here | apply Take.there))) rfl ?_
  refine s_bun ?_
  try simp only [List.cons_append, List.nil_append, List.eraseIdx_cons_zero]
  refine s_big_take (f := kf) (L := [(cb, ca, cc, LC)]) (i := 0) (x := (cb, ca, cc, LC)) (by first | (with_reducible (repeat (first | exact Take.here | apply Take.there)); done) | (repeat (first | exact Take.here | apply Take.there))) rfl ?_
  refine s_bun ?_
  try simp only [List.cons_append, List.nil_append, List.eraseIdx_cons_zero]
  refine s_keep [7, 8, 9, 10, 12, 14, 16, 17, 18, 19, 20, 21, 22, 23] (e' := [(7, _), (8, _), (9, _), (10, _), (12, _), (14, _), (16, _), (17, _), (18, _), (19, _), (20, _), (21, _), (22, _), (23, _)]) rfl ?_
  refine k_then_n ?_
  refine c_seq ?_
  refine c_seq ?_
  refine c_plain (.q 0 (.q 1 (.q 2 (.q 3 (.q 4 (.q 5 (.q 6 (.q 7 (.q 8 (.q 9 (.q 10 (.q 11 (.q 12 (.q 13 (.q 14 (.q 15 (.q 16 ((.l 17 [] (.q 18 (.q 19 (.q 20 (.q 21 (.q 22 ((.l 23 [] (.q 24 (.q 25 (.done))))))))))))))))))))))))))))) (by kernel_rfl) ?_
  refine q_move rfl rfl rfl rfl ?_
  refine q_not rfl rfl rfl rfl ?_
  refine s_eq 102 rfl (v' := .bool false) rfl ?_
  refine q_move rfl rfl rfl rfl ?_
  refine q_move rfl rfl rfl rfl ?_
  refine q_not rfl rfl rfl rfl ?_
  refine s_eq 105 rfl (v' := .bool false) rfl ?_
  refine q_pick_f rfl rfl rfl rfl rfl ?_
  refine q_move rfl rfl rfl rfl ?_
  refine q_move rfl rfl rfl rfl ?_
  refine q_not rfl rfl rfl rfl ?_
  refine s_eq 109 rfl (v' := .bool false) rfl ?_
  refine q_pick_f rfl rfl rfl rfl rfl ?_
  refine q_move rfl rfl rfl rfl ?_
  refine q_move rfl rfl rfl rfl ?_
  refine q_not rfl rfl rfl rfl ?_
  refine s_eq 113 rfl (v' := .bool false) rfl ?_
  refine q_pick_f rfl rfl rfl rfl rfl ?_
  refine q_move rfl rfl rfl rfl ?_
  refine q_move rfl rfl rfl rfl ?_
  refine q_move rfl rfl rfl rfl ?_
  have sp_14 := equal_spec ub vb LU LV ua va LU.length uc LV.length vc (by first | rfl | assumption | omega | (simp; done) | (simp; omega)) (by first | rfl | assumption | omega | (simp; done) | (simp; omega)) (by assumption) (by assumption)
  refine l_call rfl rfl rfl rfl rfl rfl Try.call12 (sp_14) (by (repeat ((with_reducible apply Takes.cons); focus (first | (with_reducible (repeat (first | exact Take.here | apply Take.there)); done) | (repeat (first | exact Take.here | apply Take.there))))); exact Takes.nil) ?_
  rintro ⟨⟩ -
  try simp only [List.cons_append, List.nil_append]
  refine ag_nil ?_
  refine q_not rfl rfl rfl rfl ?_
  refine q_pick_f rfl rfl rfl rfl rfl ?_
  refine q_move rfl rfl rfl rfl ?_
  refine s_bool_np 121 rfl (fun hg => by exfalso; exact hg (Tr_ext hLUv.tr hLVv.tr (fun i => by rw [hLUg, hLVg]; omega))) (fun hg => ?_)
  refine q_move rfl rfl rfl rfl ?_
  refine q_move rfl rfl rfl rfl ?_
  have sp_15 := equal_spec db ob LD LO da oa LD.length dc LO.length oc (by first | rfl | assumption | omega | (simp; done) | (simp; omega)) (by first | rfl | assumption | omega | (simp; done) | (simp; omega)) (by assumption) (by assumption)
  refine l_call rfl rfl rfl rfl rfl rfl Try.call12 (sp_15) (by (repeat ((with_reducible apply Takes.cons); focus (first | (with_reducible (repeat (first | exact Take.here | apply Take.there)); done) | (repeat (first | exact Take.here | apply Take.there))))); exact Takes.nil) ?_
  rintro ⟨⟩ -
  try simp only [List.cons_append, List.nil_append]
  refine ag_nil ?_
  refine q_not rfl rfl rfl rfl ?_
  refine q_pick_f rfl rfl rfl rfl rfl ?_
  refine r_done ?_
  refine s_keep [7, 8, 9, 10, 12, 14, 16, 20, 126] (e' := [(7, _), (8, _), (9, _), (10, _), (12, _), (14, _), (16, _), (20, _), (126, _)]) rfl ?_
  refine k_then_n ?_
  refine c_cond_np rfl (fun hg => by exfalso; exact hg (Tr_ext hLDv.tr hLOv.tr (fun i => by rw [hLDg, hLOg]; omega))) (fun hg => ?_)
  refine c_skip ?_
  refine k_then_n ?_
  refine c_seq ?_
  refine c_plain (.q 0 (.q 1 (.q 2 (.q 3 (.q 4 (.q 5 (.q 6 (.q 7 (.q 8 (.done)))))))))) (by kernel_rfl) ?_
  refine q_move rfl rfl rfl rfl ?_
  refine q_len rfl rfl rfl rfl Try.underlying23 ?_
  refine q_move rfl rfl rfl rfl ?_
  refine q_len rfl rfl rfl rfl Try.underlying23 ?_
  refine q_move rfl rfl rfl rfl ?_
  refine q_len rfl rfl rfl rfl Try.underlying23 ?_
  refine q_max rfl rfl rfl rfl rfl ?_
  refine q_max rfl rfl rfl rfl rfl ?_
  refine q_assign rfl rfl rfl rfl ?_
  refine r_done ?_
  refine s_keep [7, 8, 9, 10, 12, 14, 16, 20, 24] (e' := [(7, _), (8, _), (9, _), (10, _), (12, _), (14, _), (16, _), (20, _), (24, _)]) rfl ?_
  refine k_then_n ?_
  refine c_seq ?_
  obtain ⟨nn, hnn⟩ : ∃ q : Nat, q = max (fitL xs).length (max (fitL ys).length (fitL zs).length) := ⟨_, rfl⟩
  refine s_eq 24 rfl (v' := .int .i64 ((nn : Nat) : Int)) (by rw [hnn]; congr 1; omega) ?_
  refine c_plain (.q 0 (.done)) (by kernel_rfl) ?_
  refine q_assign rfl rfl rfl rfl ?_
  refine r_done ?_
  refine k_then_n ?_
  refine c_seq ?_
  refine c_seq ?_
  refine c_plain (.q 0 (.done)) (by kernel_rfl) ?_
  refine q_assign rfl rfl rfl rfl ?_
  refine r_done ?_
  refine k_then_n ?_
  refine c_block ?_
  refine c_loop2 (α := Nat × Bool) (fun (x_ : Nat × Bool) => match x_ with | (i, bw) => i ≤ nn ∧ (bw = true ↔ ∀ j, j < i → (fitL xs).getD j 0 ≤ (fitL ys).getD j 0)) (fun (x_ : Nat × Bool) => match x_ with | (i, bw) => [(25, .bool bw), (26, .int .i64 ((i : Nat) : Int))]) (fun (x_ : Nat × Bool) => match x_ with | (i, bw) => []) (fun (x_ : Nat × Bool) => match x_ with | (i, bw) => nn - i) [7, 8, 9, 10, 12, 14, 16, 20, 24] (er := [(7, _), (8, _), (9, _), (10, _), (12, _), (14, _), (16, _), (20, _), (24, _)]) rfl (0, true) ?_ (by exact ⟨rfl, rfl, trivial⟩) (by (try dsimp only); (try simp only [Nat.add_zero, Nat.zero_add]); (repeat ((with_reducible apply Takes.cons); focus (first | (with_reducible (repeat (first | exact Take.here | apply Take.there)); done) | (repeat (first | exact Take.here | apply Take.there))))); exact Takes.nil) ?_
  · exact ⟨Nat.zero_le _, ⟨fun _ j h => (by omega), fun _ => rfl⟩⟩
  rintro ⟨i, bw⟩ ⟨hle_i, hbw⟩
  try simp only [List.cons_append, List.nil_append]
  refine c_seq ?_
  refine c_seq ?_
  refine c_plain (.q 0 (.q 1 (.q 2 (.done)))) (by kernel_rfl) ?_
  refine q_move rfl rfl rfl rfl ?_
  refine q_move rfl rfl rfl rfl ?_
  refine q_int rfl rfl rfl rfl rfl (b_lss _ _ _ _) ?_
  refine r_done ?_
  refine k_then_n ?_
  refine c_cond_p rfl (fun hlt => ?_) (fun hlt => ?_)
  · skip
    refine c_skip ?_
    refine k_then_n ?_
    refine c_seq ?_
    refine c_block ?_
    refine c_seq ?_
    refine c_seq ?_
    refine c_plain (.q 0 (.q 1 ((.l 2 [] (.q 3 (.q 4 ((.l 5 [] (.q 6 (.q 7 ((.l 8 [] (.q 9 (.q 10 ((.l 11 [] (.q 12 (.q 13 (.q 14 (.q 15 (.q 16 (.q 17 ((.l 18 [] (.q 19 (.q 20 ((.l 21 [] (.q 22 (.q 23 ((.l 24 [] (.q 25 (.q 26 ((.l 27 [] (.q 28 (.q 29 (.q 30 (.q 31 (.done))))))))))))))))))))))))))))))))))))))))) (by kernel_rfl) ?_
    refine q_move rfl rfl rfl rfl ?_
    refine q_move rfl rfl rfl rfl ?_
    have sp_16 := get_spec ub LU ua LU.length uc (by first | rfl | assumption | omega | (simp; done) | (simp; omega)) i
    refine l_call rfl rfl rfl rfl rfl rfl Try.call13 (sp_16) (by (repeat ((with_reducible apply Takes.cons); focus (first | (with_reducible (repeat (first | exact Take.here | apply Take.there)); done) | (repeat (first | exact Take.here | apply Take.there))))); exact Takes.nil) ?_
    rintro ⟨⟩ -
    try simp only [List.cons_append, List.nil_append]
    refine ag_nil ?_
    refine q_move rfl rfl rfl rfl ?_
    refine q_move rfl rfl rfl rfl ?_
    refine s_take (A := own 1 encU ka kc (fitL xs)) (by with_reducible (repeat (first | exact Take.here | apply Take.there))) ?_
    refine own_fc fun f_17a f_17b f_17c => ?_
    have sp_18 := at_spec (fitL xs) ka ((fitL xs).length) kc (own 1 encU ka kc (fitL xs)) (by first | rfl | assumption | omega | (simp; done) | (simp; omega)) (rds_own encU_len (fun h => (f_17b h).1) f_17c) i
    refine l_call rfl rfl rfl rfl rfl rfl Try.call14 (sp_18) (by (repeat ((with_reducible apply Takes.cons); focus (first | (with_reducible (repeat (first | exact Take.here | apply Take.there)); done) | (repeat (first | exact Take.here | apply Take.there))))); exact Takes.nil) ?_
    rintro ⟨⟩ -
    try simp only [List.cons_append, List.nil_append]
    refine ag_nil ?_
    refine q_move rfl rfl rfl rfl ?_
    refine q_move rfl rfl rfl rfl ?_
    refine s_take (A := own 1 encU la lc (fitL ys)) (by with_reducible (repeat (first | exact Take.here | apply Take.there))) ?_
    refine own_fc fun f_19a f_19b f_19c => ?_
    have sp_20 := at_spec (fitL ys) la ((fitL ys).length) lc (own 1 encU la lc (fitL ys)) (by first | rfl | assumption | omega | (simp; done) | (simp; omega)) (rds_own encU_len (fun h => (f_19b h).1) f_19c) i
    refine l_call rfl rfl rfl rfl rfl rfl Try.call14 (sp_20) (by (repeat ((with_reducible apply Takes.cons); focus (first | (with_reducible (repeat (first | exact Take.here | apply Take.there)); done) | (repeat (first | exact Take.here | apply Take.there))))); exact Takes.nil) ?_
    rintro ⟨⟩ -
    try simp only [List.cons_append, List.nil_append]
    refine ag_nil ?_
    refine q_move rfl rfl rfl rfl ?_
    refine q_move rfl rfl rfl rfl ?_
    refine s_take (A := own 1 encU ma mc (fitL zs)) (by with_reducible (repeat (first | exact Take.here | apply Take.there))) ?_
    refine own_fc fun f_21a f_21b f_21c => ?_
    have sp_22 := at_spec (fitL zs) ma ((fitL zs).length) mc (own 1 encU ma mc (fitL zs)) (by first | rfl | assumption | omega | (simp; done) | (simp; omega)) (rds_own encU_len (fun h => (f_21b h).1) f_21c) i
    refine l_call rfl rfl rfl rfl rfl rfl Try.call14 (sp_22) (by (repeat ((with_reducible apply Takes.cons); focus (first | (with_reducible (repeat (first | exact Take.here | apply Take.there)); done) | (repeat (first | exact Take.here | apply Take.there))))); exact Takes.nil) ?_
    rintro ⟨⟩ -
    try simp only [List.cons_append, List.nil_append]
    refine ag_nil ?_
    refine q_max rfl rfl rfl rfl rfl ?_
    refine q_max rfl rfl rfl rfl rfl ?_
    refine q_int rfl rfl rfl rfl rfl (b_neq _ _ _ _) ?_
    refine q_move rfl rfl rfl rfl ?_
    refine s_bool_p 155 rfl (fun hg => by exfalso; exact hg (by rw [hLUg, ← hLAg, ← hLBg, ← hLCg]; omega)) (fun hg => ?_)
    refine q_move rfl rfl rfl rfl ?_
    refine q_move rfl rfl rfl rfl ?_
    have sp_23 := get_spec db LD da LD.length dc (by first | rfl | assumption | omega | (simp; done) | (simp; omega)) i
    refine l_call rfl rfl rfl rfl rfl rfl Try.call13 (sp_23) (by (repeat ((with_reducible apply Takes.cons); focus (first | (with_reducible (repeat (first | exact Take.here | apply Take.there)); done) | (repeat (first | exact Take.here | apply Take.there))))); exact Takes.nil) ?_
    rintro ⟨⟩ -
    try simp only [List.cons_append, List.nil_append]
    refine ag_nil ?_
    refine q_move rfl rfl rfl rfl ?_
    refine q_move rfl rfl rfl rfl ?_
    refine s_take (A := own 1 encU ka kc (fitL xs)) (by with_reducible (repeat (first | exact Take.here | apply Take.there))) ?_
    refine own_fc fun f_24a f_24b f_24c => ?_
    have sp_25 := at_spec (fitL xs) ka ((fitL xs).length) kc (own 1 encU ka kc (fitL xs)) (by first | rfl | assumption | omega | (simp; done) | (simp; omega)) (rds_own encU_len (fun h => (f_24b h).1) f_24c) i
    refine l_call rfl rfl rfl rfl rfl rfl Try.call14 (sp_25) (by (repeat ((with_reducible apply Takes.cons); focus (first | (with_reducible (repeat (first | exact Take.here | apply Take.there)); done) | (repeat (first | exact Take.here | apply Take.there))))); exact Takes.nil) ?_
    rintro ⟨⟩ -
    try simp only [List.cons_append, List.nil_append]
    refine ag_nil ?_
    refine q_move rfl rfl rfl rfl ?_
    refine q_move rfl rfl rfl rfl ?_
    refine s_take (A := own 1 encU la lc (fitL ys)) (by with_reducible (repeat (first | exact Take.here | apply Take.there))) ?_
    refine own_fc fun f_26a f_26b f_26c => ?_
    have sp_27 := at_spec (fitL ys) la ((fitL ys).length) lc (own 1 encU la lc (fitL ys)) (by first | rfl | assumption | omega | (simp; done) | (simp; omega)) (rds_own encU_len (fun h => (f_26b h).1) f_26c) i
    refine l_call rfl rfl rfl rfl rfl rfl Try.call14 (sp_27) (by (repeat ((with_reducible apply Takes.cons); focus (first | (with_reducible (repeat (first | exact Take.here | apply Take.there)); done) | (repeat (first | exact Take.here | apply Take.there))))); exact Takes.nil) ?_
    rintro ⟨⟩ -
    try simp only [List.cons_append, List.nil_append]
    refine ag_nil ?_
    refine q_move rfl rfl rfl rfl ?_
    refine q_move rfl rfl rfl rfl ?_
    refine s_take (A := own 1 encU ma mc (fitL zs)) (by with_reducible (repeat (first | exact Take.here | apply Take.there))) ?_
    refine own_fc fun f_28a f_28b f_28c => ?_
    have sp_29 := at_spec (fitL zs) ma ((fitL zs).length) mc (own 1 encU ma mc (fitL zs)) (by first | rfl | assumption | omega | (simp; done) | (simp; omega)) (rds_own encU_len (fun h => (f_28b h).1) f_28c) i
    refine l_call rfl rfl rfl rfl rfl rfl Try.call14 (sp_29) (by (repeat ((with_reducible apply Takes.cons); focus (first | (with_reducible (repeat (first | exact Take.here | apply Take.there)); done) | (repeat (first | exact Take.here | apply Take.there))))); exact Takes.nil) ?_
    rintro ⟨⟩ -
    try simp only [List.cons_append, List.nil_append]
    refine ag_nil ?_
    refine q_min rfl rfl rfl rfl rfl ?_
    refine q_min rfl rfl rfl rfl rfl ?_
    refine q_int rfl rfl rfl rfl rfl (b_neq _ _ _ _) ?_
    refine q_pick_f rfl rfl rfl rfl rfl ?_
    refine r_done ?_
    refine s_keep [7, 8, 9, 10, 12, 14, 16, 20, 24, 25, 26, 156, 157, 158, 159, 160, 161, 162, 163, 164, 165, 166, 167, 168, 169, 170, 171] (e' := [(7, _), (8, _), (9, _), (10, _), (12, _), (14, _), (16, _), (20, _), (24, _), (25, _), (26, _), (156, _), (157, _), (158, _), (159, _), (160, _), (161, _), (162, _), (163, _), (164, _), (165, _), (166, _), (167, _), (168, _), (169, _), (170, _), (171, _)]) rfl ?_
    refine k_then_n ?_
    refine c_cond_p rfl (fun hg => by exfalso; exact hg (by rw [hLDg, ← hLAg, ← hLBg, ← hLCg]; omega)) (fun hg => ?_)
    refine c_skip ?_
    refine k_then_n ?_
    refine c_plain (.q 0 (.q 1 (.q 2 (.q 3 ((.l 4 [] (.q 5 (.q 6 ((.l 7 [] (.q 8 (.q 9 (.q 10 (.done)))))))))))))) (by kernel_rfl) ?_
    refine q_move rfl rfl rfl rfl ?_
    refine q_move rfl rfl rfl rfl ?_
    refine s_bool 173 rfl (fun hb1 => ?_) (fun hb1 => ?_)
    · skip
      try simp only [Bool.and_eq_true, Bool.or_eq_true, Bool.not_eq_true', Bool.not_eq_false', Bool.and_eq_false_iff, Bool.or_eq_false_iff, decide_eq_true_eq, decide_eq_false_iff_not] at hb1
      refine q_move rfl rfl rfl rfl ?_
      refine q_move rfl rfl rfl rfl ?_
      refine s_take (A := own 1 encU ka kc (fitL xs)) (by with_reducible (repeat (first | exact Take.here | apply Take.there))) ?_
      refine own_fc fun f_30a f_30b f_30c => ?_
      have sp_31 := at_spec (fitL xs) ka ((fitL xs).length) kc (own 1 encU ka kc (fitL xs)) (by first | rfl | assumption | omega | (simp; done) | (simp; omega)) (rds_own encU_len (fun h => (f_30b h).1) f_30c) i
      refine l_call rfl rfl rfl rfl rfl rfl Try.call14 (sp_31) (by (repeat ((with_reducible apply Takes.cons); focus (first | (with_reducible (repeat (first | exact Take.here | apply Take.there)); done) | (repeat (first | exact Take.here | apply Take.there))))); exact Takes.nil) ?_
      rintro ⟨⟩ -
      try simp only [List.cons_append, List.nil_append]
      refine ag_nil ?_
      refine q_move rfl rfl rfl rfl ?_
      refine q_move rfl rfl rfl rfl ?_
      refine s_take (A := own 1 encU la lc (fitL ys)) (by with_reducible (repeat (first | exact Take.here | apply Take.there))) ?_
      refine own_fc fun f_32a f_32b f_32c => ?_
      have sp_33 := at_spec (fitL ys) la ((fitL ys).length) lc (own 1 encU la lc (fitL ys)) (by first | rfl | assumption | omega | (simp; done) | (simp; omega)) (rds_own encU_len (fun h => (f_32b h).1) f_32c) i
      refine l_call rfl rfl rfl rfl rfl rfl Try.call14 (sp_33) (by (repeat ((with_reducible apply Takes.cons); focus (first | (with_reducible (repeat (first | exact Take.here | apply Take.there)); done) | (repeat (first | exact Take.here | apply Take.there))))); exact Takes.nil) ?_
      rintro ⟨⟩ -
      try simp only [List.cons_append, List.nil_append]
      refine ag_nil ?_
      refine q_int rfl rfl rfl rfl rfl (b_leq _ _ _ _) ?_
      refine q_pick_t rfl rfl rfl rfl rfl ?_
      refine q_assign rfl rfl rfl rfl ?_
      refine r_done ?_
      refine s_keep [7, 8, 9, 10, 12, 14, 16, 20, 24, 25, 26, 156, 157, 158, 159, 160, 161, 162, 163, 164, 165, 166, 167, 168, 169, 170, 174, 175, 176, 177, 178, 179, 180] (e' := [(7, _), (8, _), (9, _), (10, _), (12, _), (14, _), (16, _), (20, _), (24, _), (25, _), (26, _), (156, _), (157, _), (158, _), (159, _), (160, _), (161, _), (162, _), (163, _), (164, _), (165, _), (166, _), (167, _), (168, _), (169, _), (170, _), (174, _), (175, _), (176, _), (177, _), (178, _), (179, _), (180, _)]) rfl ?_
      refine k_blk_n ?_
      refine k_then_n ?_
      refine c_plain (.q 0 (.q 1 (.q 2 (.done)))) (by kernel_rfl) ?_
      refine q_move rfl rfl rfl rfl ?_
      refine q_int rfl rfl rfl rfl rfl (b_add' _ (by (first | exact fits_i64 (by omega) (by omega) | exact fits_u64 (by omega) (by omega) | exact fits_u32 (by omega) (by omega) | exact fits_u8 (by omega) (by omega)))) ?_
      refine q_assign rfl rfl rfl rfl ?_
      refine r_done ?_
      refine k_then_n ?_
      refine loop_next (x := (i, bw)) ((i + 1, decide ((fitL xs).getD i 0 ≤ (fitL ys).getD i 0))) ?_ ?_ ?_ ?_
      · try dsimp only
        exact ⟨by omega, by
            rw [decide_eq_true_eq]
            refine ⟨fun h j hj => ?_, fun h => h i (by omega)⟩
            by_cases hji : j = i
            · subst hji; exact h
            · exact hbw.1 hb1 j (by omega)⟩
      · show nn - (i + 1) < nn - i; omega
      · exact ⟨rfl, rfl, rfl, rfl, rfl, rfl, rfl, rfl, rfl, rfl, rfl, trivial⟩
      · (try simp only [List.cons_append, List.nil_append]); (repeat ((with_reducible apply Takes.cons); focus (first | (with_reducible (repeat (first | exact Take.here | apply Take.there)); done) | (repeat (first | exact Take.here | apply Take.there))))); (repeat (first | exact Takes.nil | exact Takes.self | refine takes_drop2 ?_))
    · skip
      try simp only [Bool.and_eq_true, Bool.or_eq_true, Bool.not_eq_true', Bool.not_eq_false', Bool.and_eq_false_iff, Bool.or_eq_false_iff, decide_eq_true_eq, decide_eq_false_iff_not] at hb1
      refine q_skip rfl rfl rfl rfl ?_
      refine q_skip rfl rfl rfl rfl ?_
      refine l_skip rfl rfl rfl rfl ?_
      refine q_skip rfl rfl rfl rfl ?_
      refine q_skip rfl rfl rfl rfl ?_
      refine l_skip rfl rfl rfl rfl ?_
      refine q_skip rfl rfl rfl rfl ?_
      refine q_pick_f rfl rfl rfl rfl rfl ?_
      refine q_assign rfl rfl rfl rfl ?_
      refine r_done ?_
      refine s_keep [7, 8, 9, 10, 12, 14, 16, 20, 24, 25, 26, 156, 157, 158, 159, 160, 161, 162, 163, 164, 165, 166, 167, 168, 169, 170, 174, 175, 176, 177, 178, 179, 180] (e' := [(7, _), (8, _), (9, _), (10, _), (12, _), (14, _), (16, _), (20, _), (24, _), (25, _), (26, _), (156, _), (157, _), (158, _), (159, _), (160, _), (161, _), (162, _), (163, _), (164, _), (165, _), (166, _), (167, _), (168, _), (169, _), (170, _), (174, _), (175, _), (176, _), (177, _), (178, _), (179, _), (180, _)]) rfl ?_
      refine k_blk_n ?_
      refine k_then_n ?_
      refine c_plain (.q 0 (.q 1 (.q 2 (.done)))) (by kernel_rfl) ?_
      refine q_move rfl rfl rfl rfl ?_
      refine q_int rfl rfl rfl rfl rfl (b_add' _ (by (first | exact fits_i64 (by omega) (by omega) | exact fits_u64 (by omega) (by omega) | exact fits_u32 (by omega) (by omega) | exact fits_u8 (by omega) (by omega)))) ?_
      refine q_assign rfl rfl rfl rfl ?_
      refine r_done ?_
      refine k_then_n ?_
      refine loop_next (x := (i, bw)) ((i + 1, false)) ?_ ?_ ?_ ?_
      · try dsimp only
        exact ⟨by omega, ⟨fun h => (by cases h), fun h => absurd (hbw.2 fun j hj => h j (by omega)) (by rw [hb1]; decide)⟩⟩
      · show nn - (i + 1) < nn - i; omega
      · exact ⟨rfl, rfl, rfl, rfl, rfl, rfl, rfl, rfl, rfl, rfl, rfl, trivial⟩
      · (try simp only [List.cons_append, List.nil_append]); (repeat ((with_reducible apply Takes.cons); focus (first | (with_reducible (repeat (first | exact Take.here | apply Take.there)); done) | (repeat (first | exact Take.here | apply Take.there))))); (repeat (first | exact Takes.nil | exact Takes.self | refine takes_drop2 ?_))
  · skip
    refine c_exit ?_
    refine k_then_exit ?_
    refine k_then_exit ?_
    refine k_blk_here ?_
    refine k_then_n ?_
    refine c_seq ?_
    refine c_seq ?_
    obtain rfl : nn = i := by omega
    have hz_ : ∀ j, nn ≤ j → LA.getD j 0 = 0 ∧ LB.getD j 0 = 0 ∧ LC.getD j 0 = 0 := fun j hj => ⟨by rw [hLAg, g_out (by omega)], by rw [hLBg, g_out (by omega)], by rw [hLCg, g_out (by omega)]⟩
    have hlb : decide (LeqL LA LB) = bw := by
      rw [Bool.eq_iff_iff, decide_eq_true_eq, hbw, leq_iff hLAv hLBv]
      refine ⟨fun h j _ => by rw [← hLAg, ← hLBg]; exact h j, fun h j => ?_⟩
      by_cases hj : j < nn
      · rw [hLAg, hLBg]; exact h j hj
      · have := hz_ j (by omega); omega
    have hAU : LeqL LA LU := (leq_iff hLAv hLUv).2 fun i => by rw [hLUg]; omega
    have hBU : LeqL LB LU := (leq_iff hLBv hLUv).2 fun i => by rw [hLUg]; omega
    have hCU : LeqL LC LU := (leq_iff hLCv hLUv).2 fun i => by rw [hLUg]; omega
    have hDA : LeqL LD LA := (leq_iff hLDv hLAv).2 fun i => by rw [hLDg]; omega
    have hDB : LeqL LD LB := (leq_iff hLDv hLBv).2 fun i => by rw [hLDg]; omega
    have hDC : LeqL LD LC := (leq_iff hLDv hLCv).2 fun i => by rw [hLDg]; omega
    have heq : LeqL LA LB → (LA = LB ↔ LeqL LB LA) := fun h => ⟨fun e => e ▸ leq_refl _, fun h2 => leq_anti hLAv hLBv h h2⟩
    have hne : ¬ LeqL LA LB → LA ≠ LB := fun h e => h (e ▸ leq_refl _)
    have htrans : LeqL LA LB → LeqL LB LC → LeqL LA LC := fun h1 h2 => (leq_iff hLAv hLCv).2 fun i => Int.le_trans ((leq_iff hLAv hLBv).1 h1 i) ((leq_iff hLBv hLCv).1 h2 i)
    refine c_plain (.q 0 (.q 1 ((.l 2 [] (.q 3 (.q 4 (.q 5 (.q 6 (.q 7 ((.l 8 [] (.q 9 (.q 10 (.q 11 (.q 12 (.q 13 ((.l 14 [] (.q 15 (.q 16 (.q 17 (.q 18 (.q 19 ((.l 20 [] (.q 21 (.q 22 (.q 23 (.q 24 (.q 25 ((.l 26 [] (.q 27 (.q 28 (.q 29 (.q 30 (.q 31 ((.l 32 [] (.q 33 (.q 34 (.q 35 (.q 36 (.q 37 ((.l 38 [] (.q 39 (.q 40 (.q 41 (.q 42 (.q 43 ((.l 44 [] (.q 45 (.q 46 (.done)))))))))))))))))))))))))))))))))))))))))))))))))))))))) (by kernel_rfl) ?_
    refine q_move rfl rfl rfl rfl ?_
    refine q_move rfl rfl rfl rfl ?_
    have sp_34 := leq_spec ab bb LA LB aa ba LA.length ac LB.length bc (by first | rfl | assumption | omega | (simp; done) | (simp; omega)) (by first | rfl | assumption | omega | (simp; done) | (simp; omega)) (by assumption) (by assumption)
    refine l_call rfl rfl rfl rfl rfl rfl Try.call15 (sp_34) (by (repeat ((with_reducible apply Takes.cons); focus (first | (with_reducible (repeat (first | exact Take.here | apply Take.there)); done) | (repeat (first | exact Take.here | apply Take.there))))); exact Takes.nil) ?_
    rintro ⟨⟩ -
    try simp only [List.cons_append, List.nil_append]
    refine ag_nil ?_
    refine q_move rfl rfl rfl rfl ?_
    refine q_neb rfl rfl rfl rfl rfl Try.underlying4 ?_
    refine q_move rfl rfl rfl rfl ?_
    refine s_bool 187 rfl (fun hg => by exfalso; simp [hlb] at hg) (fun hg => ?_)
    try simp only [Bool.and_eq_true, Bool.or_eq_true, Bool.not_eq_true', Bool.not_eq_false', Bool.and_eq_false_iff, Bool.or_eq_false_iff, decide_eq_true_eq, decide_eq_false_iff_not] at hg
    refine q_move rfl rfl rfl rfl ?_
    refine q_move rfl rfl rfl rfl ?_
    have sp_35 := get_spec ub LU ua LU.length uc (by first | rfl | assumption | omega | (simp; done) | (simp; omega)) nn
    refine l_call rfl rfl rfl rfl rfl rfl Try.call13 (sp_35) (by (repeat ((with_reducible apply Takes.cons); focus (first | (with_reducible (repeat (first | exact Take.here | apply Take.there)); done) | (repeat (first | exact Take.here | apply Take.there))))); exact Takes.nil) ?_
    rintro ⟨⟩ -
    try simp only [List.cons_append, List.nil_append]
    refine ag_nil ?_
    refine q_int rfl rfl rfl rfl rfl (b_neq _ _ _ _) ?_
    refine q_pick_f rfl rfl rfl rfl rfl ?_
    refine q_move rfl rfl rfl rfl ?_
    refine s_bool_p 193 rfl (fun hg => by exfalso; exact hg (by have := hz_ nn (Nat.le_refl _); rw [hLUg]; omega)) (fun hg => ?_)
    refine q_move rfl rfl rfl rfl ?_
    refine q_move rfl rfl rfl rfl ?_
    have sp_36 := leq_spec ab ub LA LU aa ua LA.length ac LU.length uc (by first | rfl | assumption | omega | (simp; done) | (simp; omega)) (by first | rfl | assumption | omega | (simp; done) | (simp; omega)) (by assumption) (by assumption)
    refine l_call rfl rfl rfl rfl rfl rfl Try.call15 (sp_36) (by (repeat ((with_reducible apply Takes.cons); focus (first | (with_reducible (repeat (first | exact Take.here | apply Take.there)); done) | (repeat (first | exact Take.here | apply Take.there))))); exact Takes.nil) ?_
    rintro ⟨⟩ -
    try simp only [List.cons_append, List.nil_append]
    refine ag_nil ?_
    refine q_not rfl rfl rfl rfl ?_
    refine q_pick_f rfl rfl rfl rfl rfl ?_
    refine q_move rfl rfl rfl rfl ?_
    refine s_bool_np 199 rfl (fun hg => by exfalso; exact hg hAU) (fun hg => ?_)
    refine q_move rfl rfl rfl rfl ?_
    refine q_move rfl rfl rfl rfl ?_
    have sp_37 := leq_spec bb ub LB LU ba ua LB.length bc LU.length uc (by first | rfl | assumption | omega | (simp; done) | (simp; omega)) (by first | rfl | assumption | omega | (simp; done) | (simp; omega)) (by assumption) (by assumption)
    refine l_call rfl rfl rfl rfl rfl rfl Try.call15 (sp_37) (by (repeat ((with_reducible apply Takes.cons); focus (first | (with_reducible (repeat (first | exact Take.here | apply Take.there)); done) | (repeat (first | exact Take.here | apply Take.there))))); exact Takes.nil) ?_
    rintro ⟨⟩ -
    try simp only [List.cons_append, List.nil_append]
    refine ag_nil ?_
    refine q_not rfl rfl rfl rfl ?_
    refine q_pick_f rfl rfl rfl rfl rfl ?_
    refine q_move rfl rfl rfl rfl ?_
    refine s_bool_np 205 rfl (fun hg => by exfalso; exact hg hBU) (fun hg => ?_)
    refine q_move rfl rfl rfl rfl ?_
    refine q_move rfl rfl rfl rfl ?_
    have sp_38 := leq_spec cb ub LC LU ca ua LC.length cc LU.length uc (by first | rfl | assumption | omega | (simp; done) | (simp; omega)) (by first | rfl | assumption | omega | (simp; done) | (simp; omega)) (by assumption) (by assumption)
    refine l_call rfl rfl rfl rfl rfl rfl Try.call15 (sp_38) (by (repeat ((with_reducible apply Takes.cons); focus (first | (with_reducible (repeat (first | exact Take.here | apply Take.there)); done) | (repeat (first | exact Take.here | apply Take.there))))); exact Takes.nil) ?_
    rintro ⟨⟩ -
    try simp only [List.cons_append, List.nil_append]
    refine ag_nil ?_
    refine q_not rfl rfl rfl rfl ?_
    refine q_pick_f rfl rfl rfl rfl rfl ?_
    refine q_move rfl rfl rfl rfl ?_
    refine s_bool_np 211 rfl (fun hg => by exfalso; exact hg hCU) (fun hg => ?_)
    refine q_move rfl rfl rfl rfl ?_
    refine q_move rfl rfl rfl rfl ?_
    have sp_39 := leq_spec db ab LD LA da aa LD.length dc LA.length ac (by first | rfl | assumption | omega | (simp; done) | (simp; omega)) (by first | rfl | assumption | omega | (simp; done) | (simp; omega)) (by assumption) (by assumption)
    refine l_call rfl rfl rfl rfl rfl rfl Try.call15 (sp_39) (by (repeat ((with_reducible apply Takes.cons); focus (first | (with_reducible (repeat (first | exact Take.here | apply Take.there)); done) | (repeat (first | exact Take.here | apply Take.there))))); exact Takes.nil) ?_
    rintro ⟨⟩ -
    try simp only [List.cons_append, List.nil_append]
    refine ag_nil ?_
    refine q_not rfl rfl rfl rfl ?_
    refine q_pick_f rfl rfl rfl rfl rfl ?_
    refine q_move rfl rfl rfl rfl ?_
    refine s_bool_np 217 rfl (fun hg => by exfalso; exact hg hDA) (fun hg => ?_)
    refine q_move rfl rfl rfl rfl ?_
    refine q_move rfl rfl rfl rfl ?_
    have sp_40 := leq_spec db bb LD LB da ba LD.length dc LB.length bc (by first | rfl | assumption | omega | (simp; done) | (simp; omega)) (by first | rfl | assumption | omega | (simp; done) | (simp; omega)) (by assumption) (by assumption)
    refine l_call rfl rfl rfl rfl rfl rfl Try.call15 (sp_40) (by (repeat ((with_reducible apply Takes.cons); focus (first | (with_reducible (repeat (first | exact Take.here | apply Take.there)); done) | (repeat (first | exact Take.here | apply Take.there))))); exact Takes.nil) ?_
    rintro ⟨⟩ -
    try simp only [List.cons_append, List.nil_append]
    refine ag_nil ?_
    refine q_not rfl rfl rfl rfl ?_
    refine q_pick_f rfl rfl rfl rfl rfl ?_
    refine q_move rfl rfl rfl rfl ?_
    refine s_bool_np 223 rfl (fun hg => by exfalso; exact hg hDB) (fun hg => ?_)
    refine q_move rfl rfl rfl rfl ?_
    refine q_move rfl rfl rfl rfl ?_
    have sp_41 := leq_spec db cb LD LC da ca LD.length dc LC.length cc (by first | rfl | assumption | omega | (simp; done) | (simp; omega)) (by first | rfl | assumption | omega | (simp; done) | (simp; omega)) (by assumption) (by assumption)
    refine l_call rfl rfl rfl rfl rfl rfl Try.call15 (sp_41) (by (repeat ((with_reducible apply Takes.cons); focus (first | (with_reducible (repeat (first | exact Take.here | apply Take.there)); done) | (repeat (first | exact Take.here | apply Take.there))))); exact Takes.nil) ?_
    rintro ⟨⟩ -
    try simp only [List.cons_append, List.nil_append]
    refine ag_nil ?_
    refine q_not rfl rfl rfl rfl ?_
    refine q_pick_f rfl rfl rfl rfl rfl ?_
    refine r_done ?_
    refine s_keep [7, 10, 12, 14, 228] (e' := [(7, _), (10, _), (12, _), (14, _), (228, _)]) rfl ?_
    refine k_then_n ?_
    refine c_cond_np rfl (fun hg => by exfalso; exact hg hDC) (fun hg => ?_)
    refine c_skip ?_
    refine k_then_n ?_
    refine c_seq ?_
    refine c_seqJ (α := Unit) (fun (z_ : Unit) => True) (fun (z_ : Unit) => [(262, .bool false)]) (fun (z_ : Unit) => []) [7, 10, 12, 14] (er := [(7, _), (10, _), (12, _), (14, _)]) rfl [] (by (repeat ((with_reducible apply Takes.cons); focus (first | (with_reducible (repeat (first | exact Take.here | apply Take.there)); done) | (repeat (first | exact Take.here | apply Take.there))))); exact Takes.nil) ?_ ?_
    · skip
      refine c_plain (.q 0 (.q 1 ((.l 2 [] (.q 3 (.q 4 ((.l 5 [] (.q 6 (.q 7 (.q 8 ((.l 9 [] (.q 10 (.q 11 (.q 12 (.q 13 (.q 14 ((.l 15 [] (.q 16 (.q 17 (.q 18 ((.l 19 [] (.q 20 (.q 21 (.q 22 (.q 23 ((.l 24 [] (.q 25 (.q 26 (.q 27 (.q 28 (.q 29 (.q 30 ((.l 31 [] (.q 32 (.q 33 (.done)))))))))))))))))))))))))))))))))))))))))) (by kernel_rfl) ?_
      refine q_move rfl rfl rfl rfl ?_
      refine q_move rfl rfl rfl rfl ?_
      have sp_42 := equal_spec ab bb LA LB aa ba LA.length ac LB.length bc (by first | rfl | assumption | omega | (simp; done) | (simp; omega)) (by first | rfl | assumption | omega | (simp; done) | (simp; omega)) (by assumption) (by assumption)
      refine l_call rfl rfl rfl rfl rfl rfl Try.call12 (sp_42) (by (repeat ((with_reducible apply Takes.cons); focus (first | (with_reducible (repeat (first | exact Take.here | apply Take.there)); done) | (repeat (first | exact Take.here | apply Take.there))))); exact Takes.nil) ?_
      rintro ⟨⟩ -
      try simp only [List.cons_append, List.nil_append]
      refine ag_nil ?_
      refine q_move rfl rfl rfl rfl ?_
      refine q_move rfl rfl rfl rfl ?_
      have sp_43 := leq_spec ab bb LA LB aa ba LA.length ac LB.length bc (by first | rfl | assumption | omega | (simp; done) | (simp; omega)) (by first | rfl | assumption | omega | (simp; done) | (simp; omega)) (by assumption) (by assumption)
      refine l_call rfl rfl rfl rfl rfl rfl Try.call15 (sp_43) (by (repeat ((with_reducible apply Takes.cons); focus (first | (with_reducible (repeat (first | exact Take.here | apply Take.there)); done) | (repeat (first | exact Take.here | apply Take.there))))); exact Takes.nil) ?_
      rintro ⟨⟩ -
      try simp only [List.cons_append, List.nil_append]
      refine ag_nil ?_
      refine q_move rfl rfl rfl rfl ?_
      refine s_bool_p 235 rfl (fun hab => ?_) (fun hab => ?_)
      · skip
        refine q_move rfl rfl rfl rfl ?_
        refine q_move rfl rfl rfl rfl ?_
        have sp_44 := leq_spec bb ab LB LA ba aa LB.length bc LA.length ac (by first | rfl | assumption | omega | (simp; done) | (simp; omega)) (by first | rfl | assumption | omega | (simp; done) | (simp; omega)) (by assumption) (by assumption)
        refine l_call rfl rfl rfl rfl rfl rfl Try.call15 (sp_44) (by (repeat ((with_reducible apply Takes.cons); focus (first | (with_reducible (repeat (first | exact Take.here | apply Take.there)); done) | (repeat (first | exact Take.here | apply Take.there))))); exact Takes.nil) ?_
        rintro ⟨⟩ -
        try simp only [List.cons_append, List.nil_append]
        refine ag_nil ?_
        refine q_pick_t rfl rfl rfl rfl rfl ?_
        refine q_neb rfl rfl rfl rfl rfl Try.underlying4 ?_
        refine q_move rfl rfl rfl rfl ?_
        refine s_bool 241 rfl (fun hg => by exfalso; first | (have e1 := heq hab; by_cases h5 : LeqL LB LA <;> simp [h5, e1] at hg; done) | (have e1 := hne hab; simp [e1] at hg)) (fun hg => ?_)
        try simp only [Bool.and_eq_true, Bool.or_eq_true, Bool.not_eq_true', Bool.not_eq_false', Bool.and_eq_false_iff, Bool.or_eq_false_iff, decide_eq_true_eq, decide_eq_false_iff_not] at hg
        refine q_move rfl rfl rfl rfl ?_
        refine q_move rfl rfl rfl rfl ?_
        have sp_45 := leq_spec ab bb LA LB aa ba LA.length ac LB.length bc (by first | rfl | assumption | omega | (simp; done) | (simp; omega)) (by first | rfl | assumption | omega | (simp; done) | (simp; omega)) (by assumption) (by assumption)
        refine l_call rfl rfl rfl rfl rfl rfl Try.call15 (sp_45) (by (repeat ((with_reducible apply Takes.cons); focus (first | (with_reducible (repeat (first | exact Take.here | apply Take.there)); done) | (repeat (first | exact Take.here | apply Take.there))))); exact Takes.nil) ?_
        rintro ⟨⟩ -
        try simp only [List.cons_append, List.nil_append]
        refine ag_nil ?_
        refine q_move rfl rfl rfl rfl ?_
        refine s_bool_p 245 rfl (fun hab2 => ?_) (fun hab2 => ?_)
        · skip
          refine q_move rfl rfl rfl rfl ?_
          refine q_move rfl rfl rfl rfl ?_
          have sp_46 := leq_spec bb cb LB LC ba ca LB.length bc LC.length cc (by first | rfl | assumption | omega | (simp; done) | (simp; omega)) (by first | rfl | assumption | omega | (simp; done) | (simp; omega)) (by assumption) (by assumption)
          refine l_call rfl rfl rfl rfl rfl rfl Try.call15 (sp_46) (by (repeat ((with_reducible apply Takes.cons); focus (first | (with_reducible (repeat (first | exact Take.here | apply Take.there)); done) | (repeat (first | exact Take.here | apply Take.there))))); exact Takes.nil) ?_
          rintro ⟨⟩ -
          try simp only [List.cons_append, List.nil_append]
          refine ag_nil ?_
          refine q_pick_t rfl rfl rfl rfl rfl ?_
          refine q_move rfl rfl rfl rfl ?_
          refine s_bool_p 250 rfl (fun hbc => ?_) (fun hbc => ?_)
          · skip
            refine q_move rfl rfl rfl rfl ?_
            refine q_move rfl rfl rfl rfl ?_
            have sp_47 := leq_spec ab cb LA LC aa ca LA.length ac LC.length cc (by first | rfl | assumption | omega | (simp; done) | (simp; omega)) (by first | rfl | assumption | omega | (simp; done) | (simp; omega)) (by assumption) (by assumption)
            refine l_call rfl rfl rfl rfl rfl rfl Try.call15 (sp_47) (by (repeat ((with_reducible apply Takes.cons); focus (first | (with_reducible (repeat (first | exact Take.here | apply Take.there)); done) | (repeat (first | exact Take.here | apply Take.there))))); exact Takes.nil) ?_
            rintro ⟨⟩ -
            try simp only [List.cons_append, List.nil_append]
            refine ag_nil ?_
            refine q_not rfl rfl rfl rfl ?_
            refine q_pick_t rfl rfl rfl rfl rfl ?_
            refine q_pick_f rfl rfl rfl rfl rfl ?_
            refine q_move rfl rfl rfl rfl ?_
            refine s_bool_np 257 rfl (fun hg => by exfalso; exact hg (htrans hab2 hbc)) (fun hg => ?_)
            refine q_move rfl rfl rfl rfl ?_
            refine q_move rfl rfl rfl rfl ?_
            have sp_48 := leq_self ab LA aa LA.length ac (by first | rfl | assumption | omega | (simp; done) | (simp; omega)) (by omega)
            refine l_call rfl rfl rfl rfl rfl rfl Try.call15 (sp_48) (by (repeat ((with_reducible apply Takes.cons); focus (first | (with_reducible (repeat (first | exact Take.here | apply Take.there)); done) | (repeat (first | exact Take.here | apply Take.there))))); exact Takes.nil) ?_
            rintro ⟨⟩ -
            try simp only [List.cons_append, List.nil_append]
            refine ag_nil ?_
            refine q_not rfl rfl rfl rfl ?_
            refine s_eq 261 rfl (v' := .bool false) rfl ?_
            refine q_pick_f rfl rfl rfl rfl rfl ?_
            refine r_done ?_
            refine s_keep [7, 10, 12, 14, 262] (e' := [(7, _), (10, _), (12, _), (14, _), (262, _)]) rfl ?_
            refine k_then_n ?_
            refine join_next (()) (by trivial) (by exact ⟨rfl, rfl, rfl, rfl, rfl, trivial⟩) (by (try simp only [List.cons_append, List.nil_append]); (repeat ((with_reducible apply Takes.cons); focus (first | (with_reducible (repeat (first | exact Take.here | apply Take.there)); done) | (repeat (first | exact Take.here | apply Take.there))))); (repeat (first | exact Takes.nil | exact Takes.self | refine takes_drop2 ?_)))
          · skip
            refine q_skip rfl rfl rfl rfl ?_
            refine q_skip rfl rfl rfl rfl ?_
            refine l_skip rfl rfl rfl rfl ?_
            refine q_skip rfl rfl rfl rfl ?_
            refine q_pick_f rfl rfl rfl rfl rfl ?_
            refine q_pick_f rfl rfl rfl rfl rfl ?_
            refine q_move rfl rfl rfl rfl ?_
            refine q_move rfl rfl rfl rfl ?_
            refine q_move rfl rfl rfl rfl ?_
            have sp_49 := leq_self ab LA aa LA.length ac (by first | rfl | assumption | omega | (simp; done) | (simp; omega)) (by omega)
            refine l_call rfl rfl rfl rfl rfl rfl Try.call15 (sp_49) (by (repeat ((with_reducible apply Takes.cons); focus (first | (with_reducible (repeat (first | exact Take.here | apply Take.there)); done) | (repeat (first | exact Take.here | apply Take.there))))); exact Takes.nil) ?_
            rintro ⟨⟩ -
            try simp only [List.cons_append, List.nil_append]
            refine ag_nil ?_
            refine q_not rfl rfl rfl rfl ?_
            refine s_eq 261 rfl (v' := .bool false) rfl ?_
            refine q_pick_f rfl rfl rfl rfl rfl ?_
            refine r_done ?_
            refine s_keep [7, 10, 12, 14, 262] (e' := [(7, _), (10, _), (12, _), (14, _), (262, _)]) rfl ?_
            refine k_then_n ?_
            refine join_next (()) (by trivial) (by exact ⟨rfl, rfl, rfl, rfl, rfl, trivial⟩) (by (try simp only [List.cons_append, List.nil_append]); (repeat ((with_reducible apply Takes.cons); focus (first | (with_reducible (repeat (first | exact Take.here | apply Take.there)); done) | (repeat (first | exact Take.here | apply Take.there))))); (repeat (first | exact Takes.nil | exact Takes.self | refine takes_drop2 ?_)))
        · skip
          refine q_skip rfl rfl rfl rfl ?_
          refine q_skip rfl rfl rfl rfl ?_
          refine l_skip rfl rfl rfl rfl ?_
          refine q_pick_f rfl rfl rfl rfl rfl ?_
          refine q_move rfl rfl rfl rfl ?_
          refine q_skip rfl rfl rfl rfl ?_
          refine q_skip rfl rfl rfl rfl ?_
          refine l_skip rfl rfl rfl rfl ?_
          refine q_skip rfl rfl rfl rfl ?_
          refine q_pick_f rfl rfl rfl rfl rfl ?_
          refine q_pick_f rfl rfl rfl rfl rfl ?_
          refine q_move rfl rfl rfl rfl ?_
          refine q_move rfl rfl rfl rfl ?_
          refine q_move rfl rfl rfl rfl ?_
          have sp_50 := leq_self ab LA aa LA.length ac (by first | rfl | assumption | omega | (simp; done) | (simp; omega)) (by omega)
          refine l_call rfl rfl rfl rfl rfl rfl Try.call15 (sp_50) (by (repeat ((with_reducible apply Takes.cons); focus (first | (with_reducible (repeat (first | exact Take.here | apply Take.there)); done) | (repeat (first | exact Take.here | apply Take.there))))); exact Takes.nil) ?_
          rintro ⟨⟩ -
          try simp only [List.cons_append, List.nil_append]
          refine ag_nil ?_
          refine q_not rfl rfl rfl rfl ?_
          refine s_eq 261 rfl (v' := .bool false) rfl ?_
          refine q_pick_f rfl rfl rfl rfl rfl ?_
          refine r_done ?_
          refine s_keep [7, 10, 12, 14, 262] (e' := [(7, _), (10, _), (12, _), (14, _), (262, _)]) rfl ?_
          refine k_then_n ?_
          refine join_next (()) (by trivial) (by exact ⟨rfl, rfl, rfl, rfl, rfl, trivial⟩) (by (try simp only [List.cons_append, List.nil_append]); (repeat ((with_reducible apply Takes.cons); focus (first | (with_reducible (repeat (first | exact Take.here | apply Take.there)); done) | (repeat (first | exact Take.here | apply Take.there))))); (repeat (first | exact Takes.nil | exact Takes.self | refine takes_drop2 ?_)))
      · skip
        refine q_skip rfl rfl rfl rfl ?_
        refine q_skip rfl rfl rfl rfl ?_
        refine l_skip rfl rfl rfl rfl ?_
        refine q_pick_f rfl rfl rfl rfl rfl ?_
        refine q_neb rfl rfl rfl rfl rfl Try.underlying4 ?_
        refine q_move rfl rfl rfl rfl ?_
        refine s_bool 241 rfl (fun hg => by exfalso; first | (have e1 := heq hab; by_cases h5 : LeqL LB LA <;> simp [h5, e1] at hg; done) | (have e1 := hne hab; simp [e1] at hg)) (fun hg => ?_)
        try simp only [Bool.and_eq_true, Bool.or_eq_true, Bool.not_eq_true', Bool.not_eq_false', Bool.and_eq_false_iff, Bool.or_eq_false_iff, decide_eq_true_eq, decide_eq_false_iff_not] at hg
        refine q_move rfl rfl rfl rfl ?_
        refine q_move rfl rfl rfl rfl ?_
        have sp_51 := leq_spec ab bb LA LB aa ba LA.length ac LB.length bc (by first | rfl | assumption | omega | (simp; done) | (simp; omega)) (by first | rfl | assumption | omega | (simp; done) | (simp; omega)) (by assumption) (by assumption)
        refine l_call rfl rfl rfl rfl rfl rfl Try.call15 (sp_51) (by (repeat ((with_reducible apply Takes.cons); focus (first | (with_reducible (repeat (first | exact Take.here | apply Take.there)); done) | (repeat (first | exact Take.here | apply Take.there))))); exact Takes.nil) ?_
        rintro ⟨⟩ -
        try simp only [List.cons_append, List.nil_append]
        refine ag_nil ?_
        refine q_move rfl rfl rfl rfl ?_
        refine s_bool_p 245 rfl (fun hab2 => ?_) (fun hab2 => ?_)
        · skip
          refine q_move rfl rfl rfl rfl ?_
          refine q_move rfl rfl rfl rfl ?_
          have sp_52 := leq_spec bb cb LB LC ba ca LB.length bc LC.length cc (by first | rfl | assumption | omega | (simp; done) | (simp; omega)) (by first | rfl | assumption | omega | (simp; done) | (simp; omega)) (by assumption) (by assumption)
          refine l_call rfl rfl rfl rfl rfl rfl Try.call15 (sp_52) (by (repeat ((with_reducible apply Takes.cons); focus (first | (with_reducible (repeat (first | exact Take.here | apply Take.there)); done) | (repeat (first | exact Take.here | apply Take.there))))); exact Takes.nil) ?_
          rintro ⟨⟩ -
          try simp only [List.cons_append, List.nil_append]
          refine ag_nil ?_
          refine q_pick_t rfl rfl rfl rfl rfl ?_
          refine q_move rfl rfl rfl rfl ?_
          refine s_bool_p 250 rfl (fun hbc => ?_) (fun hbc => ?_)
          · skip
            refine q_move rfl rfl rfl rfl ?_
            refine q_move rfl rfl rfl rfl ?_
            have sp_53 := leq_spec ab cb LA LC aa ca LA.length ac LC.length cc (by first | rfl | assumption | omega | (simp; done) | (simp; omega)) (by first | rfl | assumption | omega | (simp; done) | (simp; omega)) (by assumption) (by assumption)
            refine l_call rfl rfl rfl rfl rfl rfl Try.call15 (sp_53) (by (repeat ((with_reducible apply Takes.cons); focus (first | (with_reducible (repeat (first | exact Take.here | apply Take.there)); done) | (repeat (first | exact Take.here | apply Take.there))))); exact Takes.nil) ?_
            rintro ⟨⟩ -
            try simp only [List.cons_append, List.nil_append]
            refine ag_nil ?_
            refine q_not rfl rfl rfl rfl ?_
            refine q_pick_t rfl rfl rfl rfl rfl ?_
            refine q_pick_f rfl rfl rfl rfl rfl ?_
            refine q_move rfl rfl rfl rfl ?_
            refine s_bool_np 257 rfl (fun hg => by exfalso; exact hg (htrans hab2 hbc)) (fun hg => ?_)
            refine q_move rfl rfl rfl rfl ?_
            refine q_move rfl rfl rfl rfl ?_
            have sp_54 := leq_self ab LA aa LA.length ac (by first | rfl | assumption | omega | (simp; done) | (simp; omega)) (by omega)
            refine l_call rfl rfl rfl rfl rfl rfl Try.call15 (sp_54) (by (repeat ((with_reducible apply Takes.cons); focus (first | (with_reducible (repeat (first | exact Take.here | apply Take.there)); done) | (repeat (first | exact Take.here | apply Take.there))))); exact Takes.nil) ?_
            rintro ⟨⟩ -
            try simp only [List.cons_append, List.nil_append]
            refine ag_nil ?_
            refine q_not rfl rfl rfl rfl ?_
            refine s_eq 261 rfl (v' := .bool false) rfl ?_
            refine q_pick_f rfl rfl rfl rfl rfl ?_
            refine r_done ?_
            refine s_keep [7, 10, 12, 14, 262] (e' := [(7, _), (10, _), (12, _), (14, _), (262, _)]) rfl ?_
            refine k_then_n ?_
            refine join_next (()) (by trivial) (by exact ⟨rfl, rfl, rfl, rfl, rfl, trivial⟩) (by (try simp only [List.cons_append, List.nil_append]); (repeat ((with_reducible apply Takes.cons); focus (first | (with_reducible (repeat (first | exact Take.here | apply Take.there)); done) | (repeat (first | exact Take.here | apply Take.there))))); (repeat (first | exact Takes.nil | exact Takes.self | refine takes_drop2 ?_)))
          · skip
            refine q_skip rfl rfl rfl rfl ?_
            refine q_skip rfl rfl rfl rfl ?_
            refine l_skip rfl rfl rfl rfl ?_
            refine q_skip rfl rfl rfl rfl ?_
            refine q_pick_f rfl rfl rfl rfl rfl ?_
            refine q_pick_f rfl rfl rfl rfl rfl ?_
            refine q_move rfl rfl rfl rfl ?_
            refine q_move rfl rfl rfl rfl ?_
            refine q_move rfl rfl rfl rfl ?_
            have sp_55 := leq_self ab LA aa LA.length ac (by first | rfl | assumption | omega | (simp; done) | (simp; omega)) (by omega)
            refine l_call rfl rfl rfl rfl rfl rfl Try.call15 (sp_55) (by (repeat ((with_reducible apply Takes.cons); focus (first | (with_reducible (repeat (first | exact Take.here | apply Take.there)); done) | (repeat (first | exact Take.here | apply Take.there))))); exact Takes.nil) ?_
            rintro ⟨⟩ -
            try simp only [List.cons_append, List.nil_append]
            refine ag_nil ?_
            refine q_not rfl rfl rfl rfl ?_
            refine s_eq 261 rfl (v' := .bool false) rfl ?_
            refine q_pick_f rfl rfl rfl rfl rfl ?_
            refine r_done ?_
            refine s_keep [7, 10, 12, 14, 262] (e' := [(7, _), (10, _), (12, _), (14, _), (262, _)]) rfl ?_
            refine k_then_n ?_
            refine join_next (()) (by trivial) (by exact ⟨rfl, rfl, rfl, rfl, rfl, trivial⟩) (by (try simp only [List.cons_append, List.nil_append]); (repeat ((with_reducible apply Takes.cons); focus (first | (with_reducible (repeat (first | exact Take.here | apply Take.there)); done) | (repeat (first | exact Take.here | apply Take.there))))); (repeat (first | exact Takes.nil | exact Takes.self | refine takes_drop2 ?_)))
        · skip
          refine q_skip rfl rfl rfl rfl ?_
          refine q_skip rfl rfl rfl rfl ?_
          refine l_skip rfl rfl rfl rfl ?_
          refine q_pick_f rfl rfl rfl rfl rfl ?_
          refine q_move rfl rfl rfl rfl ?_
          refine q_skip rfl rfl rfl rfl ?_
          refine q_skip rfl rfl rfl rfl ?_
          refine l_skip rfl rfl rfl rfl ?_
          refine q_skip rfl rfl rfl rfl ?_
          refine q_pick_f rfl rfl rfl rfl rfl ?_
          refine q_pick_f rfl rfl rfl rfl rfl ?_
          refine q_move rfl rfl rfl rfl ?_
          refine q_move rfl rfl rfl rfl ?_
          refine q_move rfl rfl rfl rfl ?_
          have sp_56 := leq_self ab LA aa LA.length ac (by first | rfl | assumption | omega | (simp; done) | (simp; omega)) (by omega)
          refine l_call rfl rfl rfl rfl rfl rfl Try.call15 (sp_56) (by (repeat ((with_reducible apply Takes.cons); focus (first | (with_reducible (repeat (first | exact Take.here | apply Take.there)); done) | (repeat (first | exact Take.here | apply Take.there))))); exact Takes.nil) ?_
          rintro ⟨⟩ -
          try simp only [List.cons_append, List.nil_append]
          refine ag_nil ?_
          refine q_not rfl rfl rfl rfl ?_
          refine s_eq 261 rfl (v' := .bool false) rfl ?_
          refine q_pick_f rfl rfl rfl rfl rfl ?_
          refine r_done ?_
          refine s_keep [7, 10, 12, 14, 262] (e' := [(7, _), (10, _), (12, _), (14, _), (262, _)]) rfl ?_
          refine k_then_n ?_
          refine join_next (()) (by trivial) (by exact ⟨rfl, rfl, rfl, rfl, rfl, trivial⟩) (by (try simp only [List.cons_append, List.nil_append]); (repeat ((with_reducible apply Takes.cons); focus (first | (with_reducible (repeat (first | exact Take.here | apply Take.there)); done) | (repeat (first | exact Take.here | apply Take.there))))); (repeat (first | exact Takes.nil | exact Takes.self | refine takes_drop2 ?_)))
    · skip
      rintro ⟨⟩ -
      try simp only [List.cons_append, List.nil_append]
      refine c_cond_f rfl ?_
      refine c_skip ?_
      refine k_then_n ?_
      refine c_seq ?_
      refine c_plain (.q 0 (.done)) (by kernel_rfl) ?_
      refine q_assign rfl rfl rfl rfl ?_
      refine r_done ?_
      refine k_then_n ?_
      refine c_seqJ (α := Unit) (fun (z_ : Unit) => True) (fun (z_ : Unit) => [(27, .int .i64 (agn LA LB))]) (fun (z_ : Unit) => []) [7, 10, 12, 14] (er := [(7, _), (10, _), (12, _), (14, _)]) rfl [] (by (repeat ((with_reducible apply Takes.cons); focus (first | (with_reducible (repeat (first | exact Take.here | apply Take.there)); done) | (repeat (first | exact Take.here | apply Take.there))))); exact Takes.nil) ?_ ?_
      · skip
        refine c_block ?_
        refine c_seq ?_
        refine c_plain (.q 0 (.q 1 ((.l 2 [] (.q 3 (.q 4 (.q 5 ((.l 6 [] (.q 7 (.q 8 (.done)))))))))))) (by kernel_rfl) ?_
        refine q_move rfl rfl rfl rfl ?_
        refine q_move rfl rfl rfl rfl ?_
        have sp_57 := leq_spec ab bb LA LB aa ba LA.length ac LB.length bc (by first | rfl | assumption | omega | (simp; done) | (simp; omega)) (by first | rfl | assumption | omega | (simp; done) | (simp; omega)) (by assumption) (by assumption)
        refine l_call rfl rfl rfl rfl rfl rfl Try.call15 (sp_57) (by (repeat ((with_reducible apply Takes.cons); focus (first | (with_reducible (repeat (first | exact Take.here | apply Take.there)); done) | (repeat (first | exact Take.here | apply Take.there))))); exact Takes.nil) ?_
        rintro ⟨⟩ -
        try simp only [List.cons_append, List.nil_append]
        refine ag_nil ?_
        refine q_move rfl rfl rfl rfl ?_
        refine s_bool_p 267 rfl (fun h1 => ?_) (fun h1 => ?_)
        · skip
          refine q_move rfl rfl rfl rfl ?_
          refine q_move rfl rfl rfl rfl ?_
          have sp_58 := leq_spec bb ab LB LA ba aa LB.length bc LA.length ac (by first | rfl | assumption | omega | (simp; done) | (simp; omega)) (by first | rfl | assumption | omega | (simp; done) | (simp; omega)) (by assumption) (by assumption)
          refine l_call rfl rfl rfl rfl rfl rfl Try.call15 (sp_58) (by (repeat ((with_reducible apply Takes.cons); focus (first | (with_reducible (repeat (first | exact Take.here | apply Take.there)); done) | (repeat (first | exact Take.here | apply Take.there))))); exact Takes.nil) ?_
          rintro ⟨⟩ -
          try simp only [List.cons_append, List.nil_append]
          refine ag_nil ?_
          refine q_pick_t rfl rfl rfl rfl rfl ?_
          refine q_assign rfl rfl rfl rfl ?_
          refine r_done ?_
          refine s_keep [7, 10, 12, 14, 27, 263] (e' := [(7, _), (10, _), (12, _), (14, _), (27, _), (263, _)]) rfl ?_
          refine k_then_n ?_
          refine c_cond_p rfl (fun h2 => ?_) (fun h2 => ?_)
          · skip
            refine c_plain (.q 0 (.done)) (by kernel_rfl) ?_
            refine q_assign rfl rfl rfl rfl ?_
            refine r_done ?_
            refine k_blk_n ?_
            refine k_then_n ?_
            refine s_eq 27 rfl (v' := .int .i64 (agn LA LB)) (by congr 1; symm; simp only [agn]; split <;> (try split) <;> first | rfl | contradiction) ?_
            refine join_next (()) (by trivial) (by exact ⟨rfl, rfl, rfl, rfl, rfl, trivial⟩) (by (try simp only [List.cons_append, List.nil_append]); (repeat ((with_reducible apply Takes.cons); focus (first | (with_reducible (repeat (first | exact Take.here | apply Take.there)); done) | (repeat (first | exact Take.here | apply Take.there))))); (repeat (first | exact Takes.nil | exact Takes.self | refine takes_drop2 ?_)))
          · skip
            refine c_seq ?_
            refine c_plain (.q 0 (.q 1 ((.l 2 [] (.q 3 (.done)))))) (by kernel_rfl) ?_
            refine q_move rfl rfl rfl rfl ?_
            refine q_move rfl rfl rfl rfl ?_
            have sp_59 := leq_spec ab bb LA LB aa ba LA.length ac LB.length bc (by first | rfl | assumption | omega | (simp; done) | (simp; omega)) (by first | rfl | assumption | omega | (simp; done) | (simp; omega)) (by assumption) (by assumption)
            refine l_call rfl rfl rfl rfl rfl rfl Try.call15 (sp_59) (by (repeat ((with_reducible apply Takes.cons); focus (first | (with_reducible (repeat (first | exact Take.here | apply Take.there)); done) | (repeat (first | exact Take.here | apply Take.there))))); exact Takes.nil) ?_
            rintro ⟨⟩ -
            try simp only [List.cons_append, List.nil_append]
            refine ag_nil ?_
            refine q_assign rfl rfl rfl rfl ?_
            refine r_done ?_
            refine s_keep [7, 10, 12, 14, 27, 272] (e' := [(7, _), (10, _), (12, _), (14, _), (27, _), (272, _)]) rfl ?_
            refine k_then_n ?_
            refine c_cond_p rfl (fun hg => ?_) (fun hg => by exfalso; exact hg h1)
            refine c_plain (.q 0 (.done)) (by kernel_rfl) ?_
            refine q_assign rfl rfl rfl rfl ?_
            refine r_done ?_
            refine k_blk_n ?_
            refine k_then_n ?_
            refine s_eq 27 rfl (v' := .int .i64 (agn LA LB)) (by congr 1; symm; simp only [agn]; split <;> (try split) <;> first | rfl | contradiction) ?_
            refine join_next (()) (by trivial) (by exact ⟨rfl, rfl, rfl, rfl, rfl, trivial⟩) (by (try simp only [List.cons_append, List.nil_append]); (repeat ((with_reducible apply Takes.cons); focus (first | (with_reducible (repeat (first | exact Take.here | apply Take.there)); done) | (repeat (first | exact Take.here | apply Take.there))))); (repeat (first | exact Takes.nil | exact Takes.self | refine takes_drop2 ?_)))
        · skip
          refine q_skip rfl rfl rfl rfl ?_
          refine q_skip rfl rfl rfl rfl ?_
          refine l_skip rfl rfl rfl rfl ?_
          refine q_pick_f rfl rfl rfl rfl rfl ?_
          refine q_assign rfl rfl rfl rfl ?_
          refine r_done ?_
          refine s_keep [7, 10, 12, 14, 27, 263] (e' := [(7, _), (10, _), (12, _), (14, _), (27, _), (263, _)]) rfl ?_
          refine k_then_n ?_
          refine c_cond_f rfl ?_
          refine c_seq ?_
          refine c_plain (.q 0 (.q 1 ((.l 2 [] (.q 3 (.done)))))) (by kernel_rfl) ?_
          refine q_move rfl rfl rfl rfl ?_
          refine q_move rfl rfl rfl rfl ?_
          have sp_60 := leq_spec ab bb LA LB aa ba LA.length ac LB.length bc (by first | rfl | assumption | omega | (simp; done) | (simp; omega)) (by first | rfl | assumption | omega | (simp; done) | (simp; omega)) (by assumption) (by assumption)
          refine l_call rfl rfl rfl rfl rfl rfl Try.call15 (sp_60) (by (repeat ((with_reducible apply Takes.cons); focus (first | (with_reducible (repeat (first | exact Take.here | apply Take.there)); done) | (repeat (first | exact Take.here | apply Take.there))))); exact Takes.nil) ?_
          rintro ⟨⟩ -
          try simp only [List.cons_append, List.nil_append]
          refine ag_nil ?_
          refine q_assign rfl rfl rfl rfl ?_
          refine r_done ?_
          refine s_keep [7, 10, 12, 14, 27, 272] (e' := [(7, _), (10, _), (12, _), (14, _), (27, _), (272, _)]) rfl ?_
          refine k_then_n ?_
          refine c_cond_p rfl (fun hg => by exfalso; exact h1 hg) (fun hg => ?_)
          refine c_seq ?_
          refine c_plain (.q 0 (.q 1 ((.l 2 [] (.q 3 (.done)))))) (by kernel_rfl) ?_
          refine q_move rfl rfl rfl rfl ?_
          refine q_move rfl rfl rfl rfl ?_
          have sp_61 := leq_spec bb ab LB LA ba aa LB.length bc LA.length ac (by first | rfl | assumption | omega | (simp; done) | (simp; omega)) (by first | rfl | assumption | omega | (simp; done) | (simp; omega)) (by assumption) (by assumption)
          refine l_call rfl rfl rfl rfl rfl rfl Try.call15 (sp_61) (by (repeat ((with_reducible apply Takes.cons); focus (first | (with_reducible (repeat (first | exact Take.here | apply Take.there)); done) | (repeat (first | exact Take.here | apply Take.there))))); exact Takes.nil) ?_
          rintro ⟨⟩ -
          try simp only [List.cons_append, List.nil_append]
          refine ag_nil ?_
          refine q_assign rfl rfl rfl rfl ?_
          refine r_done ?_
          refine s_keep [7, 10, 12, 14, 27, 276] (e' := [(7, _), (10, _), (12, _), (14, _), (27, _), (276, _)]) rfl ?_
          refine k_then_n ?_
          refine c_cond_p rfl (fun h2 => ?_) (fun h2 => ?_)
          · skip
            refine c_plain (.q 0 (.done)) (by kernel_rfl) ?_
            refine q_assign rfl rfl rfl rfl ?_
            refine r_done ?_
            refine k_blk_n ?_
            refine k_then_n ?_
            refine s_eq 27 rfl (v' := .int .i64 (agn LA LB)) (by congr 1; symm; simp only [agn]; split <;> (try split) <;> first | rfl | contradiction) ?_
            refine join_next (()) (by trivial) (by exact ⟨rfl, rfl, rfl, rfl, rfl, trivial⟩) (by (try simp only [List.cons_append, List.nil_append]); (repeat ((with_reducible apply Takes.cons); focus (first | (with_reducible (repeat (first | exact Take.here | apply Take.there)); done) | (repeat (first | exact Take.here | apply Take.there))))); (repeat (first | exact Takes.nil | exact Takes.self | refine takes_drop2 ?_)))
          · skip
            refine c_skip ?_
            refine k_blk_n ?_
            refine k_then_n ?_
            refine s_eq 27 rfl (v' := .int .i64 (agn LA LB)) (by congr 1; symm; simp only [agn]; split <;> (try split) <;> first | rfl | contradiction) ?_
            refine join_next (()) (by trivial) (by exact ⟨rfl, rfl, rfl, rfl, rfl, trivial⟩) (by (try simp only [List.cons_append, List.nil_append]); (repeat ((with_reducible apply Takes.cons); focus (first | (with_reducible (repeat (first | exact Take.here | apply Take.there)); done) | (repeat (first | exact Take.here | apply Take.there))))); (repeat (first | exact Takes.nil | exact Takes.self | refine takes_drop2 ?_)))
      · skip
        rintro ⟨⟩ -
        try simp only [List.cons_append, List.nil_append]
        refine c_seq ?_
        refine c_seqJ (α := Unit) (fun (z_ : Unit) => True) (fun (z_ : Unit) => [(287, .bool (decide (LeqL LA LC) && decide (LeqL LB LC)))]) (fun (z_ : Unit) => []) [7, 10, 12, 14, 27] (er := [(7, _), (10, _), (12, _), (14, _), (27, _)]) rfl [] (by (repeat ((with_reducible apply Takes.cons); focus (first | (with_reducible (repeat (first | exact Take.here | apply Take.there)); done) | (repeat (first | exact Take.here | apply Take.there))))); exact Takes.nil) ?_ ?_
        · skip
          refine c_plain (.q 0 (.q 1 ((.l 2 [] (.q 3 (.q 4 (.q 5 ((.l 6 [] (.q 7 (.done))))))))))) (by kernel_rfl) ?_
          refine q_move rfl rfl rfl rfl ?_
          refine q_move rfl rfl rfl rfl ?_
          have sp_62 := leq_spec ab cb LA LC aa ca LA.length ac LC.length cc (by first | rfl | assumption | omega | (simp; done) | (simp; omega)) (by first | rfl | assumption | omega | (simp; done) | (simp; omega)) (by assumption) (by assumption)
          refine l_call rfl rfl rfl rfl rfl rfl Try.call15 (sp_62) (by (repeat ((with_reducible apply Takes.cons); focus (first | (with_reducible (repeat (first | exact Take.here | apply Take.there)); done) | (repeat (first | exact Take.here | apply Take.there))))); exact Takes.nil) ?_
          rintro ⟨⟩ -
          try simp only [List.cons_append, List.nil_append]
          refine ag_nil ?_
          refine q_move rfl rfl rfl rfl ?_
          refine s_bool_p 283 rfl (fun h3 => ?_) (fun h3 => ?_)
          · skip
            refine q_move rfl rfl rfl rfl ?_
            refine q_move rfl rfl rfl rfl ?_
            have sp_63 := leq_spec bb cb LB LC ba ca LB.length bc LC.length cc (by first | rfl | assumption | omega | (simp; done) | (simp; omega)) (by first | rfl | assumption | omega | (simp; done) | (simp; omega)) (by assumption) (by assumption)
            refine l_call rfl rfl rfl rfl rfl rfl Try.call15 (sp_63) (by (repeat ((with_reducible apply Takes.cons); focus (first | (with_reducible (repeat (first | exact Take.here | apply Take.there)); done) | (repeat (first | exact Take.here | apply Take.there))))); exact Takes.nil) ?_
            rintro ⟨⟩ -
            try simp only [List.cons_append, List.nil_append]
            refine ag_nil ?_
            refine q_pick_t rfl rfl rfl rfl rfl ?_
            refine r_done ?_
            refine s_keep [7, 10, 12, 14, 27, 287] (e' := [(7, _), (10, _), (12, _), (14, _), (27, _), (287, _)]) rfl ?_
            refine k_then_n ?_
            refine s_eq 287 rfl (v' := .bool (decide (LeqL LA LC) && decide (LeqL LB LC))) (by first | (simp [h3]; done) | simp) ?_
            refine join_next (()) (by trivial) (by exact ⟨rfl, rfl, rfl, rfl, rfl, rfl, trivial⟩) (by (try simp only [List.cons_append, List.nil_append]); (repeat ((with_reducible apply Takes.cons); focus (first | (with_reducible (repeat (first | exact Take.here | apply Take.there)); done) | (repeat (first | exact Take.here | apply Take.there))))); (repeat (first | exact Takes.nil | exact Takes.self | refine takes_drop2 ?_)))
          · skip
            refine q_skip rfl rfl rfl rfl ?_
            refine q_skip rfl rfl rfl rfl ?_
            refine l_skip rfl rfl rfl rfl ?_
            refine q_pick_f rfl rfl rfl rfl rfl ?_
            refine r_done ?_
            refine s_keep [7, 10, 12, 14, 27, 287] (e' := [(7, _), (10, _), (12, _), (14, _), (27, _), (287, _)]) rfl ?_
            refine k_then_n ?_
            refine s_eq 287 rfl (v' := .bool (decide (LeqL LA LC) && decide (LeqL LB LC))) (by first | (simp [h3]; done) | simp) ?_
            refine join_next (()) (by trivial) (by exact ⟨rfl, rfl, rfl, rfl, rfl, rfl, trivial⟩) (by (try simp only [List.cons_append, List.nil_append]); (repeat ((with_reducible apply Takes.cons); focus (first | (with_reducible (repeat (first | exact Take.here | apply Take.there)); done) | (repeat (first | exact Take.here | apply Take.there))))); (repeat (first | exact Takes.nil | exact Takes.self | refine takes_drop2 ?_)))
        · skip
          rintro ⟨⟩ -
          try simp only [List.cons_append, List.nil_append]
          refine c_cond rfl (fun h34 => ?_) (fun h34 => ?_)
          · skip
            try simp only [Bool.and_eq_true, Bool.or_eq_true, Bool.not_eq_true', Bool.not_eq_false', Bool.and_eq_false_iff, Bool.or_eq_false_iff, decide_eq_true_eq, decide_eq_false_iff_not] at h34
            obtain ⟨h3, h4⟩ := h34
            refine c_seq ?_
            refine s_big_nil (f := kf) ?_
            refine s_heap (fun _ h => Bun.fold ((by (repeat ((with_reducible apply Takes.cons); focus (first | (with_reducible (repeat (first | exact Take.here | apply Take.there)); done) | (repeat (first | exact Take.here | apply Take.there))))); exact Takes.nil : Takes _ [cells ab 0 [.slice aa LA.length ac], own 1 encU aa ac LA] _) _ h)) ?_
            refine s_big_push (f := kf) (L := []) (x := (ab, aa, ac, LA)) (by (repeat ((with_reducible apply Takes.cons); focus (first | (with_reducible (repeat (first | exact Take.here | apply Take.there)); done) | (repeat (first | exact Take.here | apply Take.there))))); exact Takes.nil) ?_
            try simp only [List.nil_append, List.cons_append]
            refine s_heap (fun _ h => Bun.fold ((by (repeat ((with_reducible apply Takes.cons); focus (first | (with_reducible (repeat (first | exact Take.here | apply Take.there)); done) | (repeat (first | exact Take.here | apply Take.there))))); exact Takes.nil : Takes _ [cells bb 0 [.slice ba LB.length bc], own 1 encU ba bc LB] _) _ h)) ?_
            refine s_big_push (f := kf) (L := [(ab, aa, ac, LA)]) (x := (bb, ba, bc, LB)) (by (repeat ((with_reducible apply Takes.cons); focus (first | (with_reducible (repeat (first | exact Take.here | apply Take.there)); done) | (repeat (first | exact Take.here | apply Take.there))))); exact Takes.nil) ?_
            try simp only [List.nil_append, List.cons_append]
            refine s_heap (fun _ h => Bun.fold ((by (repeat ((with_reducible apply Takes.cons); focus (first | (with_reducible (repeat (first | exact Take.here | apply Take.there)); done) | (repeat (first | exact Take.here | apply Take.there))))); exact Takes.nil : Takes _ [cells cb 0 [.slice ca LC.length cc], own 1 encU ca cc LC] _) _ h)) ?_
            refine s_big_push (f := kf) (L := [(ab, aa, ac, LA), (bb, ba, bc, LB)]) (x := (cb, ca, cc, LC)) (by (repeat ((with_reducible apply Takes.cons); focus (first | (with_reducible (repeat (first | exact Take.here | apply Take.there)); done) | (repeat (first | exact Take.here | apply Take.there))))); exact Takes.nil) ?_
            try simp only [List.nil_append, List.cons_append]
            refine c_plain (.q 0 (.q 1 ((.l 2 [] ((.l 3 [] (.q 4 (.q 5 (.q 6 (.q 7 (.q 8 (.done)))))))))))) (by kernel_rfl) ?_
            refine q_move rfl rfl rfl rfl ?_
            refine q_move rfl rfl rfl rfl ?_
            refine l_buildSlice rfl rfl rfl rfl (run_build1 (us := [_]) Try.underlying73 Try.sizeOf25 rfl Try.zeroValue25 rfl rfl rfl) ?_
            intro b291
            refine ag_nil ?_
            have sp_64 := joined_spec ab aa ac LA [(ab, aa, ac, LA), (bb, ba, bc, LB), (cb, ca, cc, LC)] (by simp) hLAv [(bb, ba, bc, LB)] (by simp) hM3 (some ⟨b291, 0, none⟩) 1 1 (cells b291 0 [.pointer (some ⟨bb, 0, none⟩)]) (rds_some rdn_cells) rfl (by decide)
            refine l_call rfl rfl rfl rfl rfl rfl Try.call11 (sp_64) (by (repeat ((with_reducible apply Takes.cons); focus (first | (with_reducible (repeat (first | exact Take.here | apply Take.there)); done) | (repeat (first | exact Take.here | apply Take.there))))); exact Takes.nil) ?_
            rintro ⟨wb, wa, wc⟩ -
            try simp only [List.cons_append, List.nil_append]
            obtain ⟨LW, hLW⟩ : ∃ L, L = jnA LA [(bb, ba, bc, LB)] := ⟨_, rfl⟩
            rw [← hLW]
            have hLWv : CV LW := by rw [hLW]; exact jnA_cv hLAv (fun x hx => hM3 x (by simp at hx ⊢; rcases hx with rfl <;> simp))
            have hLWl := hLWv.len
            have hLWg : ∀ i, LW.getD i 0 = max (LA.getD i 0) (LB.getD i 0) := fun i => by rw [hLW]; simp only [jnA_cons, jnA_nil]; rw [jn_g hLAv hLBv]
            try simp only [List.cons_append, List.nil_append]
            refine ag_nil ?_
            refine q_move rfl rfl rfl rfl ?_
            refine q_extract rfl rfl rfl rfl rfl ?_
            refine q_extract rfl rfl rfl rfl rfl ?_
            refine q_assign rfl rfl rfl rfl ?_
            refine q_assign rfl rfl rfl rfl ?_
            refine r_done ?_
            refine s_big_take (f := kf) (L := [(ab, aa, ac, LA), (bb, ba, bc, LB), (cb, ca, cc, LC)]) (i := 0) (x := (ab, aa, ac, LA)) (by first | (with_reducible (repeat (first | exact Take.here | apply Take.there)); done) | (repeat (first | exact Take.here | apply Take.there))) rfl ?_
            refine s_bun ?_
            try simp only [List.cons_append, List.nil_append, List.eraseIdx_cons_zero]
            refine s_big_take (f := kf) (L := [(bb, ba, bc, LB), (cb, ca, cc, LC)]) (i := 0) (x := (bb, ba, bc, LB)) (by first | (with_reducible (repeat (first | exact Take.here | apply Take.there)); done) | (repeat (first | exact Take.here | apply Take.there))) rfl ?_
            refine s_bun ?_
            try simp only [List.cons_append, List.nil_append, List.eraseIdx_cons_zero]
            refine s_big_take (f := kf) (L := [(cb, ca, cc, LC)]) (i := 0) (x := (cb, ca, cc, LC)) (by first | (with_reducible (repeat (first | exact Take.here | apply Take.there)); done) | (repeat (first | exact Take.here | apply Take.there))) rfl ?_
            refine s_bun ?_
            try simp only [List.cons_append, List.nil_append, List.eraseIdx_cons_zero]
            refine s_keep [7, 10, 12, 14, 27, 28, 29] (e' := [(7, _), (10, _), (12, _), (14, _), (27, _), (28, _), (29, _)]) rfl ?_
            refine k_then_n ?_
            refine c_seq ?_
            refine c_plain (.q 0 (.q 1 (.q 2 (.q 3 (.q 4 ((.l 5 [] (.q 6 (.q 7 (.done)))))))))) (by kernel_rfl) ?_
            refine q_move rfl rfl rfl rfl ?_
            refine q_not rfl rfl rfl rfl ?_
            refine s_eq 296 rfl (v' := .bool false) rfl ?_
            refine q_move rfl rfl rfl rfl ?_
            refine q_move rfl rfl rfl rfl ?_
            refine q_move rfl rfl rfl rfl ?_
            have sp_65 := leq_spec wb cb LW LC wa ca LW.length wc LC.length cc (by first | rfl | assumption | omega | (simp; done) | (simp; omega)) (by first | rfl | assumption | omega | (simp; done) | (simp; omega)) (by assumption) (by assumption)
            refine l_call rfl rfl rfl rfl rfl rfl Try.call15 (sp_65) (by (repeat ((with_reducible apply Takes.cons); focus (first | (with_reducible (repeat (first | exact Take.here | apply Take.there)); done) | (repeat (first | exact Take.here | apply Take.there))))); exact Takes.nil) ?_
            rintro ⟨⟩ -
            try simp only [List.cons_append, List.nil_append]
            refine ag_nil ?_
            refine q_not rfl rfl rfl rfl ?_
            refine q_pick_f rfl rfl rfl rfl rfl ?_
            refine r_done ?_
            refine s_keep [7, 10, 12, 27, 302] (e' := [(7, _), (10, _), (12, _), (27, _), (302, _)]) rfl ?_
            refine k_then_n ?_
            refine c_cond_np rfl (fun hg => by exfalso; exact hg ((leq_iff hLWv hLCv).2 fun i => by have h1_ := (leq_iff hLAv hLCv).1 h3 i; have h2_ := (leq_iff hLBv hLCv).1 h4 i; rw [hLWg]; omega)) (fun hg => ?_)
            refine c_skip ?_
            refine k_then_n ?_
            refine c_seq ?_
            refine c_plain (.q 0 (.q 1 ((.l 2 [] (.q 3 (.q 4 (.q 5 (.q 6 ((.l 7 [] (.q 8 ((.l 9 [] ((.l 10 [] (.q 11 (.q 12 (.q 13 ((.l 14 [] (.q 15 ((.l 16 [] (.q 17 (.q 18 (.q 19 (.q 20 (.done)))))))))))))))))))))))))))) (by kernel_rfl) ?_
            refine q_move rfl rfl rfl rfl ?_
            refine q_move rfl rfl rfl rfl ?_
            have sp_66 := against_spec ab bb LA LB aa ba LA.length ac LB.length bc (by first | rfl | assumption | omega | (simp; done) | (simp; omega)) (by first | rfl | assumption | omega | (simp; done) | (simp; omega)) (by assumption) (by assumption)
            refine l_call rfl rfl rfl rfl rfl rfl Try.call16 (sp_66) (by (repeat ((with_reducible apply Takes.cons); focus (first | (with_reducible (repeat (first | exact Take.here | apply Take.there)); done) | (repeat (first | exact Take.here | apply Take.there))))); exact Takes.nil) ?_
            rintro ⟨⟩ -
            try simp only [List.cons_append, List.nil_append]
            refine ag_nil ?_
            refine q_move rfl rfl rfl rfl ?_
            refine q_int rfl rfl rfl rfl rfl (b_eql _ _ _ _) ?_
            refine q_move rfl rfl rfl rfl ?_
            refine s_bool_p 308 rfl (fun hg => ?_) (fun hg => by exfalso; exact hg rfl)
            refine q_move rfl rfl rfl rfl ?_
            have sp_67 := list_spec ab LA aa LA.length ac (by first | rfl | assumption | omega | (simp; done) | (simp; omega)) (by omega)
            refine l_call rfl rfl rfl rfl rfl rfl Try.call18 (sp_67) (by (repeat ((with_reducible apply Takes.cons); focus (first | (with_reducible (repeat (first | exact Take.here | apply Take.there)); done) | (repeat (first | exact Take.here | apply Take.there))))); exact Takes.nil) ?_
            rintro ⟨qa, qc⟩ -
            try simp only [List.cons_append, List.nil_append]
            refine ag_nil ?_
            refine q_move rfl rfl rfl rfl ?_
            refine s_take (A := own 1 encU ka kc (fitL xs)) (by with_reducible (repeat (first | exact Take.here | apply Take.there))) ?_
            refine own_fc fun f_68a f_68b f_68c => ?_
            have sp_69 := trimmed_spec (fitL xs) ka ((fitL xs).length) kc (own 1 encU ka kc (fitL xs)) (by first | rfl | assumption | omega | (simp; done) | (simp; omega)) (rds_own encU_len (fun h => (f_68b h).1) f_68c) (by omega) (by omega)
            refine l_call rfl rfl rfl rfl rfl rfl Try.call19 (sp_69) (by (repeat ((with_reducible apply Takes.cons); focus (first | (with_reducible (repeat (first | exact Take.here | apply Take.there)); done) | (repeat (first | exact Take.here | apply Take.there))))); exact Takes.nil) ?_
            rintro ⟨⟩ -
            try simp only [List.cons_append, List.nil_append]
            refine ag_nil ?_
            refine s_take (A := own 1 encU qa qc LA) (by with_reducible (repeat (first | exact Take.here | apply Take.there))) ?_
            refine own_fc fun f_70a f_70b f_70c => ?_
            refine s_heap (fun _ h => Bun.fold ((by (repeat ((with_reducible apply Takes.cons); focus (first | (with_reducible (repeat (first | exact Take.here | apply Take.there)); done) | (repeat (first | exact Take.here | apply Take.there))))); exact Takes.nil : Takes _ [own 1 encU qa qc LA, own 1 encU ka kc (fitL xs)] _) _ h)) ?_
            have sp_71 := same_spec LA (tr (fitL xs)) qa ka LA.length ((tr (fitL xs)).length) qc kc (Bun [own 1 encU qa qc LA, own 1 encU ka kc (fitL xs)]) (by first | rfl | assumption | omega | (simp; done) | (simp; omega)) (rds_bun (List.mem_cons_self) (rds_own encU_len (fun h => (f_70b h).1) f_70c)) (by first | rfl | assumption | omega | (simp; done) | (simp; omega)) (rds_bun (List.mem_cons_of_mem _ (List.mem_cons_self)) ((rds_take (rds_own encU_len (fun h => (f_68b h).1) f_68c) encU_len _))) (by omega)
            refine l_call rfl rfl rfl rfl rfl rfl Try.call17 (sp_71) (by (repeat ((with_reducible apply Takes.cons); focus (first | (with_reducible (repeat (first | exact Take.here | apply Take.there)); done) | (repeat (first | exact Take.here | apply Take.there))))); exact Takes.nil) ?_
            rintro ⟨⟩ -
            try simp only [List.cons_append, List.nil_append]
            refine s_take (A := Bun [own 1 encU qa qc LA, own 1 encU ka kc (fitL xs)]) (by with_reducible (repeat (first | exact Take.here | apply Take.there))) ?_
            refine s_bun ?_
            try simp only [List.cons_append, List.nil_append]
            try simp only [List.cons_append, List.nil_append]
            refine ag_nil ?_
            refine q_pick_t rfl rfl rfl rfl rfl ?_
            refine q_move rfl rfl rfl rfl ?_
            refine s_bool_p 315 rfl (fun hg => ?_) (fun hg => by exfalso; exact hg hLA)
            refine q_move rfl rfl rfl rfl ?_
            have sp_72 := len_spec ab LA aa LA.length ac (by first | rfl | assumption | omega | (simp; done) | (simp; omega))
            refine l_call rfl rfl rfl rfl rfl rfl Try.call20 (sp_72) (by (repeat ((with_reducible apply Takes.cons); focus (first | (with_reducible (repeat (first | exact Take.here | apply Take.there)); done) | (repeat (first | exact Take.here | apply Take.there))))); exact Takes.nil) ?_
            rintro ⟨⟩ -
            try simp only [List.cons_append, List.nil_append]
            refine ag_nil ?_
            refine q_move rfl rfl rfl rfl ?_
            refine s_take (A := own 1 encU ka kc (fitL xs)) (by with_reducible (repeat (first | exact Take.here | apply Take.there))) ?_
            refine own_fc fun f_73a f_73b f_73c => ?_
            have sp_74 := trimmed_spec (fitL xs) ka ((fitL xs).length) kc (own 1 encU ka kc (fitL xs)) (by first | rfl | assumption | omega | (simp; done) | (simp; omega)) (rds_own encU_len (fun h => (f_73b h).1) f_73c) (by omega) (by omega)
            refine l_call rfl rfl rfl rfl rfl rfl Try.call19 (sp_74) (by (repeat ((with_reducible apply Takes.cons); focus (first | (with_reducible (repeat (first | exact Take.here | apply Take.there)); done) | (repeat (first | exact Take.here | apply Take.there))))); exact Takes.nil) ?_
            rintro ⟨⟩ -
            try simp only [List.cons_append, List.nil_append]
            refine ag_nil ?_
            refine q_len rfl rfl rfl rfl Try.underlying23 ?_
            refine q_int rfl rfl rfl rfl rfl (b_eql _ _ _ _) ?_
            refine s_eq 321 rfl (v' := .bool true) (by rw [← hLA]; simp) ?_
            refine q_pick_t rfl rfl rfl rfl rfl ?_
            refine q_assign rfl rfl rfl rfl ?_
            refine r_done ?_
            refine s_keep [6] (e' := [(6, _)]) rfl ?_
            refine k_then_n ?_
            refine c_ret ?_
            refine ret1 rfl rfl (()) (by first | rfl | (first | rfl | (congr 1; done) | (congr 1 <;> first | rfl | omega | (simp; done) | (simp; omega)))) (by trivial) ?_
            (repeat ((with_reducible apply Takes.cons); focus (first | (with_reducible (repeat (first | exact Take.here | apply Take.there)); done) | (repeat (first | exact Take.here | apply Take.there))))); (repeat (first | exact Takes.nil | exact Takes.self | refine takes_drop2 ?_))
          · skip
            try simp only [Bool.and_eq_true, Bool.or_eq_true, Bool.not_eq_true', Bool.not_eq_false', Bool.and_eq_false_iff, Bool.or_eq_false_iff, decide_eq_true_eq, decide_eq_false_iff_not] at h34
            refine c_skip ?_
            refine k_then_n ?_
            refine c_seq ?_
            refine c_plain (.q 0 (.q 1 ((.l 2 [] (.q 3 (.q 4 (.q 5 (.q 6 ((.l 7 [] (.q 8 ((.l 9 [] ((.l 10 [] (.q 11 (.q 12 (.q 13 ((.l 14 [] (.q 15 ((.l 16 [] (.q 17 (.q 18 (.q 19 (.q 20 (.done)))))))))))))))))))))))))))) (by kernel_rfl) ?_
            refine q_move rfl rfl rfl rfl ?_
            refine q_move rfl rfl rfl rfl ?_
            have sp_75 := against_spec ab bb LA LB aa ba LA.length ac LB.length bc (by first | rfl | assumption | omega | (simp; done) | (simp; omega)) (by first | rfl | assumption | omega | (simp; done) | (simp; omega)) (by assumption) (by assumption)
            refine l_call rfl rfl rfl rfl rfl rfl Try.call16 (sp_75) (by (repeat ((with_reducible apply Takes.cons); focus (first | (with_reducible (repeat (first | exact Take.here | apply Take.there)); done) | (repeat (first | exact Take.here | apply Take.there))))); exact Takes.nil) ?_
            rintro ⟨⟩ -
            try simp only [List.cons_append, List.nil_append]
            refine ag_nil ?_
            refine q_move rfl rfl rfl rfl ?_
            refine q_int rfl rfl rfl rfl rfl (b_eql _ _ _ _) ?_
            refine q_move rfl rfl rfl rfl ?_
            refine s_bool_p 308 rfl (fun hg => ?_) (fun hg => by exfalso; exact hg rfl)
            refine q_move rfl rfl rfl rfl ?_
            have sp_76 := list_spec ab LA aa LA.length ac (by first | rfl | assumption | omega | (simp; done) | (simp; omega)) (by omega)
            refine l_call rfl rfl rfl rfl rfl rfl Try.call18 (sp_76) (by (repeat ((with_reducible apply Takes.cons); focus (first | (with_reducible (repeat (first | exact Take.here | apply Take.there)); done) | (repeat (first | exact Take.here | apply Take.there))))); exact Takes.nil) ?_
            rintro ⟨qa, qc⟩ -
            try simp only [List.cons_append, List.nil_append]
            refine ag_nil ?_
            refine q_move rfl rfl rfl rfl ?_
            refine s_take (A := own 1 encU ka kc (fitL xs)) (by with_reducible (repeat (first | exact Take.here | apply Take.there))) ?_
            refine own_fc fun f_77a f_77b f_77c => ?_
            have sp_78 := trimmed_spec (fitL xs) ka ((fitL xs).length) kc (own 1 encU ka kc (fitL xs)) (by first | rfl | assumption | omega | (simp; done) | (simp; omega)) (rds_own encU_len (fun h => (f_77b h).1) f_77c) (by omega) (by omega)
            refine l_call rfl rfl rfl rfl rfl rfl Try.call19 (sp_78) (by (repeat ((with_reducible apply Takes.cons); focus (first | (with_reducible (repeat (first | exact Take.here | apply Take.there)); done) | (repeat (first | exact Take.here | apply Take.there))))); exact Takes.nil) ?_
            rintro ⟨⟩ -
            try simp only [List.cons_append, List.nil_append]
            refine ag_nil ?_
            refine s_take (A := own 1 encU qa qc LA) (by with_reducible (repeat (first | exact Take.here | apply Take.there))) ?_
            refine own_fc fun f_79a f_79b f_79c => ?_
            refine s_heap (fun _ h => Bun.fold ((by (repeat ((with_reducible apply Takes.cons); focus (first | (with_reducible (repeat (first | exact Take.here | apply Take.there)); done) | (repeat (first | exact Take.here | apply Take.there))))); exact Takes.nil : Takes _ [own 1 encU qa qc LA, own 1 encU ka kc (fitL xs)] _) _ h)) ?_
            have sp_80 := same_spec LA (tr (fitL xs)) qa ka LA.length ((tr (fitL xs)).length) qc kc (Bun [own 1 encU qa qc LA, own 1 encU ka kc (fitL xs)]) (by first | rfl | assumption | omega | (simp; done) | (simp; omega)) (rds_bun (List.mem_cons_self) (rds_own encU_len (fun h => (f_79b h).1) f_79c)) (by first | rfl | assumption | omega | (simp; done) | (simp; omega)) (rds_bun (List.mem_cons_of_mem _ (List.mem_cons_self)) ((rds_take (rds_own encU_len (fun h => (f_77b h).1) f_77c) encU_len _))) (by omega)
            refine l_call rfl rfl rfl rfl rfl rfl Try.call17 (sp_80) (by (repeat ((with_reducible apply Takes.cons); focus (first | (with_reducible (repeat (first | exact Take.here | apply Take.there)); done) | (repeat (first | exact Take.here | apply Take.there))))); exact Takes.nil) ?_
            rintro ⟨⟩ -
            try simp only [List.cons_append, List.nil_append]
            refine s_take (A := Bun [own 1 encU qa qc LA, own 1 encU ka kc (fitL xs)]) (by with_reducible (repeat (first | exact Take.here | apply Take.there))) ?_
            refine s_bun ?_
            try simp only [List.cons_append, List.nil_append]
            try simp only [List.cons_append, List.nil_append]
            refine ag_nil ?_
            refine q_pick_t rfl rfl rfl rfl rfl ?_
            refine q_move rfl rfl rfl rfl ?_
            refine s_bool_p 315 rfl (fun hg => ?_) (fun hg => by exfalso; exact hg hLA)
            refine q_move rfl rfl rfl rfl ?_
            have sp_81 := len_spec ab LA aa LA.length ac (by first | rfl | assumption | omega | (simp; done) | (simp; omega))
            refine l_call rfl rfl rfl rfl rfl rfl Try.call20 (sp_81) (by (repeat ((with_reducible apply Takes.cons); focus (first | (with_reducible (repeat (first | exact Take.here | apply Take.there)); done) | (repeat (first | exact Take.here | apply Take.there))))); exact Takes.nil) ?_
            rintro ⟨⟩ -
            try simp only [List.cons_append, List.nil_append]
            refine ag_nil ?_
            refine q_move rfl rfl rfl rfl ?_
            refine s_take (A := own 1 encU ka kc (fitL xs)) (by with_reducible (repeat (first | exact Take.here | apply Take.there))) ?_
            refine own_fc fun f_82a f_82b f_82c => ?_
            have sp_83 := trimmed_spec (fitL xs) ka ((fitL xs).length) kc (own 1 encU ka kc (fitL xs)) (by first | rfl | assumption | omega | (simp; done) | (simp; omega)) (rds_own encU_len (fun h => (f_82b h).1) f_82c) (by omega) (by omega)
            refine l_call rfl rfl rfl rfl rfl rfl Try.call19 (sp_83) (by (repeat ((with_reducible apply Takes.cons); focus (first | (with_reducible (repeat (first | exact Take.here | apply Take.there)); done) | (repeat (first | exact Take.here | apply Take.there))))); exact Takes.nil) ?_
            rintro ⟨⟩ -
            try simp only [List.cons_append, List.nil_append]
            refine ag_nil ?_
            refine q_len rfl rfl rfl rfl Try.underlying23 ?_
            refine q_int rfl rfl rfl rfl rfl (b_eql _ _ _ _) ?_
            refine s_eq 321 rfl (v' := .bool true) (by rw [← hLA]; simp) ?_
            refine q_pick_t rfl rfl rfl rfl rfl ?_
            refine q_assign rfl rfl rfl rfl ?_
            refine r_done ?_
            refine s_keep [6] (e' := [(6, _)]) rfl ?_
            refine k_then_n ?_
            refine c_ret ?_
            refine ret1 rfl rfl (()) (by first | rfl | (first | rfl | (congr 1; done) | (congr 1 <;> first | rfl | omega | (simp; done) | (simp; omega)))) (by trivial) ?_
            (repeat ((with_reducible apply Takes.cons); focus (first | (with_reducible (repeat (first | exact Take.here | apply Take.there)); done) | (repeat (first | exact Take.here | apply Take.there))))); (repeat (first | exact Takes.nil | exact Takes.self | refine takes_drop2 ?_))
end Go.Ab.Vc
