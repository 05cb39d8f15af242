/- What the law Refused rests on, part 6 of 6. -/
import Derived.Test.YtjibehgfiljbgaaRefusedE
import Derived.Test.YtjibehgfiljbgaaRows
import Derived.WalkKit
import Derived.ProofKit
import Derived.OpenShut
import Derived.JoinedCond
import Derived.Carry
set_option linter.unusedVariables false
set_option linter.unusedSimpArgs false
set_option maxRecDepth 100000
namespace Go.Ab.Fr
open Go Go.Proofs Go.Ab Go.Ab.Fe Go.Ab.Vc Go.Ab.Dj Go.Ab.Fa
theorem fe_ck {x : FS} {k t o : Int} (hv : vcanF x.v k t o) : (feF x k t o).v.ck = nxF x.v.ck k t o := by
  rw [feF, if_pos hv]; exact vn_ck
theorem rread_spec (b n m Vc Xc t v : Nat) (c0 c2 c3 c4 : Value) (cost j : Int) (Va Xa : Option Addr) (V M : List H) (X : List RVr) (h : H) (q : RVr) (w : V4F) (hn : V.length = n) (hm : X.length = m) (hh : V[t]? = some h) (hq : X[v]? = some q) (ho : OkV h.2.2) (hP : InP M h) (hrv : RelV w q) (hov : OkV q.2.2.2.2.2.1.2.2) (hPq : InP M q.2.2.2.2.2.1) (ht : t < 65535) (hc : 1 ≤ h.2.2.getD t 0) (hcost : 0 ≤ cost ∧ cost ≤ 1000000000000000) : Spec Try.prog 39 [.pointer (some ⟨b, 0, none⟩), .int .i64 ((t : Nat) : Int), .int .i64 ((v : Nat) : Int), .int .i64 j] [cells b 0 [c0, .slice Va n Vc, c2, c3, c4, .slice Xa m Xc, .int .i64 cost], own 1 encH Va Vc V, own 7 encX Xa Xc X, bigS (owA 1 encU) M] (fun (r : RVr × List H) => .tuple #[]) (fun r => RelV (rdV t (tr h.2.2) j w).1 r.1 ∧ OkV r.1.2.2.2.2.2.1.2.2 ∧ InP (M ++ r.2) r.1.2.2.2.2.2.1) (fun r => [cells b 0 [c0, .slice Va n Vc, c2, c3, c4, .slice Xa m Xc, .int .i64 (cost + (rdV t (tr h.2.2) j w).2)], own 1 encH Va Vc V, own 7 encX Xa Xc (X.set v r.1), bigS (owA 1 encU) (M ++ r.2)]) := by
  obtain ⟨wt, rt, wc, rc, sh, qh, fl⟩ := q
  cases sh with
  | true => exact rread_sh b n m Vc Xc t v c0 c2 c3 c4 cost j Va Xa V M X h qh wt rt wc rc fl w hn hm hh hq ho hP hrv hov hPq ht hc hcost
  | false => exact rread_un b n m Vc Xc t v c0 c2 c3 c4 cost j Va Xa V M X h qh wt rt wc rc fl w hn hm hh hq ho hP hrv hov hPq ht hc hcost
theorem rwrite_spec (b n m Vc Xc t v : Nat) (c0 c2 c3 c4 : Value) (cost j : Int) (Va Xa : Option Addr) (V M : List H) (X : List RVr) (h : H) (q : RVr) (w : V4F) (hn : V.length = n) (hm : X.length = m) (hh : V[t]? = some h) (hq : X[v]? = some q) (ho : OkV h.2.2) (hP : InP M h) (hrv : RelV w q) (hov : OkV q.2.2.2.2.2.1.2.2) (hPq : InP M q.2.2.2.2.2.1) (ht : t < 65535) (hc : 1 ≤ h.2.2.getD t 0) (hcost : 0 ≤ cost ∧ cost ≤ 1000000000000000) : Spec Try.prog 40 [.pointer (some ⟨b, 0, none⟩), .int .i64 ((t : Nat) : Int), .int .i64 ((v : Nat) : Int), .int .i64 j] [cells b 0 [c0, .slice Va n Vc, c2, c3, c4, .slice Xa m Xc, .int .i64 cost], own 1 encH Va Vc V, own 7 encX Xa Xc X, bigS (owA 1 encU) M] (fun (r : RVr × List H) => .tuple #[]) (fun r => RelV (wrV t (tr h.2.2) j w).1 r.1 ∧ OkV r.1.2.2.2.2.2.1.2.2 ∧ InP (M ++ r.2) r.1.2.2.2.2.2.1) (fun r => [cells b 0 [c0, .slice Va n Vc, c2, c3, c4, .slice Xa m Xc, .int .i64 (cost + (wrV t (tr h.2.2) j w).2)], own 1 encH Va Vc V, own 7 encX Xa Xc (X.set v r.1), bigS (owA 1 encU) (M ++ r.2)]) := by
  obtain ⟨wt, rt, wc, rc, sh, qh, fl⟩ := q
  cases sh with
  | true => exact rwrite_sh b n m Vc Xc t v c0 c2 c3 c4 cost j Va Xa V M X h qh wt rt wc rc fl w hn hm hh hq ho hP hrv hov hPq ht hc hcost
  | false => exact rwrite_un b n m Vc Xc t v c0 c2 c3 c4 cost j Va Xa V M X h qh wt rt wc rc fl w hn hm hh hq ho hP hrv hov hPq ht hc hcost
theorem revent_no (pa : Option Addr) (pc b : Nat) (M : List H) (x : FS) (hx : FInv x) (hn : x.v.ck.n ≤ 4000000) (pl : List Int) (hpl : x.v.ck.pa = pl) (k t o : Int) (hc : ¬ canF x.v.ck k t o) : Spec Try.prog 13 [.pointer (some ⟨b, 0, none⟩), .agg #[.int .i64 k, .int .i64 t, .int .i64 o]] [rfR pa pc b M x, own 1 encZ pa pc pl, bigS (owA 1 encU) M] (fun (M' : List H) => .int .i64 6) (fun M' => ∀ q_ ∈ M, q_ ∈ M') (fun M' => [rfR pa pc b M' x, own 1 encZ pa pc pl, bigS (owA 1 encU) M']) := by
 refine spec_mk (n := 291) Try.func13 rfl rfl rfl ?_
 intro Γ w0
 simp only [argE, List.cons_append, List.nil_append, Nat.zero_add, Nat.reduceAdd]
 refine c_seq (c_plain ((.l 0 [] (.q 1 (.done)))) (by kernel_rfl) ?_)
 refine l_box rfl rfl rfl rfl (us := [_, _, _]) rfl ?_
 intro b3
 refine ag_nil (q_assign rfl rfl rfl rfl (r_done (k_then_n (c_seq (c_seq ?_)))))
 have hcc := hx.c0
 have hlen := hx.len
 have hn0 := hx.v.ck.n0
 have hrl := hx.v.ck.sh
 refine s_take (A := rfR pa pc b M x) Tk ?_
 refine rf_open fun cb Va Vc La Lc Oa Oc Ra Rc Xa Xc r hR hP => ?_
 refine c_plain (.q 0 (.q 1 (.done))) (by kernel_rfl) ?_
 refine q_move rfl rfl rfl rfl (q_eq_nil rfl rfl rfl rfl Try.underlying31 ?_)
 refine s_eq 14 rfl (v' := .bool false) rfl ?_
 refine r_done (k_then_n (c_cond_f rfl ?_))
 refine c_skip (k_then_n (c_seq (c_seq (c_draw rfl (.q 0 (.q 1 (.q 2 (.q 3 (.q 4 ((.l 5 [] (.q 6 (.q 7 (.q 8 (.q 9 ((.l 10 [] (.q 11 (.q 12 (.q 13 (.q 14 (.q 15 (.q 16 (.q 17 (.q 18 (.q 19 (.q 20 (.q 21 ((.l 22 [] (.q 23 (.q 24 (.q 25 (.done)))))))))))))))))))))))))))))) (by kernel_rfl) ?_))))
 refine q_move rfl rfl rfl rfl (q_nil_p rfl rfl rfl rfl (q_field (k := 0) rfl rfl rfl rfl Try.underlying97 rfl Try.sizeOf91 rfl ?_))
 refine q_load_c (j := 0) rfl rfl rfl rfl Try.isAgg91 Tk Az (by rfl) ?_
 refine q_loadN_c rfl rfl rfl rfl Try.isAgg36 Try.sizeOf36 Tk 0 (us := [_, _, _]) Az rfl rfl ?_
 have sp_1 := Fe.rcan_spec pa pc cb x.v.ck hx.v.ck k t o
 refine l_call rfl rfl rfl rfl rfl rfl Try.call33 (sp_1) Ts ?_
 rintro ⟨⟩ -
 try simp only [List.cons_append, List.nil_append]
 refine ag_nil (q_not rfl rfl rfl rfl ?_)
 refine q_move rfl rfl rfl rfl ?_
 refine s_bool_np 22 rfl (fun hg => ?_) (fun hg => by exfalso; exact hc hg)
 refine q_skip rfl rfl rfl rfl (q_skip rfl rfl rfl rfl (l_skip rfl rfl rfl rfl ?_))
 refine q_skip rfl rfl rfl rfl (q_skip rfl rfl rfl rfl (q_skip rfl rfl rfl rfl (q_skip rfl rfl rfl rfl (q_skip rfl rfl rfl rfl (q_skip rfl rfl rfl rfl (q_skip rfl rfl rfl rfl (q_skip rfl rfl rfl rfl (q_skip rfl rfl rfl rfl ?_))))))))
 refine q_skip rfl rfl rfl rfl (q_skip rfl rfl rfl rfl (l_skip rfl rfl rfl rfl ?_))
 refine q_skip rfl rfl rfl rfl (q_skip rfl rfl rfl rfl (q_pick_t rfl rfl rfl rfl rfl (r_done (s_keep [0, 3, 40] (e' := [(0, _), (3, _), (40, _)]) rfl ?_))))
 refine k_then_n (c_cond_t rfl ?_)
 refine c_seq (c_plain (.q 0 (.done)) (by kernel_rfl) ?_)
 refine q_assign rfl rfl rfl rfl (r_done (k_then_n (c_ret (k_then_ret (rf_fold (b := b) (M := M) x ⟨r.V, r.L, r.O, r.R, r.X⟩ (pa := pa) (pc := pc) (cb := cb) (Va := Va) (Vc := Vc) (La := La) (Lc := Lc) (Oa := Oa) (Oc := Oc) (Ra := Ra) (Rc := Rc) (Xa := Xa) (Xc := Xc) Ts rfl (by first | rfl | simp) (by first | rfl | simp) (by first | rfl | simp) (by first | rfl | simp) (by first | rfl | simp) rfl rfl hR hP ?_)))))
 refine ret1 rfl rfl (M) (by first | rfl | (first | rfl | (congr 1; done) | (congr 1 <;> first | rfl | omega | (simp; done) | (simp; omega)))) (by exact fun _ h_ => h_) ?_
 exact Tf
theorem revent_max (pa : Option Addr) (pc b : Nat) (M : List H) (x : FS) (hx : FInv x) (hn : x.v.ck.n ≤ 4000000) (pl : List Int) (hpl : x.v.ck.pa = pl) (k : Int) (t o : Nat) (hc : canF x.v.ck k ((t : Nat) : Int) ((o : Nat) : Int)) (hv : ¬ vcanF x.v k ((t : Nat) : Int) ((o : Nat) : Int)) : Spec Try.prog 13 [.pointer (some ⟨b, 0, none⟩), .agg #[.int .i64 k, .int .i64 ((t : Nat) : Int), .int .i64 ((o : Nat) : Int)]] [rfR pa pc b M x, own 1 encZ pa pc pl, bigS (owA 1 encU) M] (fun (M' : List H) => .int .i64 6) (fun M' => ∀ q_ ∈ M, q_ ∈ M') (fun M' => [rfR pa pc b M' x, own 1 encZ pa pc pl, bigS (owA 1 encU) M']) := by
 refine spec_mk (n := 291) Try.func13 rfl rfl rfl ?_
 intro Γ w0
 simp only [argE, List.cons_append, List.nil_append, Nat.zero_add, Nat.reduceAdd]
 refine c_seq (c_plain ((.l 0 [] (.q 1 (.done)))) (by kernel_rfl) ?_)
 refine l_box rfl rfl rfl rfl (us := [_, _, _]) rfl ?_
 intro b3
 refine ag_nil (q_assign rfl rfl rfl rfl (r_done (k_then_n (c_seq (c_seq ?_)))))
 have hcc := hx.c0
 have hlen := hx.len
 have hn0 := hx.v.ck.n0
 have hrl := hx.v.ck.sh
 obtain ⟨l, hth⟩ := th_some hx.v (can_th hc)
 obtain ⟨h0_, h1_⟩ := th_rng hx.v (can_th hc)
 have hlc := hx.v.thc _ _ hth
 have hll := hlc.len
 have hvm := vmax hc hth hlc
 rw [Int.toNat_natCast] at hvm
 have hl1 := hx.own _ _ hth
 rw [Int.toNat_natCast] at hl1
 have hlg := g_rng hlc.rng (by decide) t
 have htn : t < 65535 := by omega
 refine s_take (A := rfR pa pc b M x) Tk ?_
 refine rf_open fun cb Va Vc La Lc Oa Oc Ra Rc Xa Xc r hR hP => ?_
 obtain ⟨-, hts_, -⟩ := stF_nz (can_th hc)
 rw [Int.toNat_natCast] at hts_
 have hVn := hR.Vn
 have hLn := hR.Ln
 have hOn := hR.On
 have hXn := hR.Xn
 have hRl := hR.Rl
 have hTl := hx.v.ck.tl
 have hOl := hx.v.ck.ol
 obtain ⟨h, hh⟩ := get_lt (l := r.V) (i := t) (by omega)
 obtain ⟨ho, htr⟩ := hR.V t h hh
 have htl : tr h.2.2 = l := htr.trans (thF_eq hth)
 have hgt : h.2.2.getD t 0 = l.getD t 0 := by rw [← htl, tr_g]
 have hol := ho.1
 obtain ⟨hA, hB⟩ := rel_iff.1 hR
 have hmx : l.getD t 0 = maxC ∧ relK k := Classical.byContradiction fun h9 => hv (hvm.2 fun h8 h7 => h9 ⟨h8, h7⟩)
 refine c_plain (.q 0 (.q 1 (.done))) (by kernel_rfl) ?_
 refine q_move rfl rfl rfl rfl (q_eq_nil rfl rfl rfl rfl Try.underlying31 ?_)
 refine s_eq 14 rfl (v' := .bool false) rfl ?_
 refine r_done (k_then_n (c_cond_f rfl ?_))
 refine c_skip (k_then_n (c_seq (c_seq (c_draw rfl (.q 0 (.q 1 (.q 2 (.q 3 (.q 4 ((.l 5 [] (.q 6 (.q 7 (.q 8 (.q 9 ((.l 10 [] (.q 11 (.q 12 (.q 13 (.q 14 (.q 15 (.q 16 (.q 17 (.q 18 (.q 19 (.q 20 (.q 21 ((.l 22 [] (.q 23 (.q 24 (.q 25 (.done)))))))))))))))))))))))))))))) (by kernel_rfl) ?_))))
 refine q_move rfl rfl rfl rfl (q_nil_p rfl rfl rfl rfl (q_field (k := 0) rfl rfl rfl rfl Try.underlying97 rfl Try.sizeOf91 rfl ?_))
 refine q_load_c (j := 0) rfl rfl rfl rfl Try.isAgg91 Tk Az (by rfl) ?_
 refine q_loadN_c rfl rfl rfl rfl Try.isAgg36 Try.sizeOf36 Tk 0 (us := [_, _, _]) Az rfl rfl ?_
 have sp_1 := Fe.rcan_spec pa pc cb x.v.ck hx.v.ck k ((t : Nat) : Int) ((o : Nat) : Int)
 refine l_call rfl rfl rfl rfl rfl rfl Try.call33 (sp_1) Ts ?_
 rintro ⟨⟩ -
 try simp only [List.cons_append, List.nil_append]
 refine ag_nil (q_not rfl rfl rfl rfl ?_)
 refine q_move rfl rfl rfl rfl ?_
 refine s_bool_np 22 rfl (fun hg => by exfalso; exact hg hc) (fun hg => ?_)
 refine q_field (k := 0) rfl rfl rfl rfl Try.underlying36 rfl Try.sizeOf34 rfl ?_
 refine q_load_c (j := 0) rfl rfl rfl rfl Try.isAgg34 Tk Az (by rfl) ?_
 have sp_2 := rreleases_spec k
 refine l_call rfl rfl rfl rfl rfl rfl Try.call34 (sp_2) Ts ?_
 rintro ⟨⟩ -
 try simp only [List.cons_append, List.nil_append]
 refine ag_nil (q_move rfl rfl rfl rfl ?_)
 refine s_bool_p 26 rfl (fun hg => ?_) (fun hg => by exfalso; exact hg hmx.2)
 refine q_move rfl rfl rfl rfl (q_nil_p rfl rfl rfl rfl (q_field (k := 1) rfl rfl rfl rfl Try.underlying97 rfl Try.sizeOf66 rfl ?_))
 refine q_load_c (j := 1) rfl rfl rfl rfl Try.isAgg66 Tk Az (by rfl) ?_
 refine q_field (k := 1) rfl rfl rfl rfl Try.underlying36 rfl Try.sizeOf3 rfl ?_
 refine q_load_c (j := 1) rfl rfl rfl rfl Try.isAgg3 Tk Az (by rfl) ?_
 refine q_idxO (sz := 0) (k := t) (enc := encH) (xs := r.V) rfl rfl rfl rfl rfl Try.underlying66 Try.sizeOf50 hh (by first | rfl | omega) (by omega) Tk ?_
 intro ib33 io33 ha33 hl33 hc33
 refine q_load_O (v := (.slice h.1 h.2.2.length h.2.1)) (j := 0) (k' := t) (enc := encH) (off := io33) rfl rfl rfl rfl Try.isAgg50 ha33 encH_len hh Tk (by first | rfl | exact (Nat.add_zero _).symm | omega) (by rfl) ?_
 refine q_field (k := 1) rfl rfl rfl rfl Try.underlying36 rfl Try.sizeOf3 rfl ?_
 refine q_load_c (j := 1) rfl rfl rfl rfl Try.isAgg3 Tk Az (by rfl) ?_
 have sp_3 := Fr.at_spec h.2.2 h.1 h.2.2.length h.2.1 (bigS (owA 1 encU) M) (inp_rds (hP.V _ (List.mem_of_getElem? hh))) (by first | rfl | assumption | omega | (simp; done) | (simp; omega)) (by omega) t
 refine l_call rfl rfl rfl rfl rfl rfl Try.call35 (sp_3) Ts ?_
 rintro ⟨⟩ -
 try simp only [List.cons_append, List.nil_append]
 refine ag_nil (q_int rfl rfl rfl rfl rfl (b_eql _ _ _ _) ?_)
 refine q_pick_t rfl rfl rfl rfl rfl (q_pick_f rfl rfl rfl rfl rfl (r_done (s_keep [0, 3, 40] (e' := [(0, _), (3, _), (40, _)]) rfl ?_)))
 refine k_then_n ?_
 refine c_cond_p rfl (fun hg => ?_) (fun hg => by exfalso; exact hg (hgt.trans hmx.1))
 refine c_seq (c_plain (.q 0 (.done)) (by kernel_rfl) ?_)
 refine q_assign rfl rfl rfl rfl (r_done (k_then_n (c_ret (k_then_ret (rf_fold (b := b) (M := M) x ⟨r.V, r.L, r.O, r.R, r.X⟩ (pa := pa) (pc := pc) (cb := cb) (Va := Va) (Vc := Vc) (La := La) (Lc := Lc) (Oa := Oa) (Oc := Oc) (Ra := Ra) (Rc := Rc) (Xa := Xa) (Xc := Xc) Ts rfl (by first | rfl | simp) (by first | rfl | simp) (by first | rfl | simp) (by first | rfl | simp) (by first | rfl | simp) rfl rfl hR hP ?_)))))
 refine ret1 rfl rfl (M) (by first | rfl | (first | rfl | (congr 1; done) | (congr 1 <;> first | rfl | omega | (simp; done) | (simp; omega)))) (by exact fun _ h_ => h_) ?_
 exact Tf
theorem revent_can (pa : Option Addr) (pc b : Nat) (M : List H) (x : FS) (hx : FInv x) (hn : x.v.ck.n ≤ 4000000) (pl : List Int) (hpl : x.v.ck.pa = pl) (k : Int) (t o : Nat) (hv : vcanF x.v k ((t : Nat) : Int) ((o : Nat) : Int)) : Spec Try.prog 13 [.pointer (some ⟨b, 0, none⟩), .agg #[.int .i64 k, .int .i64 ((t : Nat) : Int), .int .i64 ((o : Nat) : Int)]] [rfR pa pc b M x, own 1 encZ pa pc pl, bigS (owA 1 encU) M] (fun (M' : List H) => .int .i64 (feE x k ((t : Nat) : Int) ((o : Nat) : Int))) (fun M' => ∀ q_ ∈ M, q_ ∈ M') (fun M' => [rfR pa pc b M' (feF x k ((t : Nat) : Int) ((o : Nat) : Int)), own 1 encZ pa pc pl, bigS (owA 1 encU) M']) := by
 refine spec_mk (n := 291) Try.func13 rfl rfl rfl ?_
 intro Γ w0
 simp only [argE, List.cons_append, List.nil_append, Nat.zero_add, Nat.reduceAdd]
 refine c_seq (c_plain ((.l 0 [] (.q 1 (.done)))) (by kernel_rfl) ?_)
 refine l_box rfl rfl rfl rfl (us := [_, _, _]) rfl ?_
 intro b3
 refine ag_nil (q_assign rfl rfl rfl rfl (r_done (k_then_n (c_seq (c_seq ?_)))))
 have hc := hv.1
 have hcc := hx.c0
 have hlen := hx.len
 have hn0 := hx.v.ck.n0
 have hrl := hx.v.ck.sh
 obtain ⟨l, hth⟩ := th_some hx.v (can_th hc)
 obtain ⟨h0_, h1_⟩ := th_rng hx.v (can_th hc)
 have hlc := hx.v.thc _ _ hth
 have hll := hlc.len
 have hvm := vmax hc hth hlc
 rw [Int.toNat_natCast] at hvm
 have hl1 := hx.own _ _ hth
 rw [Int.toNat_natCast] at hl1
 have hlg := g_rng hlc.rng (by decide) t
 have htn : t < 65535 := by omega
 refine s_take (A := rfR pa pc b M x) Tk ?_
 refine rf_open fun cb Va Vc La Lc Oa Oc Ra Rc Xa Xc r hR hP => ?_
 obtain ⟨-, hts_, -⟩ := stF_nz (can_th hc)
 rw [Int.toNat_natCast] at hts_
 have hVn := hR.Vn
 have hLn := hR.Ln
 have hOn := hR.On
 have hXn := hR.Xn
 have hRl := hR.Rl
 have hTl := hx.v.ck.tl
 have hOl := hx.v.ck.ol
 obtain ⟨h, hh⟩ := get_lt (l := r.V) (i := t) (by omega)
 obtain ⟨ho, htr⟩ := hR.V t h hh
 have htl : tr h.2.2 = l := htr.trans (thF_eq hth)
 have hgt : h.2.2.getD t 0 = l.getD t 0 := by rw [← htl, tr_g]
 have hol := ho.1
 obtain ⟨hA, hB⟩ := rel_iff.1 hR
 refine c_plain (.q 0 (.q 1 (.done))) (by kernel_rfl) ?_
 refine q_move rfl rfl rfl rfl (q_eq_nil rfl rfl rfl rfl Try.underlying31 ?_)
 refine s_eq 14 rfl (v' := .bool false) rfl ?_
 refine r_done (k_then_n (c_cond_f rfl ?_))
 refine c_skip (k_then_n (c_seq ?_))
 refine c_seqJ (α := Unit) (fun (z_ : Unit) => True) (fun (z_ : Unit) => [(40, .bool false)]) (fun (z_ : Unit) => []) [0, 3] (er := [(0, _), (3, _)]) rfl [] Ts ?_ ?_
 ·
  refine c_draw rfl (.q 0 (.q 1 (.q 2 (.q 3 (.q 4 ((.l 5 [] (.q 6 (.q 7 (.q 8 (.q 9 ((.l 10 [] (.q 11 (.q 12 (.q 13 (.q 14 (.q 15 (.q 16 (.q 17 (.q 18 (.q 19 (.q 20 (.q 21 ((.l 22 [] (.q 23 (.q 24 (.q 25 (.done)))))))))))))))))))))))))))))) (by kernel_rfl) ?_
  refine q_move rfl rfl rfl rfl (q_nil_p rfl rfl rfl rfl (q_field (k := 0) rfl rfl rfl rfl Try.underlying97 rfl Try.sizeOf91 rfl ?_))
  refine q_load_c (j := 0) rfl rfl rfl rfl Try.isAgg91 Tk Az (by rfl) ?_
  refine q_loadN_c rfl rfl rfl rfl Try.isAgg36 Try.sizeOf36 Tk 0 (us := [_, _, _]) Az rfl rfl ?_
  have sp_1 := Fe.rcan_spec pa pc cb x.v.ck hx.v.ck k ((t : Nat) : Int) ((o : Nat) : Int)
  refine l_call rfl rfl rfl rfl rfl rfl Try.call33 (sp_1) Ts ?_
  rintro ⟨⟩ -
  try simp only [List.cons_append, List.nil_append]
  refine ag_nil (q_not rfl rfl rfl rfl ?_)
  refine q_move rfl rfl rfl rfl ?_
  refine s_bool_np 22 rfl (fun hg => by exfalso; exact hg hc) (fun hg => ?_)
  refine q_field (k := 0) rfl rfl rfl rfl Try.underlying36 rfl Try.sizeOf34 rfl ?_
  refine q_load_c (j := 0) rfl rfl rfl rfl Try.isAgg34 Tk Az (by rfl) ?_
  have sp_2 := rreleases_spec k
  refine l_call rfl rfl rfl rfl rfl rfl Try.call34 (sp_2) Ts ?_
  rintro ⟨⟩ -
  try simp only [List.cons_append, List.nil_append]
  refine ag_nil (q_move rfl rfl rfl rfl ?_)
  refine s_bool_p 26 rfl (fun hrel => ?_) (fun hrel => ?_)
  ·
   refine q_move rfl rfl rfl rfl (q_nil_p rfl rfl rfl rfl (q_field (k := 1) rfl rfl rfl rfl Try.underlying97 rfl Try.sizeOf66 rfl ?_))
   refine q_load_c (j := 1) rfl rfl rfl rfl Try.isAgg66 Tk Az (by rfl) ?_
   refine q_field (k := 1) rfl rfl rfl rfl Try.underlying36 rfl Try.sizeOf3 rfl ?_
   refine q_load_c (j := 1) rfl rfl rfl rfl Try.isAgg3 Tk Az (by rfl) ?_
   refine q_idxO (sz := 0) (k := t) (enc := encH) (xs := r.V) rfl rfl rfl rfl rfl Try.underlying66 Try.sizeOf50 hh (by first | rfl | omega) (by omega) Tk ?_
   intro ib33 io33 ha33 hl33 hc33
   refine q_load_O (v := (.slice h.1 h.2.2.length h.2.1)) (j := 0) (k' := t) (enc := encH) (off := io33) rfl rfl rfl rfl Try.isAgg50 ha33 encH_len hh Tk (by first | rfl | exact (Nat.add_zero _).symm | omega) (by rfl) ?_
   refine q_field (k := 1) rfl rfl rfl rfl Try.underlying36 rfl Try.sizeOf3 rfl ?_
   refine q_load_c (j := 1) rfl rfl rfl rfl Try.isAgg3 Tk Az (by rfl) ?_
   have sp_3 := Fr.at_spec h.2.2 h.1 h.2.2.length h.2.1 (bigS (owA 1 encU) M) (inp_rds (hP.V _ (List.mem_of_getElem? hh))) (by first | rfl | assumption | omega | (simp; done) | (simp; omega)) (by omega) t
   refine l_call rfl rfl rfl rfl rfl rfl Try.call35 (sp_3) Ts ?_
   rintro ⟨⟩ -
   try simp only [List.cons_append, List.nil_append]
   refine ag_nil (q_int rfl rfl rfl rfl rfl (b_eql _ _ _ _) ?_)
   refine q_pick_t rfl rfl rfl rfl rfl (q_pick_f rfl rfl rfl rfl rfl (r_done (s_keep [0, 3, 40] (e' := [(0, _), (3, _), (40, _)]) rfl ?_)))
   refine k_then_n (s_eq 40 rfl (v' := .bool false) (by first | rfl | (rw [decide_eq_false (fun h9 => hvm.1 hv (by rw [← hgt]; exact h9) hrel)])) ?_)
   refine join_next (()) (by trivial) (by exact ⟨rfl, rfl, rfl, trivial⟩) (by (try simp only [List.cons_append, List.nil_append]); (repeat ((with_reducible apply Z2); focus (first | (with_reducible (repeat (first | exact Z0 | apply Z1)); done) | (repeat (first | exact Z0 | apply Z1))))); (repeat (first | exact Z3 | exact Takes.self | refine takes_drop2 ?_)))
  refine q_skip rfl rfl rfl rfl (q_skip rfl rfl rfl rfl (q_skip rfl rfl rfl rfl (q_skip rfl rfl rfl rfl (q_skip rfl rfl rfl rfl (q_skip rfl rfl rfl rfl (q_skip rfl rfl rfl rfl (q_skip rfl rfl rfl rfl (q_skip rfl rfl rfl rfl ?_))))))))
  refine q_skip rfl rfl rfl rfl (l_skip rfl rfl rfl rfl ?_)
  refine q_skip rfl rfl rfl rfl (q_pick_f rfl rfl rfl rfl rfl (q_pick_f rfl rfl rfl rfl rfl (r_done (s_keep [0, 3, 40] (e' := [(0, _), (3, _), (40, _)]) rfl ?_))))
  refine k_then_n ?_
  refine join_next (()) (by trivial) (by exact ⟨rfl, rfl, rfl, trivial⟩) (by (try simp only [List.cons_append, List.nil_append]); (repeat ((with_reducible apply Z2); focus (first | (with_reducible (repeat (first | exact Z0 | apply Z1)); done) | (repeat (first | exact Z0 | apply Z1))))); (repeat (first | exact Z3 | exact Takes.self | refine takes_drop2 ?_)))
 rintro ⟨⟩ -
 try simp only [List.cons_append, List.nil_append]
 refine c_cond_f rfl ?_
 refine c_skip (k_then_n (c_seq (c_plain (.q 0 (.q 1 (.q 2 (.done)))) (by kernel_rfl) ?_)))
 refine q_field (k := 1) rfl rfl rfl rfl Try.underlying36 rfl Try.sizeOf3 rfl ?_
 refine q_load_c (j := 1) rfl rfl rfl rfl Try.isAgg3 Tk Az (by rfl) ?_
 refine q_assign rfl rfl rfl rfl (r_done (k_then_n (c_seq (c_plain (.q 0 (.q 1 (.q 2 (.q 3 (.q 4 ((.l 5 [] (.q 6 (.q 7 (.q 8 ((.l 9 [] ((.l 10 [] (.q 11 (.done)))))))))))))))) (by kernel_rfl) ?_))))
 refine q_move rfl rfl rfl rfl (q_nil_p rfl rfl rfl rfl (q_field (k := 0) rfl rfl rfl rfl Try.underlying97 rfl Try.sizeOf91 rfl ?_))
 refine q_load_c (j := 0) rfl rfl rfl rfl Try.isAgg91 Tk Az (by rfl) ?_
 refine q_move rfl rfl rfl rfl ?_
 have sp_4 := Fe.rstand_spec pa pc cb x.v.ck hx.v.ck ((t : Nat) : Int)
 refine l_call rfl rfl rfl rfl rfl rfl Try.call36 (sp_4) Ts ?_
 rintro ⟨⟩ -
 try simp only [List.cons_append, List.nil_append]
 refine ag_nil (q_move rfl rfl rfl rfl (q_extract rfl rfl rfl rfl rfl (q_extract rfl rfl rfl rfl rfl (l_alloc rfl rfl rfl Try.zeroValue107 (zs := [.int .i64 0, .int .i64 0, .int .i64 0]) rfl ?_))))
 intro b6
 refine ag_nil (l_store (j := 0) rfl rfl rfl rfl Try.sizeOf107 (us := [_, _, _]) rfl rfl rfl Tk Az (by first | decide | (simp; done) | omega) ?_)
 simp only [setL, List.set]
 refine ag_nil (q_assign rfl rfl rfl rfl (r_done (s_keep [0, 3, 5, 6] (e' := [(0, _), (3, _), (5, _), (6, _)]) rfl ?_)))
 refine k_then_n (c_seq (c_plain (.q 0 (.q 1 (.q 2 (.q 3 ((.l 4 [] (.q 5 (.done)))))))) (by kernel_rfl) ?_))
 refine q_move rfl rfl rfl rfl (q_nil_p rfl rfl rfl rfl (q_field (k := 0) rfl rfl rfl rfl Try.underlying97 rfl Try.sizeOf91 rfl ?_))
 refine q_load_c (j := 0) rfl rfl rfl rfl Try.isAgg91 Tk Az (by rfl) ?_
 have sp_5 := Fe.rlen_spec pa pc cb x.v.ck
 refine l_call rfl rfl rfl rfl rfl rfl Try.call37 (sp_5) Ts ?_
 rintro ⟨⟩ -
 try simp only [List.cons_append, List.nil_append]
 refine ag_nil (q_assign rfl rfl rfl rfl (r_done (s_keep [0, 3, 5, 6, 8] (e' := [(0, _), (3, _), (5, _), (6, _), (8, _)]) rfl ?_)))
 refine k_then_n (c_seq (c_draw rfl (.q 0 (.q 1 (.q 2 (.q 3 (.q 4 ((.l 5 [] (.done)))))))) (by kernel_rfl) ?_))
 refine q_move rfl rfl rfl rfl (q_nil_p rfl rfl rfl rfl (q_field (k := 0) rfl rfl rfl rfl Try.underlying97 rfl Try.sizeOf91 rfl ?_))
 refine q_load_c (j := 0) rfl rfl rfl rfl Try.isAgg91 Tk Az (by rfl) ?_
 refine q_loadN_c rfl rfl rfl rfl Try.isAgg36 Try.sizeOf36 Tk 0 (us := [_, _, _]) Az rfl rfl ?_
 have sp_6 := Fe.rnext_spec pa pc cb x.v.ck hx.v.ck (by omega) pl (hpl) k ((t : Nat) : Int) ((o : Nat) : Int)
 refine l_call rfl rfl rfl rfl rfl rfl Try.call38 (sp_6) Ts ?_
 rintro ⟨⟩ -
 try simp only [List.cons_append, List.nil_append]
 refine ag_nil (r_done (s_keep [0, 3, 5, 6, 8] (e' := [(0, _), (3, _), (5, _), (6, _), (8, _)]) rfl ?_))
 refine k_then_n (c_seq (c_seq (c_plain (.q 0 (.q 1 (.done))) (by kernel_rfl) ?_)))
 refine q_field (k := 0) rfl rfl rfl rfl Try.underlying36 rfl Try.sizeOf34 rfl ?_
 refine q_load_c (j := 0) rfl rfl rfl rfl Try.isAgg34 Tk Az (by rfl) ?_
 refine r_done (k_then_n (c_block (c_seq (c_plain (.q 0 (.q 1 (.done))) (by kernel_rfl) ?_))))
 refine q_int rfl rfl rfl rfl rfl (b_eql _ _ _ _) ?_
 refine q_assign rfl rfl rfl rfl (r_done (k_then_n ?_))
 refine c_cond_p rfl (fun k1 => ?_) (fun k1 => ?_)
 ·
  obtain ⟨p0, p1⟩ := acc_obj hc (by omega)
  obtain ⟨w, hw⟩ := get_lt (l := x.vs) (i := o) (by omega)
  obtain ⟨q, hq⟩ := get_lt (l := r.X) (i := o) (by omega)
  obtain ⟨hrv, hov⟩ := hR.X o w q hw hq
  refine c_plain (.q 0 (.q 1 (.q 2 (.q 3 (.q 4 ((.l 5 [] (.done)))))))) (by kernel_rfl) ?_
  refine q_move rfl rfl rfl rfl (q_move rfl rfl rfl rfl (q_field (k := 2) rfl rfl rfl rfl Try.underlying36 rfl Try.sizeOf3 rfl ?_))
  refine q_load_c (j := 2) rfl rfl rfl rfl Try.isAgg3 Tk Az (by rfl) ?_
  refine q_move rfl rfl rfl rfl ?_
  have sp_7 := rread_spec b r.V.length r.X.length Vc Xc t o (.pointer (some ⟨cb, 0, none⟩)) (.slice La r.L.length Lc) (.slice Oa r.O.length Oc) (.slice Ra r.R.length Rc) x.cost x.v.ck.n Va Xa r.V M r.X h q w rfl rfl hh hq ho (hP.V _ (List.mem_of_getElem? hh)) hrv hov (hP.X _ (List.mem_of_getElem? hq)) htn (by omega) (by omega)
  refine l_call rfl rfl rfl rfl rfl rfl Try.call39 (sp_7) Ts ?_
  rintro ⟨q2, N⟩ ⟨hq1, hq2, hq3⟩
  try simp only [List.cons_append, List.nil_append]
  refine ag_nil (r_done (s_keep [0, 3, 5] (e' := [(0, _), (3, _), (5, _)]) rfl ?_))
  refine k_blk_n (k_then_n (c_seq (c_seq (c_plain (.q 0 (.q 1 ((.l 2 [] (.done))))) (by kernel_rfl) ?_))))
  refine q_field (k := 0) rfl rfl rfl rfl Try.underlying36 rfl Try.sizeOf34 rfl ?_
  refine q_load_c (j := 0) rfl rfl rfl rfl Try.isAgg34 Tk Az (by rfl) ?_
  have sp_8 := rreleases_spec k
  refine l_call rfl rfl rfl rfl rfl rfl Try.call34 (sp_8) Ts ?_
  rintro ⟨⟩ -
  try simp only [List.cons_append, List.nil_append]
  refine ag_nil (r_done (k_then_n ?_))
  refine c_cond_p rfl (fun hg => by exfalso; unfold relK at hg; omega) (fun hg => ?_)
  refine c_skip (k_then_n (c_seq (c_plain (.q 0 (.done)) (by kernel_rfl) ?_)))
  refine q_assign rfl rfl rfl rfl (r_done (s_keep [4] (e' := [(4, _)]) rfl ?_))
  refine k_then_n (c_ret ?_)
  have hF : (feF x k ((t : Nat) : Int) ((o : Nat) : Int)) = ⟨⟨nxF x.v.ck k ((t : Nat) : Int) ((o : Nat) : Int), x.v.th, x.v.lk, x.v.vo, x.v.rd⟩, x.vs.set o (rdV t (tr h.2.2) x.v.ck.n w).1, x.cost + (rdV t (tr h.2.2) x.v.ck.n w).2⟩ := (by rw [htl, fe_rd hv k1 (by rw [Int.toNat_natCast]; exact hw) hth, vn0 (by omega) (by omega) (by omega) (by omega) (by omega) (by omega) (by omega) (by omega), Int.toNat_natCast, Int.toNat_natCast])
  refine rf_fold (b := b) (M := (M ++ N)) (feF x k ((t : Nat) : Int) ((o : Nat) : Int)) ⟨r.V, r.L, r.O, r.R, (r.X.set o q2)⟩ (pa := pa) (pc := pc) (cb := cb) (Va := Va) (Vc := Vc) (La := La) (Lc := Lc) (Oa := Oa) (Oc := Oc) (Ra := Ra) (Rc := Rc) (Xa := Xa) (Xc := Xc) Ts rfl (by first | rfl | simp) (by first | rfl | simp) (by first | rfl | simp) (by first | rfl | simp) (by first | rfl | simp) (fe_ck hv).symm (by rw [hF]) (by rw [hF]; exact rel_iff.2 ⟨(relA_X (relA_next hA _ _ _) hq1 hq2), relR_keep hB hx.v.ck hc (by omega)⟩) (pool_X (poolA_app hP) hq3) ?_
  refine ret1 rfl rfl ((M ++ N)) (by rw [feE, if_pos hv]) (by exact fun q_ h_ => List.mem_append_left _ h_) ?_
  exact Tf
 refine c_seq (c_plain (.q 0 (.q 1 (.done))) (by kernel_rfl) ?_)
 refine q_int rfl rfl rfl rfl rfl (b_eql _ _ _ _) ?_
 refine q_assign rfl rfl rfl rfl (r_done (s_keep [0, 3, 5, 6, 8, 64, 73] (e' := [(0, _), (3, _), (5, _), (6, _), (8, _), (64, _), (73, _)]) rfl ?_))
 refine k_then_n ?_
 refine c_cond_p rfl (fun k2 => ?_) (fun k2 => ?_)
 ·
  obtain ⟨p0, p1⟩ := acc_obj hc (by omega)
  obtain ⟨w, hw⟩ := get_lt (l := x.vs) (i := o) (by omega)
  obtain ⟨q, hq⟩ := get_lt (l := r.X) (i := o) (by omega)
  obtain ⟨hrv, hov⟩ := hR.X o w q hw hq
  refine c_plain (.q 0 (.q 1 (.q 2 (.q 3 (.q 4 ((.l 5 [] (.done)))))))) (by kernel_rfl) ?_
  refine q_move rfl rfl rfl rfl (q_move rfl rfl rfl rfl (q_field (k := 2) rfl rfl rfl rfl Try.underlying36 rfl Try.sizeOf3 rfl ?_))
  refine q_load_c (j := 2) rfl rfl rfl rfl Try.isAgg3 Tk Az (by rfl) ?_
  refine q_move rfl rfl rfl rfl ?_
  have sp_9 := rwrite_spec b r.V.length r.X.length Vc Xc t o (.pointer (some ⟨cb, 0, none⟩)) (.slice La r.L.length Lc) (.slice Oa r.O.length Oc) (.slice Ra r.R.length Rc) x.cost x.v.ck.n Va Xa r.V M r.X h q w rfl rfl hh hq ho (hP.V _ (List.mem_of_getElem? hh)) hrv hov (hP.X _ (List.mem_of_getElem? hq)) htn (by omega) (by omega)
  refine l_call rfl rfl rfl rfl rfl rfl Try.call40 (sp_9) Ts ?_
  rintro ⟨q2, N⟩ ⟨hq1, hq2, hq3⟩
  try simp only [List.cons_append, List.nil_append]
  refine ag_nil (r_done (s_keep [0, 3, 5] (e' := [(0, _), (3, _), (5, _)]) rfl ?_))
  refine k_blk_n (k_then_n (c_seq (c_seq (c_plain (.q 0 (.q 1 ((.l 2 [] (.done))))) (by kernel_rfl) ?_))))
  refine q_field (k := 0) rfl rfl rfl rfl Try.underlying36 rfl Try.sizeOf34 rfl ?_
  refine q_load_c (j := 0) rfl rfl rfl rfl Try.isAgg34 Tk Az (by rfl) ?_
  have sp_10 := rreleases_spec k
  refine l_call rfl rfl rfl rfl rfl rfl Try.call34 (sp_10) Ts ?_
  rintro ⟨⟩ -
  try simp only [List.cons_append, List.nil_append]
  refine ag_nil (r_done (k_then_n ?_))
  refine c_cond_p rfl (fun hg => by exfalso; unfold relK at hg; omega) (fun hg => ?_)
  refine c_skip (k_then_n (c_seq (c_plain (.q 0 (.done)) (by kernel_rfl) ?_)))
  refine q_assign rfl rfl rfl rfl (r_done (s_keep [4] (e' := [(4, _)]) rfl ?_))
  refine k_then_n (c_ret ?_)
  have hF : (feF x k ((t : Nat) : Int) ((o : Nat) : Int)) = ⟨⟨nxF x.v.ck k ((t : Nat) : Int) ((o : Nat) : Int), x.v.th, x.v.lk, x.v.vo, x.v.rd⟩, x.vs.set o (wrV t (tr h.2.2) x.v.ck.n w).1, x.cost + (wrV t (tr h.2.2) x.v.ck.n w).2⟩ := (by rw [htl, fe_wr hv k2 (by rw [Int.toNat_natCast]; exact hw) hth, vn0 (by omega) (by omega) (by omega) (by omega) (by omega) (by omega) (by omega) (by omega), Int.toNat_natCast, Int.toNat_natCast])
  refine rf_fold (b := b) (M := (M ++ N)) (feF x k ((t : Nat) : Int) ((o : Nat) : Int)) ⟨r.V, r.L, r.O, r.R, (r.X.set o q2)⟩ (pa := pa) (pc := pc) (cb := cb) (Va := Va) (Vc := Vc) (La := La) (Lc := Lc) (Oa := Oa) (Oc := Oc) (Ra := Ra) (Rc := Rc) (Xa := Xa) (Xc := Xc) Ts rfl (by first | rfl | simp) (by first | rfl | simp) (by first | rfl | simp) (by first | rfl | simp) (by first | rfl | simp) (fe_ck hv).symm (by rw [hF]) (by rw [hF]; exact rel_iff.2 ⟨(relA_X (relA_next hA _ _ _) hq1 hq2), relR_keep hB hx.v.ck hc (by omega)⟩) (pool_X (poolA_app hP) hq3) ?_
  refine ret1 rfl rfl ((M ++ N)) (by rw [feE, if_pos hv]) (by exact fun q_ h_ => List.mem_append_left _ h_) ?_
  exact Tf
 refine c_seq (c_plain (.q 0 (.q 1 (.done))) (by kernel_rfl) ?_)
 refine q_int rfl rfl rfl rfl rfl (b_eql _ _ _ _) ?_
 refine q_assign rfl rfl rfl rfl (r_done (k_then_n ?_))
 refine c_cond_p rfl (fun k5 => ?_) (fun k5 => ?_)
 ·
  obtain ⟨o5, o7, o9, o10, o11⟩ := can_obj hx.v.ck hc
  have hsh := hx.v.ck.sh
  rw [Int.toNat_natCast] at o5 o7 o9
  obtain ⟨g, hg_⟩ := get_lt (l := r.L) (i := o) (by omega)
  obtain ⟨hgo, hgt2⟩ := hR.L o g hg_
  have hgl := hgo.1
  refine c_draw rfl (.q 0 (.q 1 (.q 2 (.q 3 (.q 4 (.q 5 (.q 6 (.q 7 (.q 8 (.q 9 (.q 10 (.q 11 (.q 12 (.q 13 (.q 14 (.q 15 (.q 16 (.q 17 (.q 18 (.q 19 ((.l 20 [3] (.q 21 ((.l 22 [] (.done)))))))))))))))))))))))))) (by kernel_rfl) ?_
  refine q_move rfl rfl rfl rfl (q_nil_p rfl rfl rfl rfl (q_field (k := 1) rfl rfl rfl rfl Try.underlying97 rfl Try.sizeOf66 rfl ?_))
  refine q_load_c (j := 1) rfl rfl rfl rfl Try.isAgg66 Tk Az (by rfl) ?_
  refine q_move rfl rfl rfl rfl (q_move rfl rfl rfl rfl (q_nil_p rfl rfl rfl rfl (q_field (k := 1) rfl rfl rfl rfl Try.underlying97 rfl Try.sizeOf66 rfl ?_)))
  refine q_load_c (j := 1) rfl rfl rfl rfl Try.isAgg66 Tk Az (by rfl) ?_
  refine q_move rfl rfl rfl rfl (q_idxO (sz := 0) (k := t) (enc := encH) (xs := r.V) rfl rfl rfl rfl rfl Try.underlying66 Try.sizeOf50 hh (by first | rfl | omega) (by omega) Tk ?_)
  intro ib93 io93 ha93 hl93 hc93
  refine q_load_O (v := (.slice h.1 h.2.2.length h.2.1)) (j := 0) (k' := t) (enc := encH) (off := io93) rfl rfl rfl rfl Try.isAgg50 ha93 encH_len hh Tk (by first | rfl | exact (Nat.add_zero _).symm | omega) (by rfl) ?_
  refine q_move rfl rfl rfl rfl (q_nil_p rfl rfl rfl rfl (q_field (k := 2) rfl rfl rfl rfl Try.underlying97 rfl Try.sizeOf66 rfl ?_))
  refine q_load_c (j := 2) rfl rfl rfl rfl Try.isAgg66 Tk Az (by rfl) ?_
  refine q_field (k := 2) rfl rfl rfl rfl Try.underlying36 rfl Try.sizeOf3 rfl ?_
  refine q_load_c (j := 2) rfl rfl rfl rfl Try.isAgg3 Tk Az (by rfl) ?_
  refine q_idxO (sz := 0) (k := o) (enc := encH) (xs := r.L) rfl rfl rfl rfl rfl Try.underlying66 Try.sizeOf50 hg_ (by first | rfl | omega) (by omega) Tk ?_
  intro ib101 io101 ha101 hl101 hc101
  refine q_load_O (v := (.slice g.1 g.2.2.length g.2.1)) (j := 0) (k' := o) (enc := encH) (off := io101) rfl rfl rfl rfl Try.isAgg50 ha101 encH_len hg_ Tk (by first | rfl | exact (Nat.add_zero _).symm | omega) (by rfl) ?_
  have sp_11 := Fr.joined_spec h.2.2 g.2.2 h.1 g.1 h.2.2.length g.2.2.length h.2.1 g.2.1 (bigS (owA 1 encU) M) (inp_rds (hP.V _ (List.mem_of_getElem? hh))) (inp_rds (hP.L _ (List.mem_of_getElem? hg_))) (by first | rfl | assumption | omega | (simp; done) | (simp; omega)) (by first | rfl | assumption | omega | (simp; done) | (simp; omega)) (by omega) (by omega)
  refine l_call rfl rfl rfl rfl rfl rfl Try.call41 (sp_11) Ts ?_
  rintro ⟨qa, qc⟩ -
  try simp only [List.cons_append, List.nil_append]
  refine s_pool (ao := qa) (cap := qc) (l := (jndL h.2.2 g.2.2)) (M := M) Ts fun hpq => ?_
  try simp only [List.cons_append, List.nil_append]
  refine ag_load_c (q := 1) rfl rfl rfl Try.isAgg66 Tk Az (by rfl) ?_
  refine ag_nil (q_idxO (sz := 0) (k := t) (enc := encH) (xs := r.V) rfl rfl rfl rfl rfl Try.underlying66 Try.sizeOf50 hh (by first | rfl | omega) (by omega) Tk ?_)
  intro ib104 io104 ha104 hl104 hc104
  refine l_store_O (j := 0) (k := t) (q := ((qa, qc, (jndL h.2.2 g.2.2)) : H)) (enc := encH) (off := io104) rfl rfl rfl rfl Try.sizeOf50 (us := [_]) rfl rfl rfl ha104 encH_len hh Tk (by first | rfl | exact (Nat.add_zero _).symm | omega) (by first | decide | exact Nat.le_of_ble_eq_true rfl) (by rfl) ?_
  refine ag_nil (r_done (s_keep [0, 3, 5] (e' := [(0, _), (3, _), (5, _)]) rfl ?_))
  refine k_blk_n (k_then_n (c_seq (c_seq (c_plain (.q 0 (.q 1 ((.l 2 [] (.done))))) (by kernel_rfl) ?_))))
  refine q_field (k := 0) rfl rfl rfl rfl Try.underlying36 rfl Try.sizeOf34 rfl ?_
  refine q_load_c (j := 0) rfl rfl rfl rfl Try.isAgg34 Tk Az (by rfl) ?_
  have sp_12 := rreleases_spec k
  refine l_call rfl rfl rfl rfl rfl rfl Try.call34 (sp_12) Ts ?_
  rintro ⟨⟩ -
  try simp only [List.cons_append, List.nil_append]
  refine ag_nil (r_done (k_then_n ?_))
  refine c_cond_p rfl (fun hg => by exfalso; unfold relK at hg; omega) (fun hg => ?_)
  refine c_skip (k_then_n (c_seq (c_plain (.q 0 (.done)) (by kernel_rfl) ?_)))
  refine q_assign rfl rfl rfl rfl (r_done (s_keep [4] (e' := [(4, _)]) rfl ?_))
  refine k_then_n (c_ret ?_)
  have hF : (feF x k ((t : Nat) : Int) ((o : Nat) : Int)) = ⟨⟨nxF x.v.ck k ((t : Nat) : Int) ((o : Nat) : Int), (upd x.v.th ((t : Nat) : Int) (some (mgF (x.v.lk ((o : Nat) : Int)) l))), x.v.lk, x.v.vo, x.v.rd⟩, x.vs, x.cost⟩ := (by rw [fe_no hv (by omega) (by omega), vn5 hth k5])
  refine rf_fold (b := b) (M := (M ++ [(qa, qc, (jndL h.2.2 g.2.2))])) (feF x k ((t : Nat) : Int) ((o : Nat) : Int)) ⟨(r.V.set t ((qa, qc, (jndL h.2.2 g.2.2)) : H)), r.L, r.O, r.R, r.X⟩ (pa := pa) (pc := pc) (cb := cb) (Va := Va) (Vc := Vc) (La := La) (Lc := Lc) (Oa := Oa) (Oc := Oc) (Ra := Ra) (Rc := Rc) (Xa := Xa) (Xc := Xc) Ts rfl (by first | rfl | simp) (by first | rfl | simp) (by first | rfl | simp) (by first | rfl | simp) (by first | rfl | simp) (fe_ck hv).symm (by rw [hF]) (by rw [hF]; exact rel_iff.2 ⟨(relA_V (relA_next hA _ _ _) (ok_jnd ho hgo) (by rw [tr_jnd ho hgo, htl, hgt2]; exact jn_mg hlc (hx.v.lkc _))), relR_keep hB hx.v.ck hc (by omega)⟩) (pool_V (poolA_app hP) hpq) ?_
  refine ret1 rfl rfl ((M ++ [(qa, qc, (jndL h.2.2 g.2.2))])) (by rw [feE, if_pos hv]) (by exact fun q_ h_ => List.mem_append_left _ h_) ?_
  exact Tf
 refine c_seq (c_plain (.q 0 (.q 1 (.done))) (by kernel_rfl) ?_)
 refine q_int rfl rfl rfl rfl rfl (b_eql _ _ _ _) ?_
 refine q_assign rfl rfl rfl rfl (r_done (s_keep [0, 3, 5, 6, 64, 105] (e' := [(0, _), (3, _), (5, _), (6, _), (64, _), (105, _)]) rfl ?_))
 refine k_then_n ?_
 refine c_cond_p rfl (fun k6 => ?_) (fun k6 => ?_)
 ·
  obtain ⟨o5, o7, o9, o10, o11⟩ := can_obj hx.v.ck hc
  have hsh := hx.v.ck.sh
  rw [Int.toNat_natCast] at o5 o7 o9
  have hlt : l.getD t 0 < maxC := by
    have h9 := hv.2 (by unfold relK; omega)
    rw [thF_eq hth, Int.toNat_natCast] at h9; exact h9
  obtain ⟨g, hg_⟩ := get_lt (l := r.L) (i := o) (by omega)
  obtain ⟨hgo, hgt2⟩ := hR.L o g hg_
  have hgl := hgo.1
  refine c_draw rfl (.q 0 (.q 1 (.q 2 (.q 3 (.q 4 (.q 5 (.q 6 (.q 7 (.q 8 (.q 9 (.q 10 (.q 11 (.q 12 ((.l 13 [3, 5] (.q 14 ((.l 15 [] (.done))))))))))))))))))) (by kernel_rfl) ?_
  refine q_move rfl rfl rfl rfl (q_nil_p rfl rfl rfl rfl (q_field (k := 2) rfl rfl rfl rfl Try.underlying97 rfl Try.sizeOf66 rfl ?_))
  refine q_load_c (j := 2) rfl rfl rfl rfl Try.isAgg66 Tk Az (by rfl) ?_
  refine q_field (k := 2) rfl rfl rfl rfl Try.underlying36 rfl Try.sizeOf3 rfl ?_
  refine q_load_c (j := 2) rfl rfl rfl rfl Try.isAgg3 Tk Az (by rfl) ?_
  refine q_move rfl rfl rfl rfl (q_nil_p rfl rfl rfl rfl (q_field (k := 1) rfl rfl rfl rfl Try.underlying97 rfl Try.sizeOf66 rfl ?_))
  refine q_load_c (j := 1) rfl rfl rfl rfl Try.isAgg66 Tk Az (by rfl) ?_
  refine q_move rfl rfl rfl rfl (q_idxO (sz := 0) (k := t) (enc := encH) (xs := r.V) rfl rfl rfl rfl rfl Try.underlying66 Try.sizeOf50 hh (by first | rfl | omega) (by omega) Tk ?_)
  intro ib118 io118 ha118 hl118 hc118
  refine q_load_O (v := (.slice h.1 h.2.2.length h.2.1)) (j := 0) (k' := t) (enc := encH) (off := io118) rfl rfl rfl rfl Try.isAgg50 ha118 encH_len hh Tk (by first | rfl | exact (Nat.add_zero _).symm | omega) (by rfl) ?_
  have sp_13 := Fr.joined_spec h.2.2 ([]) h.1 none h.2.2.length 0 h.2.1 0 (bigS (owA 1 encU) M) (inp_rds (hP.V _ (List.mem_of_getElem? hh))) (.inl rfl) (by first | rfl | assumption | omega | (simp; done) | (simp; omega)) (by first | rfl | assumption | omega | (simp; done) | (simp; omega)) (by omega) (by omega)
  refine l_call rfl rfl rfl rfl rfl rfl Try.call41 (sp_13) Ts ?_
  rintro ⟨qa, qc⟩ -
  try simp only [List.cons_append, List.nil_append]
  refine s_pool (ao := qa) (cap := qc) (l := (jndL h.2.2 ([]))) (M := M) Ts fun hpq => ?_
  try simp only [List.cons_append, List.nil_append]
  refine ag_load_c (q := 2) rfl rfl rfl Try.isAgg66 Tk Az (by rfl) ?_
  refine ag_load_c (q := 2) rfl rfl rfl Try.isAgg3 Tk Az (by rfl) ?_
  refine ag_nil (q_idxO (sz := 0) (k := o) (enc := encH) (xs := r.L) rfl rfl rfl rfl rfl Try.underlying66 Try.sizeOf50 hg_ (by first | rfl | omega) (by omega) Tk ?_)
  intro ib121 io121 ha121 hl121 hc121
  refine l_store_O (j := 0) (k := o) (q := ((qa, qc, (jndL h.2.2 ([]))) : H)) (enc := encH) (off := io121) rfl rfl rfl rfl Try.sizeOf50 (us := [_]) rfl rfl rfl ha121 encH_len hg_ Tk (by first | rfl | exact (Nat.add_zero _).symm | omega) (by first | decide | exact Nat.le_of_ble_eq_true rfl) (by rfl) ?_
  refine ag_nil (r_done (s_keep [0, 3, 5] (e' := [(0, _), (3, _), (5, _)]) rfl ?_))
  refine k_blk_n (k_then_n (c_seq (c_seq (c_plain (.q 0 (.q 1 ((.l 2 [] (.done))))) (by kernel_rfl) ?_))))
  refine q_field (k := 0) rfl rfl rfl rfl Try.underlying36 rfl Try.sizeOf34 rfl ?_
  refine q_load_c (j := 0) rfl rfl rfl rfl Try.isAgg34 Tk Az (by rfl) ?_
  have sp_14 := rreleases_spec k
  refine l_call rfl rfl rfl rfl rfl rfl Try.call34 (sp_14) Ts ?_
  rintro ⟨⟩ -
  try simp only [List.cons_append, List.nil_append]
  refine ag_nil (r_done (k_then_n ?_))
  refine c_cond_p rfl (fun hg => ?_) (fun hg => by exfalso; exact hg (by unfold relK; omega))
  refine c_plain (.q 0 (.q 1 ((.l 2 [] (.done))))) (by kernel_rfl) ?_
  refine q_move rfl rfl rfl rfl (q_move rfl rfl rfl rfl ?_)
  have sp_15 := more_spec b r.V.length Vc t (.pointer (some ⟨cb, 0, none⟩)) (.slice La r.L.length Lc) (.slice Oa r.O.length Oc) (.slice Ra r.R.length Rc) (.slice Xa r.X.length Xc) (.int .i64 x.cost) Va r.V (M ++ [(qa, qc, (jndL h.2.2 ([])))]) h (by simp) hh ho (inp_add (hP.V _ (List.mem_of_getElem? hh))) htn (by rw [hgt]; exact hlt)
  refine l_call rfl rfl rfl rfl rfl rfl Try.call44 (sp_15) Ts ?_
  rintro ⟨wa, wc⟩ hpw
  try simp only [List.cons_append, List.nil_append]
  refine ag_nil (r_done (s_keep [] (e' := []) rfl ?_))
  refine k_then_n (c_seq (c_plain (.q 0 (.done)) (by kernel_rfl) ?_))
  refine q_assign rfl rfl rfl rfl (r_done (k_then_n (c_ret ?_)))
  have hF : (feF x k ((t : Nat) : Int) ((o : Nat) : Int)) = ⟨⟨nxF x.v.ck k ((t : Nat) : Int) ((o : Nat) : Int), (upd x.v.th ((t : Nat) : Int) (some (icL l t))), (upd x.v.lk ((o : Nat) : Int) (some l)), x.v.vo, x.v.rd⟩, x.vs, x.cost⟩ := (by rw [fe_no hv (by omega) (by omega), vn6 hth k6]; (try simp only [Int.toNat_natCast]))
  refine rf_fold (b := b) (M := ((M ++ [(qa, qc, (jndL h.2.2 ([])))]) ++ [(wa, wc, (withL h.2.2 t (h.2.2.getD t 0 + 1)))])) (feF x k ((t : Nat) : Int) ((o : Nat) : Int)) ⟨(r.V.set t (wa, wc, (withL h.2.2 t (h.2.2.getD t 0 + 1)))), (r.L.set o ((qa, qc, (jndL h.2.2 ([]))) : H)), r.O, r.R, r.X⟩ (pa := pa) (pc := pc) (cb := cb) (Va := Va) (Vc := Vc) (La := La) (Lc := Lc) (Oa := Oa) (Oc := Oc) (Ra := Ra) (Rc := Rc) (Xa := Xa) (Xc := Xc) Ts rfl (by first | rfl | simp) (by first | rfl | simp) (by first | rfl | simp) (by first | rfl | simp) (by first | rfl | simp) (fe_ck hv).symm (by rw [hF]) (by rw [hF]; exact rel_iff.2 ⟨(relA_V (relA_L (relA_next hA _ _ _) (ok_jnd ho ok_nil) (by rw [tr_jnd ho ok_nil, htl]; exact jn_mg (m := none) hlc (fun _ h_ => (by cases h_)))) (ok_with ho htn (by omega) (by rw [hgt]; omega)) (by rw [tr_more ho htn (by rw [hgt]; exact hlt), htl])), relR_keep hB hx.v.ck hc (by omega)⟩) (pool_V (poolA_app (pool_L (poolA_app hP) hpq)) hpw) ?_
  refine ret1 rfl rfl (((M ++ [(qa, qc, (jndL h.2.2 ([])))]) ++ [(wa, wc, (withL h.2.2 t (h.2.2.getD t 0 + 1)))])) (by rw [feE, if_pos hv]) (by exact fun q_ h_ => List.mem_append_left _ (List.mem_append_left _ h_)) ?_
  exact Tf
 refine c_seq (c_plain (.q 0 (.q 1 (.done))) (by kernel_rfl) ?_)
 refine q_int rfl rfl rfl rfl rfl (b_eql _ _ _ _) ?_
 refine q_assign rfl rfl rfl rfl (r_done (k_then_n ?_))
 refine c_cond_p rfl (fun k3 => ?_) (fun k3 => ?_)
 ·
  obtain ⟨o5, o7, o9, o10, o11⟩ := can_obj hx.v.ck hc
  have hsh := hx.v.ck.sh
  rw [Int.toNat_natCast] at o5 o7 o9
  have hor : 0 ≤ (o : Int) ∧ okK x.v.ck k ((t : Nat) : Int) ((o : Nat) : Int) := by
    rcases hc with ⟨-, q_, -⟩ | ⟨-, q_⟩
    · omega
    · exact q_
  unfold okK at hor
  obtain ⟨g, hg_⟩ := get_lt (l := r.O) (i := o) (by omega)
  obtain ⟨hgo, hgt2⟩ := hR.O o g hg_
  have hgl := hgo.1
  refine c_draw rfl (.q 0 (.q 1 (.q 2 (.q 3 (.q 4 (.q 5 (.q 6 (.q 7 (.q 8 (.q 9 (.q 10 (.q 11 (.q 12 (.q 13 (.q 14 (.q 15 (.q 16 (.q 17 (.q 18 (.q 19 ((.l 20 [3] (.q 21 ((.l 22 [] (.done)))))))))))))))))))))))))) (by kernel_rfl) ?_
  refine q_move rfl rfl rfl rfl (q_nil_p rfl rfl rfl rfl (q_field (k := 1) rfl rfl rfl rfl Try.underlying97 rfl Try.sizeOf66 rfl ?_))
  refine q_load_c (j := 1) rfl rfl rfl rfl Try.isAgg66 Tk Az (by rfl) ?_
  refine q_move rfl rfl rfl rfl (q_move rfl rfl rfl rfl (q_nil_p rfl rfl rfl rfl (q_field (k := 1) rfl rfl rfl rfl Try.underlying97 rfl Try.sizeOf66 rfl ?_)))
  refine q_load_c (j := 1) rfl rfl rfl rfl Try.isAgg66 Tk Az (by rfl) ?_
  refine q_move rfl rfl rfl rfl (q_idxO (sz := 0) (k := t) (enc := encH) (xs := r.V) rfl rfl rfl rfl rfl Try.underlying66 Try.sizeOf50 hh (by first | rfl | omega) (by omega) Tk ?_)
  intro ib134 io134 ha134 hl134 hc134
  refine q_load_O (v := (.slice h.1 h.2.2.length h.2.1)) (j := 0) (k' := t) (enc := encH) (off := io134) rfl rfl rfl rfl Try.isAgg50 ha134 encH_len hh Tk (by first | rfl | exact (Nat.add_zero _).symm | omega) (by rfl) ?_
  refine q_move rfl rfl rfl rfl (q_nil_p rfl rfl rfl rfl (q_field (k := 3) rfl rfl rfl rfl Try.underlying97 rfl Try.sizeOf66 rfl ?_))
  refine q_load_c (j := 3) rfl rfl rfl rfl Try.isAgg66 Tk Az (by rfl) ?_
  refine q_field (k := 2) rfl rfl rfl rfl Try.underlying36 rfl Try.sizeOf3 rfl ?_
  refine q_load_c (j := 2) rfl rfl rfl rfl Try.isAgg3 Tk Az (by rfl) ?_
  refine q_idxO (sz := 0) (k := o) (enc := encH) (xs := r.O) rfl rfl rfl rfl rfl Try.underlying66 Try.sizeOf50 hg_ (by first | rfl | omega) (by omega) Tk ?_
  intro ib142 io142 ha142 hl142 hc142
  refine q_load_O (v := (.slice g.1 g.2.2.length g.2.1)) (j := 0) (k' := o) (enc := encH) (off := io142) rfl rfl rfl rfl Try.isAgg50 ha142 encH_len hg_ Tk (by first | rfl | exact (Nat.add_zero _).symm | omega) (by rfl) ?_
  have sp_16 := Fr.joined_spec h.2.2 g.2.2 h.1 g.1 h.2.2.length g.2.2.length h.2.1 g.2.1 (bigS (owA 1 encU) M) (inp_rds (hP.V _ (List.mem_of_getElem? hh))) (inp_rds (hP.O _ (List.mem_of_getElem? hg_))) (by first | rfl | assumption | omega | (simp; done) | (simp; omega)) (by first | rfl | assumption | omega | (simp; done) | (simp; omega)) (by omega) (by omega)
  refine l_call rfl rfl rfl rfl rfl rfl Try.call41 (sp_16) Ts ?_
  rintro ⟨qa, qc⟩ -
  try simp only [List.cons_append, List.nil_append]
  refine s_pool (ao := qa) (cap := qc) (l := (jndL h.2.2 g.2.2)) (M := M) Ts fun hpq => ?_
  try simp only [List.cons_append, List.nil_append]
  refine ag_load_c (q := 1) rfl rfl rfl Try.isAgg66 Tk Az (by rfl) ?_
  refine ag_nil (q_idxO (sz := 0) (k := t) (enc := encH) (xs := r.V) rfl rfl rfl rfl rfl Try.underlying66 Try.sizeOf50 hh (by first | rfl | omega) (by omega) Tk ?_)
  intro ib145 io145 ha145 hl145 hc145
  refine l_store_O (j := 0) (k := t) (q := ((qa, qc, (jndL h.2.2 g.2.2)) : H)) (enc := encH) (off := io145) rfl rfl rfl rfl Try.sizeOf50 (us := [_]) rfl rfl rfl ha145 encH_len hh Tk (by first | rfl | exact (Nat.add_zero _).symm | omega) (by first | decide | exact Nat.le_of_ble_eq_true rfl) (by rfl) ?_
  refine ag_nil (r_done (s_keep [0, 3, 5] (e' := [(0, _), (3, _), (5, _)]) rfl ?_))
  refine k_blk_n (k_then_n (c_seq (c_seq (c_plain (.q 0 (.q 1 ((.l 2 [] (.done))))) (by kernel_rfl) ?_))))
  refine q_field (k := 0) rfl rfl rfl rfl Try.underlying36 rfl Try.sizeOf34 rfl ?_
  refine q_load_c (j := 0) rfl rfl rfl rfl Try.isAgg34 Tk Az (by rfl) ?_
  have sp_17 := rreleases_spec k
  refine l_call rfl rfl rfl rfl rfl rfl Try.call34 (sp_17) Ts ?_
  rintro ⟨⟩ -
  try simp only [List.cons_append, List.nil_append]
  refine ag_nil (r_done (k_then_n ?_))
  refine c_cond_p rfl (fun hg => by exfalso; unfold relK at hg; omega) (fun hg => ?_)
  refine c_skip (k_then_n (c_seq (c_plain (.q 0 (.done)) (by kernel_rfl) ?_)))
  refine q_assign rfl rfl rfl rfl (r_done (s_keep [4] (e' := [(4, _)]) rfl ?_))
  refine k_then_n (c_ret ?_)
  have hF : (feF x k ((t : Nat) : Int) ((o : Nat) : Int)) = ⟨⟨nxF x.v.ck k ((t : Nat) : Int) ((o : Nat) : Int), (upd x.v.th ((t : Nat) : Int) (some (mgF (x.v.vo ((o : Nat) : Int)) l))), x.v.lk, x.v.vo, x.v.rd⟩, x.vs, x.cost⟩ := (by rw [fe_no hv (by omega) (by omega), vn3 hth k3])
  refine rf_fold (b := b) (M := (M ++ [(qa, qc, (jndL h.2.2 g.2.2))])) (feF x k ((t : Nat) : Int) ((o : Nat) : Int)) ⟨(r.V.set t ((qa, qc, (jndL h.2.2 g.2.2)) : H)), r.L, r.O, r.R, r.X⟩ (pa := pa) (pc := pc) (cb := cb) (Va := Va) (Vc := Vc) (La := La) (Lc := Lc) (Oa := Oa) (Oc := Oc) (Ra := Ra) (Rc := Rc) (Xa := Xa) (Xc := Xc) Ts rfl (by first | rfl | simp) (by first | rfl | simp) (by first | rfl | simp) (by first | rfl | simp) (by first | rfl | simp) (fe_ck hv).symm (by rw [hF]) (by rw [hF]; exact rel_iff.2 ⟨(relA_V (relA_next hA _ _ _) (ok_jnd ho hgo) (by rw [tr_jnd ho hgo, htl, hgt2]; exact jn_mg hlc (hx.v.voc _))), relR_keep hB hx.v.ck hc (by omega)⟩) (pool_V (poolA_app hP) hpq) ?_
  refine ret1 rfl rfl ((M ++ [(qa, qc, (jndL h.2.2 g.2.2))])) (by rw [feE, if_pos hv]) (by exact fun q_ h_ => List.mem_append_left _ h_) ?_
  exact Tf
 refine c_seq (c_plain (.q 0 (.q 1 (.done))) (by kernel_rfl) ?_)
 refine q_int rfl rfl rfl rfl rfl (b_eql _ _ _ _) ?_
 refine q_assign rfl rfl rfl rfl (r_done (s_keep [0, 3, 5, 6, 64, 146] (e' := [(0, _), (3, _), (5, _), (6, _), (64, _), (146, _)]) rfl ?_))
 refine k_then_n ?_
 refine c_cond_p rfl (fun k4 => ?_) (fun k4 => ?_)
 ·
  obtain ⟨o5, o7, o9, o10, o11⟩ := can_obj hx.v.ck hc
  have hsh := hx.v.ck.sh
  rw [Int.toNat_natCast] at o5 o7 o9
  have hor : 0 ≤ (o : Int) ∧ okK x.v.ck k ((t : Nat) : Int) ((o : Nat) : Int) := by
    rcases hc with ⟨-, q_, -⟩ | ⟨-, q_⟩
    · omega
    · exact q_
  unfold okK at hor
  have hlt : l.getD t 0 < maxC := by
    have h9 := hv.2 (by unfold relK; omega)
    rw [thF_eq hth, Int.toNat_natCast] at h9; exact h9
  obtain ⟨g, hg_⟩ := get_lt (l := r.O) (i := o) (by omega)
  obtain ⟨hgo, hgt2⟩ := hR.O o g hg_
  have hgl := hgo.1
  refine c_draw rfl (.q 0 (.q 1 (.q 2 (.q 3 (.q 4 (.q 5 (.q 6 (.q 7 (.q 8 (.q 9 (.q 10 (.q 11 (.q 12 (.q 13 (.q 14 (.q 15 (.q 16 (.q 17 (.q 18 (.q 19 (.q 20 ((.l 21 [3, 5] (.q 22 ((.l 23 [] (.done))))))))))))))))))))))))))) (by kernel_rfl) ?_
  refine q_move rfl rfl rfl rfl (q_nil_p rfl rfl rfl rfl (q_field (k := 3) rfl rfl rfl rfl Try.underlying97 rfl Try.sizeOf66 rfl ?_))
  refine q_load_c (j := 3) rfl rfl rfl rfl Try.isAgg66 Tk Az (by rfl) ?_
  refine q_field (k := 2) rfl rfl rfl rfl Try.underlying36 rfl Try.sizeOf3 rfl ?_
  refine q_load_c (j := 2) rfl rfl rfl rfl Try.isAgg3 Tk Az (by rfl) ?_
  refine q_move rfl rfl rfl rfl (q_nil_p rfl rfl rfl rfl (q_field (k := 3) rfl rfl rfl rfl Try.underlying97 rfl Try.sizeOf66 rfl ?_))
  refine q_load_c (j := 3) rfl rfl rfl rfl Try.isAgg66 Tk Az (by rfl) ?_
  refine q_field (k := 2) rfl rfl rfl rfl Try.underlying36 rfl Try.sizeOf3 rfl ?_
  refine q_load_c (j := 2) rfl rfl rfl rfl Try.isAgg3 Tk Az (by rfl) ?_
  refine q_idxO (sz := 0) (k := o) (enc := encH) (xs := r.O) rfl rfl rfl rfl rfl Try.underlying66 Try.sizeOf50 hg_ (by first | rfl | omega) (by omega) Tk ?_
  intro ib160 io160 ha160 hl160 hc160
  refine q_load_O (v := (.slice g.1 g.2.2.length g.2.1)) (j := 0) (k' := o) (enc := encH) (off := io160) rfl rfl rfl rfl Try.isAgg50 ha160 encH_len hg_ Tk (by first | rfl | exact (Nat.add_zero _).symm | omega) (by rfl) ?_
  refine q_move rfl rfl rfl rfl (q_nil_p rfl rfl rfl rfl (q_field (k := 1) rfl rfl rfl rfl Try.underlying97 rfl Try.sizeOf66 rfl ?_))
  refine q_load_c (j := 1) rfl rfl rfl rfl Try.isAgg66 Tk Az (by rfl) ?_
  refine q_move rfl rfl rfl rfl (q_idxO (sz := 0) (k := t) (enc := encH) (xs := r.V) rfl rfl rfl rfl rfl Try.underlying66 Try.sizeOf50 hh (by first | rfl | omega) (by omega) Tk ?_)
  intro ib167 io167 ha167 hl167 hc167
  refine q_load_O (v := (.slice h.1 h.2.2.length h.2.1)) (j := 0) (k' := t) (enc := encH) (off := io167) rfl rfl rfl rfl Try.isAgg50 ha167 encH_len hh Tk (by first | rfl | exact (Nat.add_zero _).symm | omega) (by rfl) ?_
  have sp_18 := Fr.joined_spec g.2.2 h.2.2 g.1 h.1 g.2.2.length h.2.2.length g.2.1 h.2.1 (bigS (owA 1 encU) M) (inp_rds (hP.O _ (List.mem_of_getElem? hg_))) (inp_rds (hP.V _ (List.mem_of_getElem? hh))) (by first | rfl | assumption | omega | (simp; done) | (simp; omega)) (by first | rfl | assumption | omega | (simp; done) | (simp; omega)) (by omega) (by omega)
  refine l_call rfl rfl rfl rfl rfl rfl Try.call41 (sp_18) Ts ?_
  rintro ⟨qa, qc⟩ -
  try simp only [List.cons_append, List.nil_append]
  refine s_pool (ao := qa) (cap := qc) (l := (jndL g.2.2 h.2.2)) (M := M) Ts fun hpq => ?_
  try simp only [List.cons_append, List.nil_append]
  refine ag_load_c (q := 3) rfl rfl rfl Try.isAgg66 Tk Az (by rfl) ?_
  refine ag_load_c (q := 2) rfl rfl rfl Try.isAgg3 Tk Az (by rfl) ?_
  refine ag_nil (q_idxO (sz := 0) (k := o) (enc := encH) (xs := r.O) rfl rfl rfl rfl rfl Try.underlying66 Try.sizeOf50 hg_ (by first | rfl | omega) (by omega) Tk ?_)
  intro ib170 io170 ha170 hl170 hc170
  refine l_store_O (j := 0) (k := o) (q := ((qa, qc, (jndL g.2.2 h.2.2)) : H)) (enc := encH) (off := io170) rfl rfl rfl rfl Try.sizeOf50 (us := [_]) rfl rfl rfl ha170 encH_len hg_ Tk (by first | rfl | exact (Nat.add_zero _).symm | omega) (by first | decide | exact Nat.le_of_ble_eq_true rfl) (by rfl) ?_
  refine ag_nil (r_done (s_keep [0, 3, 5] (e' := [(0, _), (3, _), (5, _)]) rfl ?_))
  refine k_blk_n (k_then_n (c_seq (c_seq (c_plain (.q 0 (.q 1 ((.l 2 [] (.done))))) (by kernel_rfl) ?_))))
  refine q_field (k := 0) rfl rfl rfl rfl Try.underlying36 rfl Try.sizeOf34 rfl ?_
  refine q_load_c (j := 0) rfl rfl rfl rfl Try.isAgg34 Tk Az (by rfl) ?_
  have sp_19 := rreleases_spec k
  refine l_call rfl rfl rfl rfl rfl rfl Try.call34 (sp_19) Ts ?_
  rintro ⟨⟩ -
  try simp only [List.cons_append, List.nil_append]
  refine ag_nil (r_done (k_then_n ?_))
  refine c_cond_p rfl (fun hg => ?_) (fun hg => by exfalso; exact hg (by unfold relK; omega))
  refine c_plain (.q 0 (.q 1 ((.l 2 [] (.done))))) (by kernel_rfl) ?_
  refine q_move rfl rfl rfl rfl (q_move rfl rfl rfl rfl ?_)
  have sp_20 := more_spec b r.V.length Vc t (.pointer (some ⟨cb, 0, none⟩)) (.slice La r.L.length Lc) (.slice Oa r.O.length Oc) (.slice Ra r.R.length Rc) (.slice Xa r.X.length Xc) (.int .i64 x.cost) Va r.V (M ++ [(qa, qc, (jndL g.2.2 h.2.2))]) h (by simp) hh ho (inp_add (hP.V _ (List.mem_of_getElem? hh))) htn (by rw [hgt]; exact hlt)
  refine l_call rfl rfl rfl rfl rfl rfl Try.call44 (sp_20) Ts ?_
  rintro ⟨wa, wc⟩ hpw
  try simp only [List.cons_append, List.nil_append]
  refine ag_nil (r_done (s_keep [] (e' := []) rfl ?_))
  refine k_then_n (c_seq (c_plain (.q 0 (.done)) (by kernel_rfl) ?_))
  refine q_assign rfl rfl rfl rfl (r_done (k_then_n (c_ret ?_)))
  have hF : (feF x k ((t : Nat) : Int) ((o : Nat) : Int)) = ⟨⟨nxF x.v.ck k ((t : Nat) : Int) ((o : Nat) : Int), (upd x.v.th ((t : Nat) : Int) (some (icL l t))), x.v.lk, (upd x.v.vo ((o : Nat) : Int) (some (mgF (x.v.vo ((o : Nat) : Int)) l))), x.v.rd⟩, x.vs, x.cost⟩ := (by rw [fe_no hv (by omega) (by omega), vn4 hth k4]; (try simp only [Int.toNat_natCast]))
  refine rf_fold (b := b) (M := ((M ++ [(qa, qc, (jndL g.2.2 h.2.2))]) ++ [(wa, wc, (withL h.2.2 t (h.2.2.getD t 0 + 1)))])) (feF x k ((t : Nat) : Int) ((o : Nat) : Int)) ⟨(r.V.set t (wa, wc, (withL h.2.2 t (h.2.2.getD t 0 + 1)))), r.L, (r.O.set o ((qa, qc, (jndL g.2.2 h.2.2)) : H)), r.R, r.X⟩ (pa := pa) (pc := pc) (cb := cb) (Va := Va) (Vc := Vc) (La := La) (Lc := Lc) (Oa := Oa) (Oc := Oc) (Ra := Ra) (Rc := Rc) (Xa := Xa) (Xc := Xc) Ts rfl (by first | rfl | simp) (by first | rfl | simp) (by first | rfl | simp) (by first | rfl | simp) (by first | rfl | simp) (fe_ck hv).symm (by rw [hF]) (by rw [hF]; exact rel_iff.2 ⟨(relA_V (relA_O (relA_next hA _ _ _) (ok_jnd hgo ho) (by rw [tr_jnd hgo ho, htl, hgt2]; exact mg_jn hlc (hx.v.voc _))) (ok_with ho htn (by omega) (by rw [hgt]; omega)) (by rw [tr_more ho htn (by rw [hgt]; exact hlt), htl])), relR_keep hB hx.v.ck hc (by omega)⟩) (pool_V (poolA_app (pool_O (poolA_app hP) hpq)) hpw) ?_
  refine ret1 rfl rfl (((M ++ [(qa, qc, (jndL g.2.2 h.2.2))]) ++ [(wa, wc, (withL h.2.2 t (h.2.2.getD t 0 + 1)))])) (by rw [feE, if_pos hv]) (by exact fun q_ h_ => List.mem_append_left _ (List.mem_append_left _ h_)) ?_
  exact Tf
 refine c_seq (c_plain (.q 0 (.q 1 (.done))) (by kernel_rfl) ?_)
 refine q_int rfl rfl rfl rfl rfl (b_eql _ _ _ _) ?_
 refine q_assign rfl rfl rfl rfl (r_done (k_then_n ?_))
 refine c_cond_p rfl (fun k7 => ?_) (fun k7 => ?_)
 ·
  obtain ⟨o5, o7, o9, o10, o11⟩ := can_obj hx.v.ck hc
  have hsh := hx.v.ck.sh
  rw [Int.toNat_natCast] at o5 o7 o9
  have hlt : l.getD t 0 < maxC := by
    have h9 := hv.2 (by unfold relK; omega)
    rw [thF_eq hth, Int.toNat_natCast] at h9; exact h9
  obtain ⟨g, hg_⟩ := get_lt (l := r.V) (i := o) (by omega)
  obtain ⟨hgo, hgt2⟩ := hR.V o g hg_
  have hgl := hgo.1
  obtain ⟨p0, p1, p2⟩ := o7 k7
  have hon : o < 65535 := by have := hsh.th; omega
  have hot : o ≠ t := by intro e; rw [e] at p2; exact can_th hc p2
  have hyl := (ok_jnd ho ok_nil).1
  refine c_draw rfl (.q 0 (.q 1 (.q 2 (.q 3 (.q 4 (.q 5 (.q 6 (.q 7 (.q 8 (.q 9 (.q 10 (.q 11 (.q 12 (.q 14 (.q 15 ((.l 13 [3, 5, 15] ((.l 16 [3, 5] (.q 17 ((.l 18 [] (.done))))))))))))))))))))))) (by kernel_rfl) ?_
  refine q_move rfl rfl rfl rfl (q_nil_p rfl rfl rfl rfl (q_field (k := 1) rfl rfl rfl rfl Try.underlying97 rfl Try.sizeOf66 rfl ?_))
  refine q_load_c (j := 1) rfl rfl rfl rfl Try.isAgg66 Tk Az (by rfl) ?_
  refine q_field (k := 2) rfl rfl rfl rfl Try.underlying36 rfl Try.sizeOf3 rfl ?_
  refine q_load_c (j := 2) rfl rfl rfl rfl Try.isAgg3 Tk Az (by rfl) ?_
  refine q_move rfl rfl rfl rfl (q_nil_p rfl rfl rfl rfl (q_field (k := 1) rfl rfl rfl rfl Try.underlying97 rfl Try.sizeOf66 rfl ?_))
  refine q_load_c (j := 1) rfl rfl rfl rfl Try.isAgg66 Tk Az (by rfl) ?_
  refine q_move rfl rfl rfl rfl (q_idxO (sz := 0) (k := t) (enc := encH) (xs := r.V) rfl rfl rfl rfl rfl Try.underlying66 Try.sizeOf50 hh (by first | rfl | omega) (by omega) Tk ?_)
  intro ib184 io184 ha184 hl184 hc184
  refine q_load_O (v := (.slice h.1 h.2.2.length h.2.1)) (j := 0) (k' := t) (enc := encH) (off := io184) rfl rfl rfl rfl Try.isAgg50 ha184 encH_len hh Tk (by first | rfl | exact (Nat.add_zero _).symm | omega) (by rfl) ?_
  refine q_field (k := 2) rfl rfl rfl rfl Try.underlying36 rfl Try.sizeOf3 rfl ?_
  refine q_load_c (j := 2) rfl rfl rfl rfl Try.isAgg3 Tk Az (by rfl) ?_
  have sp_21 := Fr.joined_spec h.2.2 ([]) h.1 none h.2.2.length 0 h.2.1 0 (bigS (owA 1 encU) M) (inp_rds (hP.V _ (List.mem_of_getElem? hh))) (.inl rfl) (by first | rfl | assumption | omega | (simp; done) | (simp; omega)) (by first | rfl | assumption | omega | (simp; done) | (simp; omega)) (by omega) (by omega)
  refine l_call rfl rfl rfl rfl rfl rfl Try.call41 (sp_21) Ts ?_
  rintro ⟨ya, yc⟩ -
  try simp only [List.cons_append, List.nil_append]
  refine ag_load_c (q := 1) rfl rfl rfl Try.isAgg66 Tk Az (by rfl) ?_
  refine ag_load_c (q := 2) rfl rfl rfl Try.isAgg3 Tk Az (by rfl) ?_
  refine ag_load_c (q := 2) rfl rfl rfl Try.isAgg3 Tk Az (by rfl) ?_
  refine ag_nil (s_take (A := own 1 encU ya yc (jndL h.2.2 ([]))) Tk ?_)
  refine own_fc fun f_22a f_22b f_22c => ?_
  have sp_23 := Fr.with_spec (jndL h.2.2 ([])) ya ((jndL h.2.2 ([])).length) yc (own 1 encU ya yc (jndL h.2.2 ([]))) (rds_own encU_len (fun h => (f_22b h).1) f_22c) (by first | rfl | assumption | omega | (simp; done) | (simp; omega)) (by omega) o 1 (by omega)
  refine l_call rfl rfl rfl rfl rfl rfl Try.call42 (sp_23) Ts ?_
  rintro ⟨qa, qc⟩ -
  try simp only [List.cons_append, List.nil_append]
  refine s_pool (ao := qa) (cap := qc) (l := (withL (jndL h.2.2 ([])) o 1)) (M := M) Ts fun hpq => ?_
  try simp only [List.cons_append, List.nil_append]
  refine ag_load_c (q := 1) rfl rfl rfl Try.isAgg66 Tk Az (by rfl) ?_
  refine ag_load_c (q := 2) rfl rfl rfl Try.isAgg3 Tk Az (by rfl) ?_
  refine ag_nil (q_idxO (sz := 0) (k := o) (enc := encH) (xs := r.V) rfl rfl rfl rfl rfl Try.underlying66 Try.sizeOf50 hg_ (by first | rfl | omega) (by omega) Tk ?_)
  intro ib190 io190 ha190 hl190 hc190
  refine l_store_O (j := 0) (k := o) (q := ((qa, qc, (withL (jndL h.2.2 ([])) o 1)) : H)) (enc := encH) (off := io190) rfl rfl rfl rfl Try.sizeOf50 (us := [_]) rfl rfl rfl ha190 encH_len hg_ Tk (by first | rfl | exact (Nat.add_zero _).symm | omega) (by first | decide | exact Nat.le_of_ble_eq_true rfl) (by rfl) ?_
  refine ag_nil (r_done (s_keep [0, 3, 5] (e' := [(0, _), (3, _), (5, _)]) rfl ?_))
  refine k_blk_n (k_then_n (c_seq (c_seq (c_plain (.q 0 (.q 1 ((.l 2 [] (.done))))) (by kernel_rfl) ?_))))
  refine q_field (k := 0) rfl rfl rfl rfl Try.underlying36 rfl Try.sizeOf34 rfl ?_
  refine q_load_c (j := 0) rfl rfl rfl rfl Try.isAgg34 Tk Az (by rfl) ?_
  have sp_24 := rreleases_spec k
  refine l_call rfl rfl rfl rfl rfl rfl Try.call34 (sp_24) Ts ?_
  rintro ⟨⟩ -
  try simp only [List.cons_append, List.nil_append]
  refine ag_nil (r_done (k_then_n ?_))
  refine c_cond_p rfl (fun hg => ?_) (fun hg => by exfalso; exact hg (by unfold relK; omega))
  refine c_plain (.q 0 (.q 1 ((.l 2 [] (.done))))) (by kernel_rfl) ?_
  refine q_move rfl rfl rfl rfl (q_move rfl rfl rfl rfl ?_)
  have sp_25 := more_spec b r.V.length Vc t (.pointer (some ⟨cb, 0, none⟩)) (.slice La r.L.length Lc) (.slice Oa r.O.length Oc) (.slice Ra r.R.length Rc) (.slice Xa r.X.length Xc) (.int .i64 x.cost) Va (r.V.set o ((qa, qc, (withL (jndL h.2.2 ([])) o 1)) : H)) (M ++ [(qa, qc, (withL (jndL h.2.2 ([])) o 1))]) h (by simp) (by rw [List.getElem?_set_ne hot]; exact hh) ho (inp_add (hP.V _ (List.mem_of_getElem? hh))) htn (by rw [hgt]; exact hlt)
  refine l_call rfl rfl rfl rfl rfl rfl Try.call44 (sp_25) Ts ?_
  rintro ⟨wa, wc⟩ hpw
  try simp only [List.cons_append, List.nil_append]
  refine ag_nil (r_done (s_keep [] (e' := []) rfl ?_))
  refine k_then_n (c_seq (c_plain (.q 0 (.done)) (by kernel_rfl) ?_))
  refine q_assign rfl rfl rfl rfl (r_done (k_then_n (c_ret ?_)))
  have hF : (feF x k ((t : Nat) : Int) ((o : Nat) : Int)) = ⟨⟨nxF x.v.ck k ((t : Nat) : Int) ((o : Nat) : Int), (upd (upd x.v.th ((o : Nat) : Int) (some (stL l o 1))) ((t : Nat) : Int) (some (icL l t))), x.v.lk, x.v.vo, x.v.rd⟩, x.vs, x.cost⟩ := (by rw [fe_no hv (by omega) (by omega), vn7 hth k7]; (try simp only [Int.toNat_natCast]))
  refine rf_fold (b := b) (M := ((M ++ [(qa, qc, (withL (jndL h.2.2 ([])) o 1))]) ++ [(wa, wc, (withL h.2.2 t (h.2.2.getD t 0 + 1)))])) (feF x k ((t : Nat) : Int) ((o : Nat) : Int)) ⟨((r.V.set o ((qa, qc, (withL (jndL h.2.2 ([])) o 1)) : H)).set t (wa, wc, (withL h.2.2 t (h.2.2.getD t 0 + 1)))), r.L, r.O, r.R, r.X⟩ (pa := pa) (pc := pc) (cb := cb) (Va := Va) (Vc := Vc) (La := La) (Lc := Lc) (Oa := Oa) (Oc := Oc) (Ra := Ra) (Rc := Rc) (Xa := Xa) (Xc := Xc) Ts rfl (by first | rfl | simp) (by first | rfl | simp) (by first | rfl | simp) (by first | rfl | simp) (by first | rfl | simp) (fe_ck hv).symm (by rw [hF]) (by rw [hF]; exact rel_iff.2 ⟨(relA_V (relA_V (relA_next hA _ _ _) (ok_with (ok_jnd ho ok_nil) hon (by decide) (by decide)) (by rw [tr_with (ok_jnd ho ok_nil) hon (by decide) (by decide)]; exact congrArg (fun q_ => stL q_ o 1) (by rw [tr_jnd ho ok_nil, htl]; exact jn_mg (m := none) hlc (fun _ h_ => (by cases h_))))) (ok_with ho htn (by omega) (by rw [hgt]; omega)) (by rw [tr_more ho htn (by rw [hgt]; exact hlt), htl])), relR_keep hB hx.v.ck hc (by omega)⟩) (pool_V (poolA_app (pool_V (poolA_app hP) hpq)) hpw) ?_
  refine ret1 rfl rfl (((M ++ [(qa, qc, (withL (jndL h.2.2 ([])) o 1))]) ++ [(wa, wc, (withL h.2.2 t (h.2.2.getD t 0 + 1)))])) (by rw [feE, if_pos hv]) (by exact fun q_ h_ => List.mem_append_left _ (List.mem_append_left _ h_)) ?_
  exact Tf
 refine c_seq (c_plain (.q 0 (.q 1 (.done))) (by kernel_rfl) ?_)
 refine q_int rfl rfl rfl rfl rfl (b_eql _ _ _ _) ?_
 refine q_assign rfl rfl rfl rfl (r_done (s_keep [0, 3, 5, 6, 64, 191] (e' := [(0, _), (3, _), (5, _), (6, _), (64, _), (191, _)]) rfl ?_))
 refine k_then_n ?_
 refine c_cond_p rfl (fun k8 => ?_) (fun k8 => ?_)
 ·
  obtain ⟨o5, o7, o9, o10, o11⟩ := can_obj hx.v.ck hc
  have hsh := hx.v.ck.sh
  rw [Int.toNat_natCast] at o5 o7 o9
  have hor : 0 ≤ (o : Int) ∧ okK x.v.ck k ((t : Nat) : Int) ((o : Nat) : Int) := by
    rcases hc with ⟨-, q_, -⟩ | ⟨-, q_⟩
    · omega
    · exact q_
  unfold okK at hor
  obtain ⟨g, hg_⟩ := get_lt (l := r.V) (i := o) (by omega)
  obtain ⟨hgo, hgt2⟩ := hR.V o g hg_
  have hgl := hgo.1
  refine c_draw rfl (.q 0 (.q 1 (.q 2 (.q 3 (.q 4 (.q 5 (.q 6 (.q 7 (.q 8 (.q 9 (.q 10 (.q 11 (.q 12 (.q 13 (.q 14 (.q 15 (.q 16 (.q 17 (.q 18 (.q 19 ((.l 20 [3] (.q 21 ((.l 22 [] (.done)))))))))))))))))))))))))) (by kernel_rfl) ?_
  refine q_move rfl rfl rfl rfl (q_nil_p rfl rfl rfl rfl (q_field (k := 1) rfl rfl rfl rfl Try.underlying97 rfl Try.sizeOf66 rfl ?_))
  refine q_load_c (j := 1) rfl rfl rfl rfl Try.isAgg66 Tk Az (by rfl) ?_
  refine q_move rfl rfl rfl rfl (q_move rfl rfl rfl rfl (q_nil_p rfl rfl rfl rfl (q_field (k := 1) rfl rfl rfl rfl Try.underlying97 rfl Try.sizeOf66 rfl ?_)))
  refine q_load_c (j := 1) rfl rfl rfl rfl Try.isAgg66 Tk Az (by rfl) ?_
  refine q_move rfl rfl rfl rfl (q_idxO (sz := 0) (k := t) (enc := encH) (xs := r.V) rfl rfl rfl rfl rfl Try.underlying66 Try.sizeOf50 hh (by first | rfl | omega) (by omega) Tk ?_)
  intro ib203 io203 ha203 hl203 hc203
  refine q_load_O (v := (.slice h.1 h.2.2.length h.2.1)) (j := 0) (k' := t) (enc := encH) (off := io203) rfl rfl rfl rfl Try.isAgg50 ha203 encH_len hh Tk (by first | rfl | exact (Nat.add_zero _).symm | omega) (by rfl) ?_
  refine q_move rfl rfl rfl rfl (q_nil_p rfl rfl rfl rfl (q_field (k := 1) rfl rfl rfl rfl Try.underlying97 rfl Try.sizeOf66 rfl ?_))
  refine q_load_c (j := 1) rfl rfl rfl rfl Try.isAgg66 Tk Az (by rfl) ?_
  refine q_field (k := 2) rfl rfl rfl rfl Try.underlying36 rfl Try.sizeOf3 rfl ?_
  refine q_load_c (j := 2) rfl rfl rfl rfl Try.isAgg3 Tk Az (by rfl) ?_
  refine q_idxO (sz := 0) (k := o) (enc := encH) (xs := r.V) rfl rfl rfl rfl rfl Try.underlying66 Try.sizeOf50 hg_ (by first | rfl | omega) (by omega) Tk ?_
  intro ib211 io211 ha211 hl211 hc211
  refine q_load_O (v := (.slice g.1 g.2.2.length g.2.1)) (j := 0) (k' := o) (enc := encH) (off := io211) rfl rfl rfl rfl Try.isAgg50 ha211 encH_len hg_ Tk (by first | rfl | exact (Nat.add_zero _).symm | omega) (by rfl) ?_
  have sp_26 := Fr.joined_spec h.2.2 g.2.2 h.1 g.1 h.2.2.length g.2.2.length h.2.1 g.2.1 (bigS (owA 1 encU) M) (inp_rds (hP.V _ (List.mem_of_getElem? hh))) (inp_rds (hP.V _ (List.mem_of_getElem? hg_))) (by first | rfl | assumption | omega | (simp; done) | (simp; omega)) (by first | rfl | assumption | omega | (simp; done) | (simp; omega)) (by omega) (by omega)
  refine l_call rfl rfl rfl rfl rfl rfl Try.call41 (sp_26) Ts ?_
  rintro ⟨qa, qc⟩ -
  try simp only [List.cons_append, List.nil_append]
  refine s_pool (ao := qa) (cap := qc) (l := (jndL h.2.2 g.2.2)) (M := M) Ts fun hpq => ?_
  try simp only [List.cons_append, List.nil_append]
  refine ag_load_c (q := 1) rfl rfl rfl Try.isAgg66 Tk Az (by rfl) ?_
  refine ag_nil (q_idxO (sz := 0) (k := t) (enc := encH) (xs := r.V) rfl rfl rfl rfl rfl Try.underlying66 Try.sizeOf50 hh (by first | rfl | omega) (by omega) Tk ?_)
  intro ib214 io214 ha214 hl214 hc214
  refine l_store_O (j := 0) (k := t) (q := ((qa, qc, (jndL h.2.2 g.2.2)) : H)) (enc := encH) (off := io214) rfl rfl rfl rfl Try.sizeOf50 (us := [_]) rfl rfl rfl ha214 encH_len hh Tk (by first | rfl | exact (Nat.add_zero _).symm | omega) (by first | decide | exact Nat.le_of_ble_eq_true rfl) (by rfl) ?_
  refine ag_nil (r_done (s_keep [0, 3, 5] (e' := [(0, _), (3, _), (5, _)]) rfl ?_))
  refine k_blk_n (k_then_n (c_seq (c_seq (c_plain (.q 0 (.q 1 ((.l 2 [] (.done))))) (by kernel_rfl) ?_))))
  refine q_field (k := 0) rfl rfl rfl rfl Try.underlying36 rfl Try.sizeOf34 rfl ?_
  refine q_load_c (j := 0) rfl rfl rfl rfl Try.isAgg34 Tk Az (by rfl) ?_
  have sp_27 := rreleases_spec k
  refine l_call rfl rfl rfl rfl rfl rfl Try.call34 (sp_27) Ts ?_
  rintro ⟨⟩ -
  try simp only [List.cons_append, List.nil_append]
  refine ag_nil (r_done (k_then_n ?_))
  refine c_cond_p rfl (fun hg => by exfalso; unfold relK at hg; omega) (fun hg => ?_)
  refine c_skip (k_then_n (c_seq (c_plain (.q 0 (.done)) (by kernel_rfl) ?_)))
  refine q_assign rfl rfl rfl rfl (r_done (s_keep [4] (e' := [(4, _)]) rfl ?_))
  refine k_then_n (c_ret ?_)
  have hF : (feF x k ((t : Nat) : Int) ((o : Nat) : Int)) = ⟨⟨nxF x.v.ck k ((t : Nat) : Int) ((o : Nat) : Int), (upd x.v.th ((t : Nat) : Int) (some (mgF (x.v.th ((o : Nat) : Int)) l))), x.v.lk, x.v.vo, x.v.rd⟩, x.vs, x.cost⟩ := (by rw [fe_no hv (by omega) (by omega), vn8 hth k8])
  refine rf_fold (b := b) (M := (M ++ [(qa, qc, (jndL h.2.2 g.2.2))])) (feF x k ((t : Nat) : Int) ((o : Nat) : Int)) ⟨(r.V.set t ((qa, qc, (jndL h.2.2 g.2.2)) : H)), r.L, r.O, r.R, r.X⟩ (pa := pa) (pc := pc) (cb := cb) (Va := Va) (Vc := Vc) (La := La) (Lc := Lc) (Oa := Oa) (Oc := Oc) (Ra := Ra) (Rc := Rc) (Xa := Xa) (Xc := Xc) Ts rfl (by first | rfl | simp) (by first | rfl | simp) (by first | rfl | simp) (by first | rfl | simp) (by first | rfl | simp) (fe_ck hv).symm (by rw [hF]) (by rw [hF]; exact rel_iff.2 ⟨(relA_V (relA_next hA _ _ _) (ok_jnd ho hgo) (by rw [tr_jnd ho hgo, htl, hgt2]; exact jn_mg hlc (hx.v.thc _))), relR_keep hB hx.v.ck hc (by omega)⟩) (pool_V (poolA_app hP) hpq) ?_
  refine ret1 rfl rfl ((M ++ [(qa, qc, (jndL h.2.2 g.2.2))])) (by rw [feE, if_pos hv]) (by exact fun q_ h_ => List.mem_append_left _ h_) ?_
  exact Tf
 refine c_seq (c_plain (.q 0 (.q 1 (.done))) (by kernel_rfl) ?_)
 refine q_int rfl rfl rfl rfl rfl (b_eql _ _ _ _) ?_
 refine q_assign rfl rfl rfl rfl (r_done (k_then_n ?_))
 refine c_cond_p rfl (fun k9 => ?_) (fun k9 => ?_)
 ·
  refine c_seq ?_
  obtain ⟨o5, o7, o9, o10, o11⟩ := can_obj hx.v.ck hc
  have hsh := hx.v.ck.sh
  rw [Int.toNat_natCast] at o5 o7 o9
  have hlt : l.getD t 0 < maxC := by
    have h9 := hv.2 (by unfold relK; omega)
    rw [thF_eq hth, Int.toNat_natCast] at h9; exact h9
  obtain ⟨p0, p1, p2, p3⟩ := o9 k9
  obtain ⟨s0, s1, s2⟩ := stF_nz (can_th hc)
  have hst2 : stF (nxF x.v.ck k ((t : Nat) : Int) ((o : Nat) : Int)) ((t : Nat) : Int) = (2, ((o : Nat) : Int), (opF x.v.ck ((o : Nat) : Int)).1) := by
    rw [(nxF_k hc).2.2.2.1 k9, stF_set s0 s1 rfl, if_pos rfl]
  refine c_plain (.q 0 (.q 1 (.q 2 (.q 3 (.q 4 ((.l 5 [] (.q 6 (.q 7 (.q 8 ((.l 9 [] ((.l 10 [] (.q 11 (.done)))))))))))))))) (by kernel_rfl) ?_
  refine q_move rfl rfl rfl rfl (q_nil_p rfl rfl rfl rfl (q_field (k := 0) rfl rfl rfl rfl Try.underlying97 rfl Try.sizeOf91 rfl ?_))
  refine q_load_c (j := 0) rfl rfl rfl rfl Try.isAgg91 Tk Az (by rfl) ?_
  refine q_move rfl rfl rfl rfl ?_
  have sp_28 := Fe.rstand_spec pa pc cb (nxF x.v.ck k ((t : Nat) : Int) ((o : Nat) : Int)) (next_inv hx.v.ck _ _ _) ((t : Nat) : Int)
  refine l_call rfl rfl rfl rfl rfl rfl Try.call36 (sp_28) Ts ?_
  rintro ⟨⟩ -
  try simp only [List.cons_append, List.nil_append]
  refine ag_nil (q_move rfl rfl rfl rfl (q_extract rfl rfl rfl rfl rfl (s_eq 224 rfl (v' := .agg #[.int .i64 2, .int .i64 ((o : Nat) : Int), .int .i64 ((opF x.v.ck ((o : Nat) : Int)).1)]) (by rw [hst2]) ?_)))
  refine q_extract rfl rfl rfl rfl rfl (l_alloc rfl rfl rfl Try.zeroValue107 (zs := [.int .i64 0, .int .i64 0, .int .i64 0]) rfl ?_)
  intro b9
  refine ag_nil (l_store (j := 0) rfl rfl rfl rfl Try.sizeOf107 (us := [_, _, _]) rfl rfl rfl Tk Az (by first | decide | (simp; done) | omega) ?_)
  simp only [setL, List.set]
  refine ag_nil (q_assign rfl rfl rfl rfl (r_done (s_keep [0, 3, 5, 9] (e' := [(0, _), (3, _), (5, _), (9, _)]) rfl ?_)))
  refine k_then_n (c_seq (c_plain (.q 0 (.q 1 (.q 2 (.q 3 (.q 4 ((.l 5 [] (.q 6 (.done))))))))) (by kernel_rfl) ?_))
  refine q_move rfl rfl rfl rfl (q_field (k := 2) rfl rfl rfl rfl Try.underlying36 rfl Try.sizeOf3 rfl ?_)
  refine q_load_c (j := 2) rfl rfl rfl rfl Try.isAgg3 Tk Az (by rfl) ?_
  refine q_field (k := 2) rfl rfl rfl rfl Try.underlying107 rfl Try.sizeOf3 rfl ?_
  refine q_load_c (j := 2) rfl rfl rfl rfl Try.isAgg3 Tk Az (by rfl) ?_
  rcases Classical.em (∃ (j : Nat) (q : RRd), r.R[j]? = some q ∧ q.1 = ((o : Nat) : Int) ∧ q.2.1 = (opF x.v.ck ((o : Nat) : Int)).1) with hex | hno
  ·
   have sp_29 := round_yes b r.R.length Rc (.pointer (some ⟨cb, 0, none⟩)) (.slice Va r.V.length Vc) (.slice La r.L.length Lc) (.slice Oa r.O.length Oc) (.slice Xa r.X.length Xc) (.int .i64 x.cost) Ra r.R ((o : Nat) : Int) ((opF x.v.ck ((o : Nat) : Int)).1) rfl (by omega) hex
   refine l_call rfl rfl rfl rfl rfl rfl Try.call43 (sp_29) Ts ?_
   rintro ri ⟨rq, hrq, hrq1, hrq2⟩
   have hril := (List.getElem?_eq_some_iff.1 hrq).1
   try simp only [List.cons_append, List.nil_append]
   refine ag_nil ?_
   obtain ⟨hro, -, hrp⟩ := hR.Rk rq (List.mem_of_getElem? hrq)
   have hqol := hro.1
   have hpt : tr rq.2.2.2.2 = ((x.v.rd (((o : Nat) : Int), (opF x.v.ck ((o : Nat) : Int)).1)).map (·.1)).getD [] := by
     have h9 := hR.Rc rq (List.mem_of_getElem? hrq) (by rw [hrq1, hrq2])
     rw [hrq1, hrq2] at h9 hrp
     obtain ⟨p, hp⟩ := Option.isSome_iff_exists.1 h9
     rw [hrp p hp, hp]; rfl
   refine q_assign rfl rfl rfl rfl (r_done (s_keep [0, 3, 5, 11] (e' := [(0, _), (3, _), (5, _), (11, _)]) rfl ?_))
   refine k_then_n (c_draw rfl (.q 0 (.q 1 (.q 2 (.q 3 (.q 4 (.q 5 (.q 6 (.q 7 (.q 8 (.q 9 (.q 10 (.q 11 (.q 12 (.q 13 (.q 14 (.q 15 (.q 16 (.q 17 (.q 18 (.q 19 ((.l 20 [3] (.q 21 (.q 22 ((.l 23 [] (.done))))))))))))))))))))))))))) (by kernel_rfl) ?_)
   refine q_move rfl rfl rfl rfl (q_nil_p rfl rfl rfl rfl (q_field (k := 4) rfl rfl rfl rfl Try.underlying97 rfl Try.sizeOf94 rfl ?_))
   refine q_load_c (j := 4) rfl rfl rfl rfl Try.isAgg94 Tk Az (by rfl) ?_
   refine q_move rfl rfl rfl rfl (q_move rfl rfl rfl rfl (q_nil_p rfl rfl rfl rfl (q_field (k := 4) rfl rfl rfl rfl Try.underlying97 rfl Try.sizeOf94 rfl ?_)))
   refine q_load_c (j := 4) rfl rfl rfl rfl Try.isAgg94 Tk Az (by rfl) ?_
   refine q_move rfl rfl rfl rfl (q_idxO (sz := 2) (k := ri) (enc := encR) (xs := r.R) rfl rfl rfl rfl rfl Try.underlying94 Try.sizeOf115 hrq (by first | rfl | omega) (by omega) Tk ?_)
   intro ib242 io242 ha242 hl242 hc242
   refine q_field (k := 2) rfl rfl rfl rfl Try.underlying115 rfl Try.sizeOf50 rfl ?_
   refine q_load_O (v := (.slice rq.2.2.1 rq.2.2.2.2.length rq.2.2.2.1)) (j := 2) (k' := ri) (enc := encR) (off := io242) rfl rfl rfl rfl Try.isAgg50 ha242 encR_len hrq Tk (by first | rfl | exact (Nat.add_zero _).symm | omega) (by rfl) ?_
   refine q_move rfl rfl rfl rfl (q_nil_p rfl rfl rfl rfl (q_field (k := 1) rfl rfl rfl rfl Try.underlying97 rfl Try.sizeOf66 rfl ?_))
   refine q_load_c (j := 1) rfl rfl rfl rfl Try.isAgg66 Tk Az (by rfl) ?_
   refine q_move rfl rfl rfl rfl (q_idxO (sz := 0) (k := t) (enc := encH) (xs := r.V) rfl rfl rfl rfl rfl Try.underlying66 Try.sizeOf50 hh (by first | rfl | omega) (by omega) Tk ?_)
   intro ib250 io250 ha250 hl250 hc250
   refine q_load_O (v := (.slice h.1 h.2.2.length h.2.1)) (j := 0) (k' := t) (enc := encH) (off := io250) rfl rfl rfl rfl Try.isAgg50 ha250 encH_len hh Tk (by first | rfl | exact (Nat.add_zero _).symm | omega) (by rfl) ?_
   have sp_30 := Fr.joined_spec rq.2.2.2.2 h.2.2 rq.2.2.1 h.1 rq.2.2.2.2.length h.2.2.length rq.2.2.2.1 h.2.1 (bigS (owA 1 encU) M) (inp_rds (hP.R _ (List.mem_of_getElem? hrq))) (inp_rds (hP.V _ (List.mem_of_getElem? hh))) (by first | rfl | assumption | omega | (simp; done) | (simp; omega)) (by first | rfl | assumption | omega | (simp; done) | (simp; omega)) (by omega) (by omega)
   refine l_call rfl rfl rfl rfl rfl rfl Try.call41 (sp_30) Ts ?_
   rintro ⟨qa, qc⟩ -
   try simp only [List.cons_append, List.nil_append]
   refine s_pool (ao := qa) (cap := qc) (l := (jndL rq.2.2.2.2 h.2.2)) (M := M) Ts fun hpq => ?_
   try simp only [List.cons_append, List.nil_append]
   refine ag_load_c (q := 4) rfl rfl rfl Try.isAgg94 Tk Az (by rfl) ?_
   refine ag_nil (q_idxO (sz := 2) (k := ri) (enc := encR) (xs := r.R) rfl rfl rfl rfl rfl Try.underlying94 Try.sizeOf115 hrq (by first | rfl | omega) (by omega) Tk ?_)
   intro ib253 io253 ha253 hl253 hc253
   refine q_field (k := 2) rfl rfl rfl rfl Try.underlying115 rfl Try.sizeOf50 rfl ?_
   refine l_store_O (j := 2) (k := ri) (q := ((rq.1, rq.2.1, ((qa, qc, (jndL rq.2.2.2.2 h.2.2)) : H)) : RRd)) (enc := encR) (off := io253) rfl rfl rfl rfl Try.sizeOf50 (us := [_]) rfl rfl rfl ha253 encR_len hrq Tk (by first | rfl | exact (Nat.add_zero _).symm | omega) (by first | decide | exact Nat.le_of_ble_eq_true rfl) (by rfl) ?_
   refine ag_nil (r_done (s_keep [0, 3, 5] (e' := [(0, _), (3, _), (5, _)]) rfl ?_))
   refine k_blk_n (k_then_n (c_seq (c_seq (c_plain (.q 0 (.q 1 ((.l 2 [] (.done))))) (by kernel_rfl) ?_))))
   refine q_field (k := 0) rfl rfl rfl rfl Try.underlying36 rfl Try.sizeOf34 rfl ?_
   refine q_load_c (j := 0) rfl rfl rfl rfl Try.isAgg34 Tk Az (by rfl) ?_
   have sp_31 := rreleases_spec k
   refine l_call rfl rfl rfl rfl rfl rfl Try.call34 (sp_31) Ts ?_
   rintro ⟨⟩ -
   try simp only [List.cons_append, List.nil_append]
   refine ag_nil (r_done (k_then_n ?_))
   refine c_cond_p rfl (fun hg => ?_) (fun hg => by exfalso; exact hg (by unfold relK; omega))
   refine c_plain (.q 0 (.q 1 ((.l 2 [] (.done))))) (by kernel_rfl) ?_
   refine q_move rfl rfl rfl rfl (q_move rfl rfl rfl rfl ?_)
   have sp_32 := more_spec b r.V.length Vc t (.pointer (some ⟨cb, 0, none⟩)) (.slice La r.L.length Lc) (.slice Oa r.O.length Oc) (.slice Ra r.R.length Rc) (.slice Xa r.X.length Xc) (.int .i64 x.cost) Va r.V (M ++ [(qa, qc, (jndL rq.2.2.2.2 h.2.2))]) h (by simp) hh ho (inp_add (hP.V _ (List.mem_of_getElem? hh))) htn (by rw [hgt]; exact hlt)
   refine l_call rfl rfl rfl rfl rfl rfl Try.call44 (sp_32) Ts ?_
   rintro ⟨wa, wc⟩ hpw
   try simp only [List.cons_append, List.nil_append]
   refine ag_nil (r_done (s_keep [] (e' := []) rfl ?_))
   refine k_then_n (c_seq (c_plain (.q 0 (.done)) (by kernel_rfl) ?_))
   refine q_assign rfl rfl rfl rfl (r_done (k_then_n (c_ret ?_)))
   have hF : (feF x k ((t : Nat) : Int) ((o : Nat) : Int)) = ⟨⟨nxF x.v.ck k ((t : Nat) : Int) ((o : Nat) : Int), (upd x.v.th ((t : Nat) : Int) (some (icL l t))), x.v.lk, x.v.vo, (upd x.v.rd (((o : Nat) : Int), (opF x.v.ck ((o : Nat) : Int)).1) (some (mgF ((x.v.rd (((o : Nat) : Int), (opF x.v.ck ((o : Nat) : Int)).1)).map (·.1)) l, x.v.ck.pa.getD o 0)))⟩, x.vs, x.cost⟩ := (by rw [fe_no hv (by omega) (by omega), vn9 hth k9]; (try simp only [Int.toNat_natCast]))
   refine rf_fold (b := b) (M := ((M ++ [(qa, qc, (jndL rq.2.2.2.2 h.2.2))]) ++ [(wa, wc, (withL h.2.2 t (h.2.2.getD t 0 + 1)))])) (feF x k ((t : Nat) : Int) ((o : Nat) : Int)) ⟨(r.V.set t (wa, wc, (withL h.2.2 t (h.2.2.getD t 0 + 1)))), r.L, r.O, (r.R.set ri ((rq.1, rq.2.1, ((qa, qc, (jndL rq.2.2.2.2 h.2.2)) : H)) : RRd)), r.X⟩ (pa := pa) (pc := pc) (cb := cb) (Va := Va) (Vc := Vc) (La := La) (Lc := Lc) (Oa := Oa) (Oc := Oc) (Ra := Ra) (Rc := Rc) (Xa := Xa) (Xc := Xc) Ts rfl (by first | rfl | simp) (by first | rfl | simp) (by first | rfl | simp) (by first | rfl | simp) (by first | rfl | simp) (fe_ck hv).symm (by rw [hF]) (by rw [hF]; exact rel_iff.2 ⟨(relA_V (relA_next hA _ _ _) (ok_with ho htn (by omega) (by rw [hgt]; omega)) (by rw [tr_more ho htn (by rw [hgt]; exact hlt), htl])), arr_yes hx.v.ck hB k9 hc hrq hrq1 hrq2 (ok_jnd hro ho) (by rw [tr_jnd hro ho, htl, hpt]; exact mg_jn hlc (fun q_ h_ => map_fst_cv hx.v h_))⟩) (pool_V (poolA_app (pool_R (poolA_app hP) hpq)) hpw) ?_
   refine ret1 rfl rfl (((M ++ [(qa, qc, (jndL rq.2.2.2.2 h.2.2))]) ++ [(wa, wc, (withL h.2.2 t (h.2.2.getD t 0 + 1)))])) (by rw [feE, if_pos hv]) (by exact fun q_ h_ => List.mem_append_left _ (List.mem_append_left _ h_)) ?_
   exact Tf
  have sp_33 := round_no b r.R.length Rc (.pointer (some ⟨cb, 0, none⟩)) (.slice Va r.V.length Vc) (.slice La r.L.length Lc) (.slice Oa r.O.length Oc) (.slice Xa r.X.length Xc) (.int .i64 x.cost) Ra r.R ((o : Nat) : Int) ((opF x.v.ck ((o : Nat) : Int)).1) rfl (by omega) hno
  refine l_call rfl rfl rfl rfl rfl rfl Try.call43 (sp_33) Ts ?_
  rintro ⟨ra2, rc2⟩ -
  try simp only [List.cons_append, List.nil_append]
  refine ag_nil ?_
  have hh0 : h0.2.2.length = 0 := rfl
  have hpt : tr [] = ((x.v.rd (((o : Nat) : Int), (opF x.v.ck ((o : Nat) : Int)).1)).map (·.1)).getD [] := by
    cases hp : x.v.rd (((o : Nat) : Int), (opF x.v.ck ((o : Nat) : Int)).1) with
    | none => rfl
    | some p =>
      obtain ⟨g, hg⟩ := hR.Re _ _ p hp
      obtain ⟨j, hj⟩ := List.getElem?_of_mem hg
      exact absurd ⟨j, _, hj, rfl, rfl⟩ hno
  have hrq : (r.R ++ [((((o : Nat) : Int), (opF x.v.ck ((o : Nat) : Int)).1, h0) : RRd)])[r.R.length]? = some (((o : Nat) : Int), (opF x.v.ck ((o : Nat) : Int)).1, h0) := by rw [List.getElem?_append_right (Nat.le_refl _), Nat.sub_self]; rfl
  refine q_assign rfl rfl rfl rfl (r_done (s_keep [0, 3, 5, 11] (e' := [(0, _), (3, _), (5, _), (11, _)]) rfl ?_))
  refine k_then_n (c_draw rfl (.q 0 (.q 1 (.q 2 (.q 3 (.q 4 (.q 5 (.q 6 (.q 7 (.q 8 (.q 9 (.q 10 (.q 11 (.q 12 (.q 13 (.q 14 (.q 15 (.q 16 (.q 17 (.q 18 (.q 19 ((.l 20 [3] (.q 21 (.q 22 ((.l 23 [] (.done))))))))))))))))))))))))))) (by kernel_rfl) ?_)
  refine q_move rfl rfl rfl rfl (q_nil_p rfl rfl rfl rfl (q_field (k := 4) rfl rfl rfl rfl Try.underlying97 rfl Try.sizeOf94 rfl ?_))
  refine q_load_c (j := 4) rfl rfl rfl rfl Try.isAgg94 Tk Az (by rfl) ?_
  refine q_move rfl rfl rfl rfl (q_move rfl rfl rfl rfl (q_nil_p rfl rfl rfl rfl (q_field (k := 4) rfl rfl rfl rfl Try.underlying97 rfl Try.sizeOf94 rfl ?_)))
  refine q_load_c (j := 4) rfl rfl rfl rfl Try.isAgg94 Tk Az (by rfl) ?_
  refine q_move rfl rfl rfl rfl (q_idxO (sz := 2) (k := r.R.length) (enc := encR) (xs := (r.R ++ [((((o : Nat) : Int), (opF x.v.ck ((o : Nat) : Int)).1, h0) : RRd)])) rfl rfl rfl rfl rfl Try.underlying94 Try.sizeOf115 hrq (by first | rfl | omega) (by omega) Tk ?_)
  intro ib242 io242 ha242 hl242 hc242
  refine q_field (k := 2) rfl rfl rfl rfl Try.underlying115 rfl Try.sizeOf50 rfl ?_
  refine q_load_O (v := (.slice h0.1 h0.2.2.length h0.2.1)) (j := 2) (k' := r.R.length) (enc := encR) (off := io242) rfl rfl rfl rfl Try.isAgg50 ha242 encR_len hrq Tk (by first | rfl | exact (Nat.add_zero _).symm | omega) (by rfl) ?_
  refine q_move rfl rfl rfl rfl (q_nil_p rfl rfl rfl rfl (q_field (k := 1) rfl rfl rfl rfl Try.underlying97 rfl Try.sizeOf66 rfl ?_))
  refine q_load_c (j := 1) rfl rfl rfl rfl Try.isAgg66 Tk Az (by rfl) ?_
  refine q_move rfl rfl rfl rfl (q_idxO (sz := 0) (k := t) (enc := encH) (xs := r.V) rfl rfl rfl rfl rfl Try.underlying66 Try.sizeOf50 hh (by first | rfl | omega) (by omega) Tk ?_)
  intro ib250 io250 ha250 hl250 hc250
  refine q_load_O (v := (.slice h.1 h.2.2.length h.2.1)) (j := 0) (k' := t) (enc := encH) (off := io250) rfl rfl rfl rfl Try.isAgg50 ha250 encH_len hh Tk (by first | rfl | exact (Nat.add_zero _).symm | omega) (by rfl) ?_
  have sp_34 := Fr.joined_spec ([] : List Int) h.2.2 h0.1 h.1 h0.2.2.length h.2.2.length h0.2.1 h.2.1 (bigS (owA 1 encU) M) (.inl rfl) (inp_rds (hP.V _ (List.mem_of_getElem? hh))) (by first | rfl | assumption | omega | (simp; done) | (simp; omega)) (by first | rfl | assumption | omega | (simp; done) | (simp; omega)) (by omega) (by omega)
  refine l_call rfl rfl rfl rfl rfl rfl Try.call41 (sp_34) Ts ?_
  rintro ⟨qa, qc⟩ -
  try simp only [List.cons_append, List.nil_append]
  refine s_pool (ao := qa) (cap := qc) (l := (jndL ([] : List Int) h.2.2)) (M := M) Ts fun hpq => ?_
  try simp only [List.cons_append, List.nil_append]
  refine ag_load_c (q := 4) rfl rfl rfl Try.isAgg94 Tk Az (by rfl) ?_
  refine ag_nil (q_idxO (sz := 2) (k := r.R.length) (enc := encR) (xs := (r.R ++ [((((o : Nat) : Int), (opF x.v.ck ((o : Nat) : Int)).1, h0) : RRd)])) rfl rfl rfl rfl rfl Try.underlying94 Try.sizeOf115 hrq (by first | rfl | omega) (by omega) Tk ?_)
  intro ib253 io253 ha253 hl253 hc253
  refine q_field (k := 2) rfl rfl rfl rfl Try.underlying115 rfl Try.sizeOf50 rfl ?_
  refine l_store_O (j := 2) (k := r.R.length) (q := ((((o : Nat) : Int), (opF x.v.ck ((o : Nat) : Int)).1, ((qa, qc, (jndL ([] : List Int) h.2.2)) : H)) : RRd)) (enc := encR) (off := io253) rfl rfl rfl rfl Try.sizeOf50 (us := [_]) rfl rfl rfl ha253 encR_len hrq Tk (by first | rfl | exact (Nat.add_zero _).symm | omega) (by first | decide | exact Nat.le_of_ble_eq_true rfl) (by rfl) ?_
  refine ag_nil (r_done (s_keep [0, 3, 5] (e' := [(0, _), (3, _), (5, _)]) rfl ?_))
  refine k_blk_n (k_then_n (c_seq (c_seq (c_plain (.q 0 (.q 1 ((.l 2 [] (.done))))) (by kernel_rfl) ?_))))
  refine q_field (k := 0) rfl rfl rfl rfl Try.underlying36 rfl Try.sizeOf34 rfl ?_
  refine q_load_c (j := 0) rfl rfl rfl rfl Try.isAgg34 Tk Az (by rfl) ?_
  have sp_35 := rreleases_spec k
  refine l_call rfl rfl rfl rfl rfl rfl Try.call34 (sp_35) Ts ?_
  rintro ⟨⟩ -
  try simp only [List.cons_append, List.nil_append]
  refine ag_nil (r_done (k_then_n ?_))
  refine c_cond_p rfl (fun hg => ?_) (fun hg => by exfalso; exact hg (by unfold relK; omega))
  refine c_plain (.q 0 (.q 1 ((.l 2 [] (.done))))) (by kernel_rfl) ?_
  refine q_move rfl rfl rfl rfl (q_move rfl rfl rfl rfl ?_)
  have sp_36 := more_spec b r.V.length Vc t (.pointer (some ⟨cb, 0, none⟩)) (.slice La r.L.length Lc) (.slice Oa r.O.length Oc) (.slice ra2 (r.R.length + 1) rc2) (.slice Xa r.X.length Xc) (.int .i64 x.cost) Va r.V (M ++ [(qa, qc, (jndL ([] : List Int) h.2.2))]) h (by simp) hh ho (inp_add (hP.V _ (List.mem_of_getElem? hh))) htn (by rw [hgt]; exact hlt)
  refine l_call rfl rfl rfl rfl rfl rfl Try.call44 (sp_36) Ts ?_
  rintro ⟨wa, wc⟩ hpw
  try simp only [List.cons_append, List.nil_append]
  refine ag_nil (r_done (s_keep [] (e' := []) rfl ?_))
  refine k_then_n (c_seq (c_plain (.q 0 (.done)) (by kernel_rfl) ?_))
  refine q_assign rfl rfl rfl rfl (r_done (k_then_n (c_ret ?_)))
  have hF : (feF x k ((t : Nat) : Int) ((o : Nat) : Int)) = ⟨⟨nxF x.v.ck k ((t : Nat) : Int) ((o : Nat) : Int), (upd x.v.th ((t : Nat) : Int) (some (icL l t))), x.v.lk, x.v.vo, (upd x.v.rd (((o : Nat) : Int), (opF x.v.ck ((o : Nat) : Int)).1) (some (mgF ((x.v.rd (((o : Nat) : Int), (opF x.v.ck ((o : Nat) : Int)).1)).map (·.1)) l, x.v.ck.pa.getD o 0)))⟩, x.vs, x.cost⟩ := (by rw [fe_no hv (by omega) (by omega), vn9 hth k9]; (try simp only [Int.toNat_natCast]))
  refine rf_fold (b := b) (M := ((M ++ [(qa, qc, (jndL ([] : List Int) h.2.2))]) ++ [(wa, wc, (withL h.2.2 t (h.2.2.getD t 0 + 1)))])) (feF x k ((t : Nat) : Int) ((o : Nat) : Int)) ⟨(r.V.set t (wa, wc, (withL h.2.2 t (h.2.2.getD t 0 + 1)))), r.L, r.O, ((r.R ++ [((((o : Nat) : Int), (opF x.v.ck ((o : Nat) : Int)).1, h0) : RRd)]).set r.R.length ((((o : Nat) : Int), (opF x.v.ck ((o : Nat) : Int)).1, ((qa, qc, (jndL ([] : List Int) h.2.2)) : H)) : RRd)), r.X⟩ (pa := pa) (pc := pc) (cb := cb) (Va := Va) (Vc := Vc) (La := La) (Lc := Lc) (Oa := Oa) (Oc := Oc) (Ra := ra2) (Rc := rc2) (Xa := Xa) (Xc := Xc) Ts rfl (by first | rfl | simp) (by first | rfl | simp) (by first | rfl | simp) (by first | rfl | simp) (by first | rfl | simp) (fe_ck hv).symm (by rw [hF]) (by rw [hF]; exact rel_iff.2 ⟨(relA_V (relA_next hA _ _ _) (ok_with ho htn (by omega) (by rw [hgt]; omega)) (by rw [tr_more ho htn (by rw [hgt]; exact hlt), htl])), (by rw [List.set_append_right _ _ (Nat.le_refl _), Nat.sub_self]; exact arr_no hx.v.ck hB k9 hc hno (ok_jnd ok_nil ho) (by rw [tr_jnd ok_nil ho, htl, hpt]; exact mg_jn hlc (fun q_ h_ => map_fst_cv hx.v h_)))⟩) (by rw [List.set_append_right _ _ (Nat.le_refl _), Nat.sub_self]; exact pool_V (poolA_app (pool_R2 (poolA_app hP) hpq)) hpw) ?_
  refine ret1 rfl rfl (((M ++ [(qa, qc, (jndL ([] : List Int) h.2.2))]) ++ [(wa, wc, (withL h.2.2 t (h.2.2.getD t 0 + 1)))])) (by rw [feE, if_pos hv]) (by exact fun q_ h_ => List.mem_append_left _ (List.mem_append_left _ h_)) ?_
  exact Tf
 refine c_seq (c_plain (.q 0 (.q 1 (.done))) (by kernel_rfl) ?_)
 refine q_int rfl rfl rfl rfl rfl (b_eql _ _ _ _) ?_
 refine q_assign rfl rfl rfl rfl (r_done (s_keep [0, 3, 5, 6, 255] (e' := [(0, _), (3, _), (5, _), (6, _), (255, _)]) rfl ?_))
 refine k_then_n ?_
 refine c_cond_p rfl (fun k10 => ?_) (fun k10 => ?_)
 ·
  refine c_seq ?_
  obtain ⟨o5, o7, o9, o10, o11⟩ := can_obj hx.v.ck hc
  have hsh := hx.v.ck.sh
  rw [Int.toNat_natCast] at o5 o7 o9
  obtain ⟨q1, q2, q3⟩ := o10 k10
  obtain ⟨p, hrd, hp1⟩ := rd_some hx.v q1 q3
  have hrf : rdF x.v (((o : Nat) : Int), (stF x.v.ck ((t : Nat) : Int)).2.2) = p := by rw [rdF, hrd]; rfl
  have hex : ∃ (j : Nat) (q : RRd), r.R[j]? = some q ∧ q.1 = ((o : Nat) : Int) ∧ q.2.1 = (stF x.v.ck ((t : Nat) : Int)).2.2 := by
    obtain ⟨g, hg⟩ := hR.Re _ _ p hrd
    obtain ⟨j, hj⟩ := List.getElem?_of_mem hg
    exact ⟨j, _, hj, rfl, rfl⟩
  have hrlt : (stF x.v.ck ((t : Nat) : Int)).2.2 < (opF x.v.ck ((o : Nat) : Int)).1 := by rw [q3]; exact q2.2
  refine c_plain (.q 0 (.q 1 (.q 2 (.q 3 (.q 4 ((.l 5 [] (.q 6 (.done))))))))) (by kernel_rfl) ?_
  refine q_move rfl rfl rfl rfl (q_field (k := 2) rfl rfl rfl rfl Try.underlying36 rfl Try.sizeOf3 rfl ?_)
  refine q_load_c (j := 2) rfl rfl rfl rfl Try.isAgg3 Tk Az (by rfl) ?_
  refine q_field (k := 2) rfl rfl rfl rfl Try.underlying107 rfl Try.sizeOf3 rfl ?_
  refine q_load_c (j := 2) rfl rfl rfl rfl Try.isAgg3 Tk Az (by rfl) ?_
  have sp_37 := round_yes b r.R.length Rc (.pointer (some ⟨cb, 0, none⟩)) (.slice Va r.V.length Vc) (.slice La r.L.length Lc) (.slice Oa r.O.length Oc) (.slice Xa r.X.length Xc) (.int .i64 x.cost) Ra r.R ((o : Nat) : Int) ((stF x.v.ck ((t : Nat) : Int)).2.2) rfl (by omega) hex
  refine l_call rfl rfl rfl rfl rfl rfl Try.call43 (sp_37) Ts ?_
  rintro ri ⟨rq, hrq, hrq1, hrq2⟩
  have hril := (List.getElem?_eq_some_iff.1 hrq).1
  try simp only [List.cons_append, List.nil_append]
  refine ag_nil ?_
  obtain ⟨hro, -, hrp⟩ := hR.Rk rq (List.mem_of_getElem? hrq)
  have hqol := hro.1
  have hpt : tr rq.2.2.2.2 = p.1 := hrp p (by rw [hrq1, hrq2]; exact hrd)
  refine q_assign rfl rfl rfl rfl (r_done (s_keep [0, 3, 5, 12] (e' := [(0, _), (3, _), (5, _), (12, _)]) rfl ?_))
  refine k_then_n (c_draw rfl (.q 0 (.q 1 (.q 2 (.q 3 (.q 4 (.q 5 (.q 6 (.q 7 (.q 8 (.q 9 (.q 10 (.q 11 (.q 12 (.q 13 (.q 14 (.q 15 (.q 16 (.q 17 (.q 18 (.q 19 ((.l 20 [3] (.q 21 ((.l 22 [] (.done)))))))))))))))))))))))))) (by kernel_rfl) ?_)
  refine q_move rfl rfl rfl rfl (q_nil_p rfl rfl rfl rfl (q_field (k := 1) rfl rfl rfl rfl Try.underlying97 rfl Try.sizeOf66 rfl ?_))
  refine q_load_c (j := 1) rfl rfl rfl rfl Try.isAgg66 Tk Az (by rfl) ?_
  refine q_move rfl rfl rfl rfl (q_move rfl rfl rfl rfl (q_nil_p rfl rfl rfl rfl (q_field (k := 1) rfl rfl rfl rfl Try.underlying97 rfl Try.sizeOf66 rfl ?_)))
  refine q_load_c (j := 1) rfl rfl rfl rfl Try.isAgg66 Tk Az (by rfl) ?_
  refine q_move rfl rfl rfl rfl (q_idxO (sz := 0) (k := t) (enc := encH) (xs := r.V) rfl rfl rfl rfl rfl Try.underlying66 Try.sizeOf50 hh (by first | rfl | omega) (by omega) Tk ?_)
  intro ib273 io273 ha273 hl273 hc273
  refine q_load_O (v := (.slice h.1 h.2.2.length h.2.1)) (j := 0) (k' := t) (enc := encH) (off := io273) rfl rfl rfl rfl Try.isAgg50 ha273 encH_len hh Tk (by first | rfl | exact (Nat.add_zero _).symm | omega) (by rfl) ?_
  refine q_move rfl rfl rfl rfl (q_nil_p rfl rfl rfl rfl (q_field (k := 4) rfl rfl rfl rfl Try.underlying97 rfl Try.sizeOf94 rfl ?_))
  refine q_load_c (j := 4) rfl rfl rfl rfl Try.isAgg94 Tk Az (by rfl) ?_
  refine q_move rfl rfl rfl rfl (q_idxO (sz := 2) (k := ri) (enc := encR) (xs := r.R) rfl rfl rfl rfl rfl Try.underlying94 Try.sizeOf115 hrq (by first | rfl | omega) (by omega) Tk ?_)
  intro ib280 io280 ha280 hl280 hc280
  refine q_field (k := 2) rfl rfl rfl rfl Try.underlying115 rfl Try.sizeOf50 rfl ?_
  refine q_load_O (v := (.slice rq.2.2.1 rq.2.2.2.2.length rq.2.2.2.1)) (j := 2) (k' := ri) (enc := encR) (off := io280) rfl rfl rfl rfl Try.isAgg50 ha280 encR_len hrq Tk (by first | rfl | exact (Nat.add_zero _).symm | omega) (by rfl) ?_
  have sp_38 := Fr.joined_spec h.2.2 rq.2.2.2.2 h.1 rq.2.2.1 h.2.2.length rq.2.2.2.2.length h.2.1 rq.2.2.2.1 (bigS (owA 1 encU) M) (inp_rds (hP.V _ (List.mem_of_getElem? hh))) (inp_rds (hP.R _ (List.mem_of_getElem? hrq))) (by first | rfl | assumption | omega | (simp; done) | (simp; omega)) (by first | rfl | assumption | omega | (simp; done) | (simp; omega)) (by omega) (by omega)
  refine l_call rfl rfl rfl rfl rfl rfl Try.call41 (sp_38) Ts ?_
  rintro ⟨qa, qc⟩ -
  try simp only [List.cons_append, List.nil_append]
  refine s_pool (ao := qa) (cap := qc) (l := (jndL h.2.2 rq.2.2.2.2)) (M := M) Ts fun hpq => ?_
  try simp only [List.cons_append, List.nil_append]
  refine ag_load_c (q := 1) rfl rfl rfl Try.isAgg66 Tk Az (by rfl) ?_
  refine ag_nil (q_idxO (sz := 0) (k := t) (enc := encH) (xs := r.V) rfl rfl rfl rfl rfl Try.underlying66 Try.sizeOf50 hh (by first | rfl | omega) (by omega) Tk ?_)
  intro ib284 io284 ha284 hl284 hc284
  refine l_store_O (j := 0) (k := t) (q := ((qa, qc, (jndL h.2.2 rq.2.2.2.2)) : H)) (enc := encH) (off := io284) rfl rfl rfl rfl Try.sizeOf50 (us := [_]) rfl rfl rfl ha284 encH_len hh Tk (by first | rfl | exact (Nat.add_zero _).symm | omega) (by first | decide | exact Nat.le_of_ble_eq_true rfl) (by rfl) ?_
  refine ag_nil (r_done (s_keep [0, 3, 5] (e' := [(0, _), (3, _), (5, _)]) rfl ?_))
  refine k_blk_n (k_then_n (c_seq (c_seq (c_plain (.q 0 (.q 1 ((.l 2 [] (.done))))) (by kernel_rfl) ?_))))
  refine q_field (k := 0) rfl rfl rfl rfl Try.underlying36 rfl Try.sizeOf34 rfl ?_
  refine q_load_c (j := 0) rfl rfl rfl rfl Try.isAgg34 Tk Az (by rfl) ?_
  have sp_39 := rreleases_spec k
  refine l_call rfl rfl rfl rfl rfl rfl Try.call34 (sp_39) Ts ?_
  rintro ⟨⟩ -
  try simp only [List.cons_append, List.nil_append]
  refine ag_nil (r_done (k_then_n ?_))
  refine c_cond_p rfl (fun hg => by exfalso; unfold relK at hg; omega) (fun hg => ?_)
  refine c_skip (k_then_n (c_seq (c_plain (.q 0 (.done)) (by kernel_rfl) ?_)))
  refine q_assign rfl rfl rfl rfl (r_done (s_keep [4] (e' := [(4, _)]) rfl ?_))
  refine k_then_n (c_ret ?_)
  have hF : (feF x k ((t : Nat) : Int) ((o : Nat) : Int)) = ⟨⟨nxF x.v.ck k ((t : Nat) : Int) ((o : Nat) : Int), (upd x.v.th ((t : Nat) : Int) (some (jn l p.1))), x.v.lk, x.v.vo, (upd x.v.rd (((o : Nat) : Int), (stF x.v.ck ((t : Nat) : Int)).2.2) (if p.2 - 1 ≤ 0 then none else some (p.1, p.2 - 1)))⟩, x.vs, x.cost⟩ := (by rw [fe_no hv (by omega) (by omega), vn10 hth k10]; simp only [dpF, thF_eq hth, hrf])
  refine rf_fold (b := b) (M := (M ++ [(qa, qc, (jndL h.2.2 rq.2.2.2.2))])) (feF x k ((t : Nat) : Int) ((o : Nat) : Int)) ⟨(r.V.set t ((qa, qc, (jndL h.2.2 rq.2.2.2.2)) : H)), r.L, r.O, r.R, r.X⟩ (pa := pa) (pc := pc) (cb := cb) (Va := Va) (Vc := Vc) (La := La) (Lc := Lc) (Oa := Oa) (Oc := Oc) (Ra := Ra) (Rc := Rc) (Xa := Xa) (Xc := Xc) Ts rfl (by first | rfl | simp) (by first | rfl | simp) (by first | rfl | simp) (by first | rfl | simp) (by first | rfl | simp) (fe_ck hv).symm (by rw [hF]) (by rw [hF]; exact rel_iff.2 ⟨(relA_V (relA_next hA _ _ _) (ok_jnd ho hro) (by rw [tr_jnd ho hro, htl, hpt])), relR_keep (relR_dep hB hrd hrlt _ (fun s hs => by split at hs <;> cases hs; rfl)) hx.v.ck hc (by omega)⟩) (pool_V (poolA_app hP) hpq) ?_
  refine ret1 rfl rfl ((M ++ [(qa, qc, (jndL h.2.2 rq.2.2.2.2))])) (by rw [feE, if_pos hv]) (by exact fun q_ h_ => List.mem_append_left _ h_) ?_
  exact Tf
 refine c_skip (k_blk_n (k_then_n (c_seq (c_seq (c_plain (.q 0 (.q 1 ((.l 2 [] (.done))))) (by kernel_rfl) ?_)))))
 refine q_field (k := 0) rfl rfl rfl rfl Try.underlying36 rfl Try.sizeOf34 rfl ?_
 refine q_load_c (j := 0) rfl rfl rfl rfl Try.isAgg34 Tk Az (by rfl) ?_
 have sp_40 := rreleases_spec k
 refine l_call rfl rfl rfl rfl rfl rfl Try.call34 (sp_40) Ts ?_
 rintro ⟨⟩ -
 try simp only [List.cons_append, List.nil_append]
 refine ag_nil (r_done (s_keep [0, 5, 287] (e' := [(0, _), (5, _), (287, _)]) rfl ?_))
 refine k_then_n ?_
 refine c_cond_p rfl (fun hg => by exfalso; unfold relK at hg; omega) (fun hg => ?_)
 refine c_skip (k_then_n (c_seq (c_plain (.q 0 (.done)) (by kernel_rfl) ?_)))
 refine q_assign rfl rfl rfl rfl (r_done (k_then_n (c_ret ?_)))
 have hF : (feF x k ((t : Nat) : Int) ((o : Nat) : Int)) = ⟨⟨nxF x.v.ck k ((t : Nat) : Int) ((o : Nat) : Int), x.v.th, x.v.lk, x.v.vo, x.v.rd⟩, x.vs, x.cost⟩ := (by rw [fe_no hv (by omega) (by omega), vn0 (by omega) (by omega) (by omega) (by omega) (by omega) (by omega) (by omega) (by omega)])
 refine rf_fold (b := b) (M := M) (feF x k ((t : Nat) : Int) ((o : Nat) : Int)) ⟨r.V, r.L, r.O, r.R, r.X⟩ (pa := pa) (pc := pc) (cb := cb) (Va := Va) (Vc := Vc) (La := La) (Lc := Lc) (Oa := Oa) (Oc := Oc) (Ra := Ra) (Rc := Rc) (Xa := Xa) (Xc := Xc) Ts rfl (by first | rfl | simp) (by first | rfl | simp) (by first | rfl | simp) (by first | rfl | simp) (by first | rfl | simp) (fe_ck hv).symm (by rw [hF]) (by rw [hF]; exact rel_iff.2 ⟨(relA_next hA _ _ _), relR_keep hB hx.v.ck hc (by omega)⟩) (hP) ?_
 refine ret1 rfl rfl (M) (by rw [feE, if_pos hv]) (by exact fun q_ h_ => h_) ?_
 exact Tf
theorem revent_spec (pa : Option Addr) (pc b : Nat) (M : List H) (x : FS) (hx : FInv x) (hn : x.v.ck.n ≤ 4000000) (pl : List Int) (hpl : x.v.ck.pa = pl) (k t o : Int) : Spec Try.prog 13 [.pointer (some ⟨b, 0, none⟩), .agg #[.int .i64 k, .int .i64 t, .int .i64 o]] [rfR pa pc b M x, own 1 encZ pa pc pl, bigS (owA 1 encU) M] (fun (M' : List H) => .int .i64 (feE x k t o)) (fun M' => ∀ q_ ∈ M, q_ ∈ M') (fun M' => [rfR pa pc b M' (feF x k t o), own 1 encZ pa pc pl, bigS (owA 1 encU) M']) := by
  by_cases hc : canF x.v.ck k t o
  · obtain ⟨h1, -⟩ := th_rng hx.v (can_th hc)
    have h2 : 0 ≤ o := by
      rcases hc with ⟨a, -, e, -⟩ | ⟨-, e, -⟩
      · rw [e]; exact ((stF_inv hx.v.ck t).2.2.1 a).1
      · exact e
    obtain ⟨i, rfl⟩ := Int.eq_ofNat_of_zero_le h1
    obtain ⟨j, rfl⟩ := Int.eq_ofNat_of_zero_le h2
    by_cases hv : vcanF x.v k (i : Int) (j : Int)
    · exact revent_can pa pc b M x hx hn pl hpl k i j hv
    · rw [feE, if_neg hv, feF, if_neg hv]
      exact revent_max pa pc b M x hx hn pl hpl k i j hc hv
  · have hv : ¬ vcanF x.v k t o := fun h => hc h.1
    rw [feE, if_neg hv, feF, if_neg hv]
    exact revent_no pa pc b M x hx hn pl hpl k t o hc
end Go.Ab.Fr
set_option linter.unusedVariables false
set_option linter.unusedSimpArgs false
set_option maxRecDepth 100000
namespace Go.Ab.DjB
open Go Go.Proofs Go.Ab Go.Ab.Fe Go.Ab.Vc Go.Ab.Dj
/-- All clocks are at most one more than there are events. -/
structure BInv (x : VS) : Prop where
  inv : VInv x
  th : ∀ t l, x.th t = some l → ∀ i : Nat, l.getD i 0 ≤ x.ck.n + 1
  lk : ∀ t l, x.lk t = some l → ∀ i : Nat, l.getD i 0 ≤ x.ck.n + 1
  vo : ∀ t l, x.vo t = some l → ∀ i : Nat, l.getD i 0 ≤ x.ck.n + 1
  rd : ∀ r p, x.rd r = some p → ∀ i : Nat, p.1.getD i 0 ≤ x.ck.n + 1
end Go.Ab.DjB
set_option linter.unusedVariables false
set_option linter.unusedSimpArgs false
namespace Go.Ab.Fe
open Go Go.Proofs Go.Ab
def runE : CS → List T3 → List T3
  | _, [] => []
  | x, e :: es => if canT x e then e :: runE (nxT x e) es else runE x es
end Go.Ab.Fe
set_option linter.unusedVariables false
set_option linter.unusedSimpArgs false
set_option maxRecDepth 100000
namespace Go.Ab.Fa
open Go Go.Proofs Go.Ab Go.Ab.Fe Go.Ab.Vc Go.Ab.Dj Go.Ab.DjB
end Go.Ab.Fa
set_option linter.unusedVariables false
set_option linter.unusedSimpArgs false
set_option maxRecDepth 100000
namespace Go.Ab.Fr
open Go Go.Proofs Go.Ab Go.Ab.Fe Go.Ab.Vc Go.Ab.Dj Go.Ab.Fa Go.Ab.DjB
theorem sh_len {x : FS} (hx : FInv x) (z : Int) : ((shE (wFF x z)).getD []).length ≤ 65535 := by
  rcases wFF_cases x z with ⟨i, w, rfl, hw⟩ | hz
  · rw [wFF_nat, hw]
    show (w.2.2.1.getD []).length ≤ _
    cases hs : w.2.2.1 with
    | none => exact Nat.zero_le _
    | some s => exact ((hx.vs w (List.mem_of_getElem? hw)).2.2.1 s hs).len
  · rw [wFF_none hz]; exact Nat.zero_le _
theorem th_len {x : FS} (hx : FInv x) (z : Int) : (thF x.v z).length ≤ 65535 := by
  cases h : x.v.th z with
  | none => rw [thF, h]; exact Nat.zero_le _
  | some l => rw [thF_eq h]; exact (hx.v.thc _ _ h).len
theorem alike_spec (pa : Option Addr) (pc : Nat) (po : Option Addr) (poc b : Nat) (qa : Option Addr) (qc c : Nat) (M : List H) (x : FS) (hx : FInv x) : Spec Try.prog 15 [.pointer (some ⟨b, 0, none⟩), .pointer (some ⟨c, 0, none⟩)] [dfR pa pc po poc b x, rfR qa qc c M x, bigS (owA 1 encU) M] (fun (_ : Unit) => .bool true) (fun _ => True) (fun _ => [dfR pa pc po poc b x, rfR qa qc c M x, bigS (owA 1 encU) M]) := by
 refine spec_mk (n := 78) Try.func15 rfl rfl rfl ?_
 intro Γ w0
 simp only [argE, List.cons_append, List.nil_append, Nat.zero_add, Nat.reduceAdd]
 refine c_seq (c_plain (.q 0 (.done)) (by kernel_rfl) ?_)
 refine q_assign rfl rfl rfl rfl (r_done (k_then_n (c_seq (c_seq (c_plain (.q 0 (.q 1 (.q 2 (.q 3 (.q 4 (.done)))))) (by kernel_rfl) ?_)))))
 refine q_move rfl rfl rfl rfl (q_eq_nil rfl rfl rfl rfl Try.underlying27 ?_)
 refine s_eq 12 rfl (v' := .bool false) rfl ?_
 refine q_move rfl rfl rfl rfl (q_eq_nil rfl rfl rfl rfl Try.underlying31 ?_)
 refine s_eq 14 rfl (v' := .bool false) rfl ?_
 refine q_neb rfl rfl rfl rfl rfl Try.underlying4 ?_
 refine s_eq 15 rfl (v' := .bool false) rfl ?_
 refine r_done (s_keep [0, 1, 15] (e' := [(0, _), (1, _), (15, _)]) rfl ?_)
 refine k_then_n (c_cond_f rfl ?_)
 refine c_skip (k_then_n (c_seq (c_seq (c_plain (.q 0 (.q 1 (.done))) (by kernel_rfl) ?_))))
 refine q_move rfl rfl rfl rfl (q_eq_nil rfl rfl rfl rfl Try.underlying27 ?_)
 refine s_eq 17 rfl (v' := .bool false) rfl ?_
 refine r_done (k_then_n (c_cond_f rfl ?_))
 refine c_skip (k_then_n (c_seq (c_seq ?_)))
 have hfl := flFF_len x.vs
 have hvb := hx.v.ck.sh.va
 have hvt := hx.v.ck.sh.th
 have hvl := hx.len
 have hcc := hx.c0
 refine c_plain (.q 0 ((.l 1 [] (.q 2 ((.l 3 [] ((.l 4 [] (.q 5 (.q 6 (.q 7 ((.l 8 [] (.q 9 ((.l 10 [] (.q 11 (.q 12 (.done))))))))))))))))))) (by kernel_rfl) ?_
 refine q_move rfl rfl rfl rfl ?_
 have sp_1 := Fa.flags_spec pa pc po poc b x hx
 refine l_call rfl rfl rfl rfl rfl rfl Try.call22 (sp_1) Ts ?_
 rintro ⟨f1a, f1c⟩ -
 try simp only [List.cons_append, List.nil_append]
 refine ag_nil (q_move rfl rfl rfl rfl ?_)
 have sp_2 := Fr.rflags_spec qa qc c M x hx 
 refine l_call rfl rfl rfl rfl rfl rfl Try.call56 (sp_2) Ts ?_
 rintro ⟨f2a, f2c⟩ -
 try simp only [List.cons_append, List.nil_append]
 refine ag_nil (s_take (A := own 2 enc2 f1a f1c (flFF x.vs)) Tk ?_)
 refine own_fc fun f_3a f_3b f_3c => ?_
 refine s_take (A := own 2 enc2 f2a f2c (flFF x.vs)) Tk ?_
 refine own_fc fun f_4a f_4b f_4c => ?_
 refine s_heap (fun _ h => Bun.fold ((by (repeat ((with_reducible apply Z2); focus (first | (with_reducible (repeat (first | exact Z0 | apply Z1)); done) | (repeat (first | exact Z0 | apply Z1))))); exact Z3 : Takes _ [own 2 enc2 f1a f1c (flFF x.vs), own 2 enc2 f2a f2c (flFF x.vs)] _) _ h)) ?_
 have sp_5 := fflags_same (flFF x.vs) (flFF x.vs) f1a f2a ((flFF x.vs).length) ((flFF x.vs).length) f1c f2c (Bun [own 2 enc2 f1a f1c (flFF x.vs), own 2 enc2 f2a f2c (flFF x.vs)]) (by first | rfl | assumption | omega | (simp; done) | (simp; omega)) (rds_bun (List.mem_cons_self) (rds_own enc2_len (fun h => (f_3b h).1) f_3c)) (by first | rfl | assumption | omega | (simp; done) | (simp; omega)) (rds_bun (List.mem_cons_of_mem _ (List.mem_cons_self)) (rds_own enc2_len (fun h => (f_4b h).1) f_4c)) (by omega)
 refine l_call rfl rfl rfl rfl rfl rfl Try.call21 (sp_5) Ts ?_
 rintro ⟨⟩ -
 try simp only [List.cons_append, List.nil_append]
 refine s_take (A := Bun [own 2 enc2 f1a f1c (flFF x.vs), own 2 enc2 f2a f2c (flFF x.vs)]) Tk ?_
 refine s_bun ?_
 try simp only [List.cons_append, List.nil_append]
 try simp only [List.cons_append, List.nil_append]
 refine ag_nil (s_eq 22 rfl (v' := .bool true) (by first | rfl | simp) ?_)
 refine q_not rfl rfl rfl rfl ?_
 refine s_eq 23 rfl (v' := .bool false) rfl ?_
 refine q_move rfl rfl rfl rfl (q_move rfl rfl rfl rfl ?_)
 have sp_6 := Fa.cost_spec pa pc po poc b x hx
 refine l_call rfl rfl rfl rfl rfl rfl Try.call17 (sp_6) Ts ?_
 rintro ⟨⟩ -
 try simp only [List.cons_append, List.nil_append]
 refine ag_nil (q_move rfl rfl rfl rfl ?_)
 have sp_8 := Fr.rcost_spec qa qc c M x  
 refine l_call rfl rfl rfl rfl rfl rfl Try.call57 (sp_8) Ts ?_
 rintro ⟨⟩ -
 try simp only [List.cons_append, List.nil_append]
 refine ag_nil (q_int rfl rfl rfl rfl rfl (b_neq _ _ _ _) ?_)
 refine s_eq 29 rfl (v' := .bool false) (by first | rfl | simp) ?_
 refine q_pick_f rfl rfl rfl rfl rfl (r_done (s_keep [0, 1, 30] (e' := [(0, _), (1, _), (30, _)]) rfl ?_))
 refine k_then_n (c_cond_f rfl ?_)
 refine c_skip (k_then_n (c_seq (c_seq (c_plain (.q 0 (.done)) (by kernel_rfl) ?_))))
 refine q_assign rfl rfl rfl rfl (r_done (k_then_n (c_block ?_)))
 refine c_loop2 (α := Nat) (fun (i : Nat) => i ≤ x.vs.length + 2) (fun (i : Nat) => [(5, .int .i64 (((i : Nat) : Int) - 1))]) (fun (i : Nat) => [rfR qa qc c M x]) (fun (i : Nat) => x.vs.length + 2 - i) [0, 1] (er := [(0, _), (1, _)]) rfl (0) ?_ (by exact ⟨rfl, trivial⟩) (by (try dsimp only); (try simp only [Nat.add_zero, Nat.zero_add]); (repeat ((with_reducible apply Z2); focus (first | (with_reducible (repeat (first | exact Z0 | apply Z1)); done) | (repeat (first | exact Z0 | apply Z1))))); exact Z3) ?_
 · exact Nat.zero_le _
 rintro i hle_i
 try simp only [List.cons_append, List.nil_append]
 refine c_seq (c_seq (s_take (A := rfR qa qc c M x) Tk ?_))
 refine rf_open fun cb Va Vc La Lc Oa Oc Ra Rc Xa Xc r hR hP => ?_
 refine c_plain (.q 0 (.q 1 (.q 2 (.q 3 (.q 4 (.q 5 (.q 6 (.done)))))))) (by kernel_rfl) ?_
 refine q_move rfl rfl rfl rfl (q_move rfl rfl rfl rfl (q_nil_p rfl rfl rfl rfl (q_field (k := 5) rfl rfl rfl rfl Try.underlying97 rfl Try.sizeOf95 rfl ?_)))
 refine q_load_c (j := 5) rfl rfl rfl rfl Try.isAgg95 Tk Az (by rfl) ?_
 refine q_len rfl rfl rfl rfl Try.underlying95 ?_
 refine s_eq 36 rfl (v' := .int .i64 ((x.vs.length : Nat) : Int)) (by rw [hR.Xn]) ?_
 refine rf_fold (b := c) (M := M) x r (pa := qa) (pc := qc) (cb := cb) (Va := Va) (Vc := Vc) (La := La) (Lc := Lc) (Oa := Oa) (Oc := Oc) (Ra := Ra) (Rc := Rc) (Xa := Xa) (Xc := Xc) Ts rfl (by rfl) (by rfl) (by rfl) (by rfl) (by rfl) rfl rfl hR hP ?_
 refine q_int rfl rfl rfl rfl rfl (b_leq _ _ _ _) ?_
 refine r_done (s_keep [0, 1, 5, 37] (e' := [(0, _), (1, _), (5, _), (37, _)]) rfl ?_)
 refine k_then_n ?_
 refine c_cond_p rfl (fun h_9 => ?_) (fun h_9 => ?_)
 ·
  refine c_skip (k_then_n (c_seq (c_block (c_seq (c_plain (.q 0 (.q 1 ((.l 2 [] (.q 3 (.q 4 (.q 5 ((.l 6 [] ((.l 7 [] (.q 8 (.done))))))))))))) (by kernel_rfl) ?_)))))
  refine q_move rfl rfl rfl rfl (q_move rfl rfl rfl rfl ?_)
  have sp_10 := Fa.state_spec pa pc po poc b x hx (((i : Nat) : Int) - 1)
  refine l_call rfl rfl rfl rfl rfl rfl Try.call18 (sp_10) Ts ?_
  rintro ⟨ua, uc⟩ -
  try simp only [List.cons_append, List.nil_append]
  refine ag_nil (q_move rfl rfl rfl rfl (q_extract rfl rfl rfl rfl rfl (q_extract rfl rfl rfl rfl rfl (l_alloc rfl rfl rfl Try.zeroValue52 (zs := [.int .u64 0, .int .u64 0, .bool false, .slice none 0 0]) rfl ?_))))
  intro b6
  refine ag_nil (l_store (j := 0) rfl rfl rfl rfl Try.sizeOf52 (us := [_, _, _, _]) rfl rfl rfl Tk Az (by first | decide | (simp; done) | omega) ?_)
  simp only [setL, List.set]
  refine ag_nil (q_assign rfl rfl rfl rfl (r_done (s_keep [0, 1, 5, 6, 7] (e' := [(0, _), (1, _), (5, _), (6, _), (7, _)]) rfl ?_)))
  refine k_then_n (c_seq (c_plain (.q 0 (.q 1 ((.l 2 [] (.q 3 (.q 4 (.q 5 ((.l 6 [] ((.l 7 [] (.q 8 (.done))))))))))))) (by kernel_rfl) ?_))
  refine q_move rfl rfl rfl rfl (q_move rfl rfl rfl rfl ?_)
  have sp_11 := Fr.rstate_spec qa qc c M x  (((i : Nat) : Int) - 1)
  refine l_call rfl rfl rfl rfl rfl rfl Try.call58 (sp_11) Ts ?_
  rintro ⟨va, vc⟩ -
  try simp only [List.cons_append, List.nil_append]
  refine ag_nil (q_move rfl rfl rfl rfl (q_extract rfl rfl rfl rfl rfl (q_extract rfl rfl rfl rfl rfl (l_alloc rfl rfl rfl Try.zeroValue52 (zs := [.int .u64 0, .int .u64 0, .bool false, .slice none 0 0]) rfl ?_))))
  intro b8
  refine ag_nil (l_store (j := 0) rfl rfl rfl rfl Try.sizeOf52 (us := [_, _, _, _]) rfl rfl rfl Tk Az (by first | decide | (simp; done) | omega) ?_)
  simp only [setL, List.set]
  refine ag_nil (q_assign rfl rfl rfl rfl (r_done (s_keep [0, 1, 5, 6, 7, 8, 9] (e' := [(0, _), (1, _), (5, _), (6, _), (7, _), (8, _), (9, _)]) rfl ?_)))
  refine k_then_n (c_seq ?_)
  have hwl : ((shE (wFF x (((i : Nat) : Int) - 1))).getD []).length ≤ 65535 := sh_len hx _
  refine c_plain (.q 0 (.q 1 (.q 2 (.q 3 (.q 4 (.q 5 ((.l 6 [] (.q 7 (.q 8 (.done))))))))))) (by kernel_rfl) ?_
  refine q_move rfl rfl rfl rfl (q_move rfl rfl rfl rfl (q_neb rfl rfl rfl rfl rfl Try.underlying4 ?_))
  refine s_eq 54 rfl (v' := .bool false) (by first | rfl | simp) ?_
  refine q_move rfl rfl rfl rfl (q_loadN_c rfl rfl rfl rfl Try.isAgg52 Try.sizeOf52 Tk 0 (us := [_, _, _, _]) Az rfl rfl ?_)
  refine q_loadN_c rfl rfl rfl rfl Try.isAgg52 Try.sizeOf52 Tk 0 (us := [_, _, _, _]) Az rfl rfl ?_
  refine s_take (A := own 1 encU ua uc ((shE (wFF x (((i : Nat) : Int) - 1))).getD [])) Tk ?_
  refine own_fc fun f_12a f_12b f_12c => ?_
  refine s_take (A := own 1 encU va vc ((shE (wFF x (((i : Nat) : Int) - 1))).getD [])) Tk ?_
  refine own_fc fun f_13a f_13b f_13c => ?_
  refine s_heap (fun _ h => Bun.fold ((by (repeat ((with_reducible apply Z2); focus (first | (with_reducible (repeat (first | exact Z0 | apply Z1)); done) | (repeat (first | exact Z0 | apply Z1))))); exact Z3 : Takes _ [own 1 encU ua uc ((shE (wFF x (((i : Nat) : Int) - 1))).getD []), own 1 encU va vc ((shE (wFF x (((i : Nat) : Int) - 1))).getD [])] _) _ h)) ?_
  have sp_14 := state_same (wrE (wFF x (((i : Nat) : Int) - 1))) (rdE (wFF x (((i : Nat) : Int) - 1))) (wrE (wFF x (((i : Nat) : Int) - 1))) (rdE (wFF x (((i : Nat) : Int) - 1))) (((shE (wFF x (((i : Nat) : Int) - 1))).getD []).length) (((shE (wFF x (((i : Nat) : Int) - 1))).getD []).length) uc vc ((shE (wFF x (((i : Nat) : Int) - 1))).isSome) ((shE (wFF x (((i : Nat) : Int) - 1))).isSome) ua va ((shE (wFF x (((i : Nat) : Int) - 1))).getD []) ((shE (wFF x (((i : Nat) : Int) - 1))).getD []) (Bun [own 1 encU ua uc ((shE (wFF x (((i : Nat) : Int) - 1))).getD []), own 1 encU va vc ((shE (wFF x (((i : Nat) : Int) - 1))).getD [])]) (by first | rfl | assumption | omega | (simp; done) | (simp; omega)) (rds_bun (List.mem_cons_self) (rds_own encU_len (fun h => (f_12b h).1) f_12c)) (by first | rfl | assumption | omega | (simp; done) | (simp; omega)) (rds_bun (List.mem_cons_of_mem _ (List.mem_cons_self)) (rds_own encU_len (fun h => (f_13b h).1) f_13c)) (by omega)
  refine l_call rfl rfl rfl rfl rfl rfl Try.call59 (sp_14) Ts ?_
  rintro ⟨⟩ -
  try simp only [List.cons_append, List.nil_append]
  refine s_take (A := Bun [own 1 encU ua uc ((shE (wFF x (((i : Nat) : Int) - 1))).getD []), own 1 encU va vc ((shE (wFF x (((i : Nat) : Int) - 1))).getD [])]) Tk ?_
  refine s_bun ?_
  try simp only [List.cons_append, List.nil_append]
  try simp only [List.cons_append, List.nil_append]
  refine ag_nil (s_eq 58 rfl (v' := .bool true) (by first | rfl | simp) ?_)
  refine q_not rfl rfl rfl rfl ?_
  refine s_eq 59 rfl (v' := .bool false) rfl ?_
  refine q_pick_f rfl rfl rfl rfl rfl (r_done (s_keep [0, 1, 5, 56, 57, 58, 59, 60] (e' := [(0, _), (1, _), (5, _), (56, _), (57, _), (58, _), (59, _), (60, _)]) rfl ?_))
  refine k_then_n (c_cond_f rfl ?_)
  refine c_skip (k_blk_n (k_then_n (c_plain (.q 0 (.q 1 (.q 2 (.done)))) (by kernel_rfl) ?_)))
  refine q_move rfl rfl rfl rfl (q_int rfl rfl rfl rfl rfl (b_add' _ (by exact fits_i64 (by omega) (by omega))) ?_)
  refine q_assign rfl rfl rfl rfl (r_done (k_then_n (s_eq 5 rfl (v' := .int .i64 ((((i + 1) : Nat) : Int) - 1)) (by first | rfl | (congr 1; done) | (congr 1 <;> first | rfl | omega | (simp; done) | (simp; omega))) ?_)))
  refine loop_next (x := i) (i + 1) ?_ ?_ ?_ ?_
  · exact by show i + 1 ≤ x.vs.length + 2; omega
  · show x.vs.length + 2 - (i + 1) < x.vs.length + 2 - i; omega
  · exact ⟨rfl, rfl, rfl, trivial⟩
  · (try simp only [List.cons_append, List.nil_append]); exact Tf
 refine c_exit (k_then_exit (k_then_exit (k_blk_here (k_then_n (c_seq (c_seq (c_plain (.q 0 (.done)) (by kernel_rfl) ?_)))))))
 refine q_assign rfl rfl rfl rfl (r_done (k_then_n (c_block ?_)))
 refine c_loop2 (α := Nat) (fun (j : Nat) => j ≤ x.v.ck.th.toNat + 2) (fun (j : Nat) => [(10, .int .i64 (((j : Nat) : Int) - 1))]) (fun (j : Nat) => [rfR qa qc c M x]) (fun (j : Nat) => x.v.ck.th.toNat + 2 - j) [0, 1] (er := [(0, _), (1, _)]) rfl (0) ?_ (by exact ⟨rfl, trivial⟩) (by (try dsimp only); (try simp only [Nat.add_zero, Nat.zero_add]); (repeat ((with_reducible apply Z2); focus (first | (with_reducible (repeat (first | exact Z0 | apply Z1)); done) | (repeat (first | exact Z0 | apply Z1))))); exact Z3) ?_
 · exact Nat.zero_le _
 rintro j hle_j
 try simp only [List.cons_append, List.nil_append]
 refine c_seq (c_seq (s_take (A := rfR qa qc c M x) Tk ?_))
 refine rf_open fun cb Va Vc La Lc Oa Oc Ra Rc Xa Xc r hR hP => ?_
 refine c_plain (.q 0 (.q 1 (.q 2 (.q 3 (.q 4 (.q 5 (.q 6 (.done)))))))) (by kernel_rfl) ?_
 refine q_move rfl rfl rfl rfl (q_move rfl rfl rfl rfl (q_nil_p rfl rfl rfl rfl (q_field (k := 1) rfl rfl rfl rfl Try.underlying97 rfl Try.sizeOf66 rfl ?_)))
 refine q_load_c (j := 1) rfl rfl rfl rfl Try.isAgg66 Tk Az (by rfl) ?_
 refine q_len rfl rfl rfl rfl Try.underlying66 ?_
 refine s_eq 66 rfl (v' := .int .i64 ((x.v.ck.th.toNat : Nat) : Int)) (by congr 1; have := hR.Vn; omega) ?_
 refine rf_fold (b := c) (M := M) x r (pa := qa) (pc := qc) (cb := cb) (Va := Va) (Vc := Vc) (La := La) (Lc := Lc) (Oa := Oa) (Oc := Oc) (Ra := Ra) (Rc := Rc) (Xa := Xa) (Xc := Xc) Ts rfl (by rfl) (by rfl) (by rfl) (by rfl) (by rfl) rfl rfl hR hP ?_
 refine q_int rfl rfl rfl rfl rfl (b_leq _ _ _ _) ?_
 refine r_done (s_keep [0, 1, 10, 67] (e' := [(0, _), (1, _), (10, _), (67, _)]) rfl ?_)
 refine k_then_n ?_
 refine c_cond_p rfl (fun h_15 => ?_) (fun h_15 => ?_)
 ·
  refine c_skip (k_then_n (c_seq (c_block (c_seq ?_))))
  have hwl2 : (thF x.v (((j : Nat) : Int) - 1)).length ≤ 65535 := th_len hx _
  refine c_plain (.q 0 (.q 1 ((.l 2 [] (.q 3 (.q 4 ((.l 5 [] ((.l 6 [] (.q 7 (.done)))))))))))) (by kernel_rfl) ?_
  refine q_move rfl rfl rfl rfl (q_move rfl rfl rfl rfl ?_)
  have sp_16 := Fa.vector_spec pa pc po poc b x hx (((j : Nat) : Int) - 1)
  refine l_call rfl rfl rfl rfl rfl rfl Try.call19 (sp_16) Ts ?_
  rintro ⟨ua, uc⟩ -
  try simp only [List.cons_append, List.nil_append]
  refine ag_nil (q_move rfl rfl rfl rfl (q_move rfl rfl rfl rfl ?_))
  have sp_17 := Fr.rvector_spec qa qc c M x hx (((j : Nat) : Int) - 1)
  refine l_call rfl rfl rfl rfl rfl rfl Try.call61 (sp_17) Ts ?_
  rintro ⟨va, vc⟩ -
  try simp only [List.cons_append, List.nil_append]
  refine ag_nil (s_take (A := own 1 encU ua uc (thF x.v (((j : Nat) : Int) - 1))) Tk ?_)
  refine own_fc fun f_18a f_18b f_18c => ?_
  refine s_take (A := own 1 encU va vc (thF x.v (((j : Nat) : Int) - 1))) Tk ?_
  refine own_fc fun f_19a f_19b f_19c => ?_
  refine s_heap (fun _ h => Bun.fold ((by (repeat ((with_reducible apply Z2); focus (first | (with_reducible (repeat (first | exact Z0 | apply Z1)); done) | (repeat (first | exact Z0 | apply Z1))))); exact Z3 : Takes _ [own 1 encU ua uc (thF x.v (((j : Nat) : Int) - 1)), own 1 encU va vc (thF x.v (((j : Nat) : Int) - 1))] _) _ h)) ?_
  have sp_20 := clocks_same (thF x.v (((j : Nat) : Int) - 1)) (thF x.v (((j : Nat) : Int) - 1)) ua va ((thF x.v (((j : Nat) : Int) - 1)).length) ((thF x.v (((j : Nat) : Int) - 1)).length) uc vc (Bun [own 1 encU ua uc (thF x.v (((j : Nat) : Int) - 1)), own 1 encU va vc (thF x.v (((j : Nat) : Int) - 1))]) (by first | rfl | assumption | omega | (simp; done) | (simp; omega)) (rds_bun (List.mem_cons_self) (rds_own encU_len (fun h => (f_18b h).1) f_18c)) (by first | rfl | assumption | omega | (simp; done) | (simp; omega)) (rds_bun (List.mem_cons_of_mem _ (List.mem_cons_self)) (rds_own encU_len (fun h => (f_19b h).1) f_19c)) (by omega)
  refine l_call rfl rfl rfl rfl rfl rfl Try.call60 (sp_20) Ts ?_
  rintro ⟨⟩ -
  try simp only [List.cons_append, List.nil_append]
  refine s_take (A := Bun [own 1 encU ua uc (thF x.v (((j : Nat) : Int) - 1)), own 1 encU va vc (thF x.v (((j : Nat) : Int) - 1))]) Tk ?_
  refine s_bun ?_
  try simp only [List.cons_append, List.nil_append]
  try simp only [List.cons_append, List.nil_append]
  refine ag_nil (s_eq 76 rfl (v' := .bool true) (by first | rfl | simp) ?_)
  refine q_not rfl rfl rfl rfl ?_
  refine s_eq 77 rfl (v' := .bool false) rfl ?_
  refine r_done (s_keep [0, 1, 10, 77] (e' := [(0, _), (1, _), (10, _), (77, _)]) rfl ?_)
  refine k_then_n (c_cond_f rfl ?_)
  refine c_skip (k_blk_n (k_then_n (c_plain (.q 0 (.q 1 (.q 2 (.done)))) (by kernel_rfl) ?_)))
  refine q_move rfl rfl rfl rfl (q_int rfl rfl rfl rfl rfl (b_add' _ (by exact fits_i64 (by omega) (by omega))) ?_)
  refine q_assign rfl rfl rfl rfl (r_done (k_then_n (s_eq 10 rfl (v' := .int .i64 ((((j + 1) : Nat) : Int) - 1)) (by first | rfl | (congr 1; done) | (congr 1 <;> first | rfl | omega | (simp; done) | (simp; omega))) ?_)))
  refine loop_next (x := j) (j + 1) ?_ ?_ ?_ ?_
  · exact by show j + 1 ≤ x.v.ck.th.toNat + 2; omega
  · show x.v.ck.th.toNat + 2 - (j + 1) < x.v.ck.th.toNat + 2 - j; omega
  · exact ⟨rfl, rfl, rfl, trivial⟩
  · (try simp only [List.cons_append, List.nil_append]); exact Tf
 refine c_exit (k_then_exit (k_then_exit (k_blk_here (k_then_n (c_seq (c_plain (.q 0 (.done)) (by kernel_rfl) ?_))))))
 refine q_assign rfl rfl rfl rfl (r_done (s_keep [4] (e' := [(4, _)]) rfl ?_))
 refine k_then_n (c_ret (ret1 rfl rfl (()) (by first | rfl | (first | rfl | (congr 1; done) | (congr 1 <;> first | rfl | omega | (simp; done) | (simp; omega)))) (by trivial) ?_))
 exact Tf
end Go.Ab.Fr
set_option linter.unusedVariables false
set_option linter.unusedSimpArgs false
set_option maxRecDepth 100000
namespace Go.Ab.Fr
open Go Go.Proofs Go.Ab Go.Ab.Fe Go.Ab.Vc Go.Ab.Dj Go.Ab.Fa Go.Ab.DjB
theorem first_no {x : FS} {es : List T3} {n i m : Nat} {e : T3} (hm : es.length = m) (he : es[i]? = some e) (h1 : n ≤ m) (h2 : okFAll x (es.take n)) (h3 : n < m → ∀ e, es[n]? = some e → ¬ canFE (fAll x (es.take n)) e) (ho : okFAll x (es.take i)) (hc : ¬ canFE (fAll x (es.take i)) e) : n = i := by
  have hi := (List.getElem?_eq_some_iff.1 he).1
  rcases Nat.lt_trichotomy n i with h | h | h
  · obtain ⟨q, hq⟩ := get_lt (l := es) (i := n) (by omega)
    have := ho n q (by rw [List.getElem?_take_of_lt h]; exact hq)
    rw [List.take_take, Nat.min_eq_left (by omega)] at this
    exact absurd this (h3 (by omega) q hq)
  · exact h
  · have := h2 i e (by rw [List.getElem?_take_of_lt h]; exact he)
    rw [List.take_take, Nat.min_eq_left (by omega)] at this
    exact absurd this hc
theorem first_all {x : FS} {es : List T3} {n m : Nat} (hm : es.length = m) (h1 : n ≤ m) (h3 : n < m → ∀ e, es[n]? = some e → ¬ canFE (fAll x (es.take n)) e) (ho : okFAll x (es.take m)) : n = m := by
  rcases Nat.lt_or_ge n m with h | h
  · obtain ⟨q, hq⟩ := get_lt (l := es) (i := n) (by omega)
    have := ho n q (by rw [List.getElem?_take_of_lt h]; exact hq)
    rw [List.take_take, Nat.min_eq_left (by omega)] at this
    exact absurd this (h3 (by omega) q hq)
  · omega
theorem refused_ok (th va vo lk : Int) (pl : List Int) (ao : Option Addr) (n c : Nat) (A : HProp) (hr : RdS A ao (pl.flatMap encZ)) (hn : pl.length = n) (hb : n ≤ 4000000) (es : List T3) (eo : Option Addr) (m ec : Nat) (he : RdS A eo (es.flatMap enc3)) (hm : es.length = m) (hmb : m ≤ 4000000) (hok : OkS th va vo lk pl) : Spec Try.prog 4 [.agg #[.int .i64 th, .int .i64 va, .int .i64 vo, .int .i64 lk, .slice ao n c], .slice eo m ec] [A] (fun (_ : Unit) => .bool true) (fun _ => True) (fun _ => [A]) := by
 refine spec_mk (n := 151) Try.func4 rfl rfl rfl ?_
 intro Γ w0
 simp only [argE, List.cons_append, List.nil_append, Nat.zero_add, Nat.reduceAdd]
 refine c_seq (c_plain ((.l 0 [] (.q 1 (.done)))) (by kernel_rfl) ?_)
 refine l_box rfl rfl rfl rfl (us := [_, _, _, _, _]) rfl ?_
 intro b2
 refine ag_nil (q_assign rfl rfl rfl rfl (r_done (k_then_n (c_seq (c_plain (.q 0 ((.l 1 [] (.q 2 (.q 3 (.q 4 (.q 5 (.q 6 (.done))))))))) (by kernel_rfl) ?_)))))
 refine q_loadN_c rfl rfl rfl rfl Try.isAgg25 Try.sizeOf25 Tk 0 (us := [_, _, _, _, _]) Az rfl rfl ?_
 have sp_1 := Fa.new_spec th va vo lk pl ao n c A (hr) (by first | rfl | assumption | omega | (simp; done) | (simp; omega)) (by omega) hok
 refine l_call rfl rfl rfl rfl rfl rfl Try.call9 (sp_1) Ts ?_
 rintro ⟨d, ⟨dpa, dpc⟩, dpo, dpoc⟩ -
 try simp only [List.cons_append, List.nil_append]
 refine ag_nil (q_move rfl rfl rfl rfl (q_extract rfl rfl rfl rfl rfl (q_extract rfl rfl rfl rfl rfl (q_assign rfl rfl rfl rfl (q_assign rfl rfl rfl rfl (r_done (s_keep [1, 2, 5, 6] (e' := [(1, _), (2, _), (5, _), (6, _)]) rfl ?_)))))))
 refine k_then_n (c_seq (c_plain (.q 0 ((.l 1 [] (.q 2 (.q 3 (.q 4 (.q 5 (.q 6 (.done))))))))) (by kernel_rfl) ?_))
 refine q_loadN_c rfl rfl rfl rfl Try.isAgg25 Try.sizeOf25 Tk 0 (us := [_, _, _, _, _]) Az rfl rfl ?_
 have sp_2 := Fa.new_spec th va vo lk pl ao n c A (hr) (by first | rfl | assumption | omega | (simp; done) | (simp; omega)) (by omega) hok
 refine l_call rfl rfl rfl rfl rfl rfl Try.call9 (sp_2) Ts ?_
 rintro ⟨cc, ⟨ccpa, ccpc⟩, ccpo, ccpoc⟩ -
 try simp only [List.cons_append, List.nil_append]
 refine ag_nil (q_move rfl rfl rfl rfl (q_extract rfl rfl rfl rfl rfl (q_extract rfl rfl rfl rfl rfl (q_assign rfl rfl rfl rfl (q_assign rfl rfl rfl rfl (r_done (s_keep [1, 2, 5, 6, 7, 8] (e' := [(1, _), (2, _), (5, _), (6, _), (7, _), (8, _)]) rfl ?_)))))))
 refine k_then_n (c_seq (s_big_nil (f := owA 1 encU) ?_))
 refine c_plain (.q 0 ((.l 1 [] (.q 2 (.q 3 (.q 4 (.q 5 (.q 6 (.done))))))))) (by kernel_rfl) ?_
 refine q_loadN_c rfl rfl rfl rfl Try.isAgg25 Try.sizeOf25 Tk 0 (us := [_, _, _, _, _]) Az rfl rfl ?_
 have sp_3 := Fr.rnew_spec th va vo lk pl ao n c A (hr)  (by first | rfl | assumption | omega | (simp; done) | (simp; omega)) (by omega) [] hok
 refine l_call rfl rfl rfl rfl rfl rfl Try.call10 (sp_3) Ts ?_
 rintro ⟨u, ⟨upa, upc⟩, uH⟩ huH
 try simp only [List.cons_append, List.nil_append]
 refine ag_nil (q_move rfl rfl rfl rfl (q_extract rfl rfl rfl rfl rfl (q_extract rfl rfl rfl rfl rfl (q_assign rfl rfl rfl rfl (q_assign rfl rfl rfl rfl (r_done (s_keep [1, 5, 6, 7, 8, 9, 10] (e' := [(1, _), (5, _), (6, _), (7, _), (8, _), (9, _), (10, _)]) rfl ?_)))))))
 refine k_then_n (c_seq (c_seq (c_plain (.q 0 (.q 1 (.q 2 (.q 3 (.q 4 (.q 5 (.q 6 (.q 7 (.q 8 (.q 9 (.q 10 (.q 11 (.q 12 (.q 13 (.q 14 (.q 15 (.q 16 (.q 17 (.q 18 (.q 19 (.q 20 (.q 21 (.done))))))))))))))))))))))) (by kernel_rfl) ?_)))
 refine q_move rfl rfl rfl rfl (q_move rfl rfl rfl rfl (q_int rfl rfl rfl rfl rfl (b_neq _ _ _ _) ?_))
 refine s_eq 35 rfl (v' := .bool false) (by first | rfl | simp) ?_
 refine q_move rfl rfl rfl rfl (q_move rfl rfl rfl rfl (q_move rfl rfl rfl rfl (q_int rfl rfl rfl rfl rfl (b_neq _ _ _ _) ?_)))
 refine s_eq 39 rfl (v' := .bool false) (by first | rfl | simp) ?_
 refine q_pick_f rfl rfl rfl rfl rfl (q_move rfl rfl rfl rfl (q_move rfl rfl rfl rfl (q_eq_nil rfl rfl rfl rfl Try.underlying27 ?_)))
 refine s_eq 43 rfl (v' := .bool false) rfl ?_
 refine q_move rfl rfl rfl rfl (q_eq_nil rfl rfl rfl rfl Try.underlying31 ?_)
 refine s_eq 45 rfl (v' := .bool false) rfl ?_
 refine q_neb rfl rfl rfl rfl rfl Try.underlying4 ?_
 refine s_eq 46 rfl (v' := .bool false) rfl ?_
 refine q_pick_f rfl rfl rfl rfl rfl (q_move rfl rfl rfl rfl (q_move rfl rfl rfl rfl (q_eq_nil rfl rfl rfl rfl Try.underlying27 ?_)))
 refine s_eq 50 rfl (v' := .bool false) rfl ?_
 refine q_move rfl rfl rfl rfl (q_eq_nil rfl rfl rfl rfl Try.underlying31 ?_)
 refine s_eq 52 rfl (v' := .bool false) rfl ?_
 refine q_neb rfl rfl rfl rfl rfl Try.underlying4 ?_
 refine s_eq 53 rfl (v' := .bool false) rfl ?_
 refine q_pick_f rfl rfl rfl rfl rfl (r_done (s_keep [1, 5, 7, 9, 54] (e' := [(1, _), (5, _), (7, _), (9, _), (54, _)]) rfl ?_))
 refine k_then_n (c_cond_f rfl ?_)
 refine c_skip (k_then_n (c_seq (c_seq (c_plain (.q 0 (.q 1 (.done))) (by kernel_rfl) ?_))))
 refine q_move rfl rfl rfl rfl (q_eq_nil rfl rfl rfl rfl Try.underlying27 ?_)
 refine s_eq 56 rfl (v' := .bool false) rfl ?_
 refine r_done (k_then_n (c_cond_f rfl ?_))
 refine c_skip (k_then_n (c_seq (c_plain (.q 0 ((.l 1 [] (.q 2 ((.l 3 [] ((.l 4 [] (.q 5 (.done)))))))))) (by kernel_rfl) ?_)))
 refine q_move rfl rfl rfl rfl (s_heap (fun _ h => own_nil (sz := 3) (enc := enc3) h) ?_)
 refine l_append (sz := 3) (enc := enc3) (xs := []) rfl rfl rfl rfl rfl Try.underlying26 Try.typeInfo36 rfl rfl rfl (by decide) Tk Tk (by first | rfl | omega | (simp; done) | (simp; omega)) (ys := es) (he) (by rfl) (by first | rfl | omega) (enc3_len) (enc3_one) (by omega) (by show _ * 24 ≤ _; omega) ?_
 intro ao59 cp59
 try simp only [List.nil_append]
 refine s_eq 59 rfl (v' := .slice ao59 m cp59) (by first | rfl | (congr 1; done) | (congr 1 <;> first | rfl | omega | (simp; done) | (simp; omega))) ?_
 refine ag_nil (q_build rfl rfl rfl rfl (vs := [_, _, _]) (run_buildS Try.underlying36 Try.zeroValue36 (ps := [(0, 1), (1, 1), (2, 1)]) ⟨rfl, Try.sizeOf34, rfl, Try.sizeOf3, rfl, Try.sizeOf3, trivial⟩ rfl) ?_)
 refine l_buildSlice rfl rfl rfl rfl (run_build1 (us := [_, _, _]) Try.underlying26 Try.sizeOf36 rfl Try.zeroValue36 rfl rfl rfl) ?_
 intro b61
 refine ag_nil (l_append (sz := 3) (enc := enc3) (xs := (es)) rfl rfl rfl rfl rfl Try.underlying26 Try.typeInfo36 rfl rfl rfl (by decide) Tk Tk (by first | rfl | omega | (simp; done) | (simp; omega)) (ys := [((-7), 0, 0)]) (rds_some rdn_cells) (by rfl) (by first | rfl | omega) (enc3_len) (enc3_one) (by omega) (by show _ * 24 ≤ _; omega) ?_)
 intro ao62 cp62
 refine ag_nil (q_assign rfl rfl rfl rfl (r_done (s_keep [1, 5, 7, 9, 11] (e' := [(1, _), (5, _), (7, _), (9, _), (11, _)]) rfl ?_)))
 refine k_then_n (c_seq ?_)
 have htk : (es ++ [((-7), 0, 0)]).take m = es := by rw [← hm]; exact List.take_left
 refine c_plain (.q 0 (.q 1 (.q 2 (.q 3 (.q 4 ((.l 5 [] (.q 6 (.q 7 (.q 8 (.q 9 (.q 10 (.done))))))))))))) (by kernel_rfl) ?_
 refine q_move rfl rfl rfl rfl (q_move rfl rfl rfl rfl (q_move rfl rfl rfl rfl (q_len rfl rfl rfl rfl Try.underlying26 ?_)))
 refine s_take (A := own 3 enc3 ao62 cp62 ((es) ++ ([((-7), 0, 0)]))) Tk ?_
 refine own_fc fun f_4a f_4b f_4c => ?_
 refine q_cut_hi (h' := m) rfl rfl rfl rfl rfl Try.underlying26 Try.sizeOf36 (by first | rfl | omega) (by first | omega | (have hcap_ := f_4a; simp only [List.length_append, List.length_map, List.length_replicate, List.length_cons, List.length_nil] at hcap_; omega)) ?_
 have sp_5 := Fa.events_spec ccpa ccpc ccpo ccpoc cc (fNew th va vo lk pl) (new_finv hok (new_inv hok)) (by show (0 : Int) ≤ _; decide) pl rfl es ao62 m cp62 (own 3 enc3 ao62 cp62 ((es) ++ ([((-7), 0, 0)]))) ((Eq.subst (motive := fun l_ => RdS _ _ (List.flatMap enc3 l_)) htk (rds_take (rds_own enc3_len (fun h => (f_4b h).1) f_4c) enc3_len m))) (by first | rfl | assumption | omega | (simp; done) | (simp; omega)) (by omega)
 refine l_call rfl rfl rfl rfl rfl rfl Try.call12 (sp_5) Ts ?_
 rintro ni ⟨hni1, hni2, hni3⟩
 try simp only [List.cons_append, List.nil_append]
 refine ag_nil (q_move rfl rfl rfl rfl (q_extract rfl rfl rfl rfl rfl (q_extract rfl rfl rfl rfl rfl (q_assign rfl rfl rfl rfl (q_assign rfl rfl rfl rfl (r_done (s_keep [1, 5, 9, 11, 12, 13] (e' := [(1, _), (5, _), (9, _), (11, _), (12, _), (13, _)]) rfl ?_)))))))
 refine k_then_n (c_seq (c_plain (.q 0 (.done)) (by kernel_rfl) ?_))
 refine q_assign rfl rfl rfl rfl (r_done (k_then_n (c_seq (c_plain (.q 0 (.done)) (by kernel_rfl) ?_))))
 refine q_assign rfl rfl rfl rfl (r_done (k_then_n (c_seq (c_seq (c_plain (.q 0 (.done)) (by kernel_rfl) ?_)))))
 refine q_assign rfl rfl rfl rfl (r_done (k_then_n (c_block ?_)))
 refine c_loop2 (α := Nat × List H × Bool) (fun (x_ : Nat × List H × Bool) => match x_ with | (i, M, g) => i ≤ m ∧ (g = true → okFAll (fNew th va vo lk pl) (es.take i))) (fun (x_ : Nat × List H × Bool) => match x_ with | (i, M, g) => [(14, .int .i64 ((i : Nat) : Int)), (15, .bool g), (16, .int .i64 ((i : Nat) : Int))]) (fun (x_ : Nat × List H × Bool) => match x_ with | (i, M, g) => [dfR dpa dpc dpo dpoc d (fAll (fNew th va vo lk pl) (es.take i)), own 1 encZ dpa dpc pl, own 1 encZ dpo dpoc pl, rfR upa upc u M (fAll (fNew th va vo lk pl) (es.take i)), own 1 encZ upa upc pl, bigS (owA 1 encU) M]) (fun (x_ : Nat × List H × Bool) => match x_ with | (i, M, g) => m - i) [1, 5, 9, 11, 12, 13] (er := [(1, _), (5, _), (9, _), (11, _), (12, _), (13, _)]) rfl (0, [] ++ [uH], true) ?_ (by exact ⟨rfl, rfl, rfl, trivial⟩) (by (try dsimp only); rw [List.take_zero, show fAll (fNew th va vo lk pl) [] = (fNew th va vo lk pl) from rfl]; (repeat ((with_reducible apply Z2); focus (first | (with_reducible (repeat (first | exact Z0 | apply Z1)); done) | (repeat (first | exact Z0 | apply Z1))))); exact Z3) ?_
 · exact ⟨Nat.zero_le _, fun _ j e h => by simp at h⟩
 rintro ⟨i, M, g⟩ ⟨hle_i, hgo⟩
 try simp only [List.cons_append, List.nil_append]
 obtain ⟨hdn, -⟩ := fAll_n (es.take i) (fNew th va vo lk pl)
 rw [List.length_take, show (fNew th va vo lk pl).v.ck.n = 0 from rfl] at hdn
 refine c_seq (c_seq (c_plain (.q 0 (.q 1 (.q 2 (.q 3 (.done))))) (by kernel_rfl) ?_))
 refine q_move rfl rfl rfl rfl (q_move rfl rfl rfl rfl (q_len rfl rfl rfl rfl Try.underlying26 ?_))
 refine q_int rfl rfl rfl rfl rfl (b_lss _ _ _ _) ?_
 refine r_done (k_then_n ?_)
 refine c_cond_p rfl (fun hlt => ?_) (fun hlt => ?_)
 ·
  refine c_skip (k_then_n (c_seq (c_block (c_seq (c_seq ?_)))))
  obtain ⟨ev, hev⟩ := get_lt (l := es) (i := i) (by omega)
  have hevf : (es ++ [((-7), 0, 0)])[i]? = some ev := by rw [List.getElem?_append_left (by omega)]; exact hev
  refine c_draw rfl (.q 0 (.q 1 (.q 2 (.q 3 (.q 4 (.q 5 (.q 6 (.q 7 (.q 8 (.done)))))))))) (by kernel_rfl) ?_
  refine q_move rfl rfl rfl rfl (q_move rfl rfl rfl rfl (q_idxO (sz := 2) (k := i) (enc := enc3) (xs := ((es) ++ ([((-7), 0, 0)]))) rfl rfl rfl rfl rfl Try.underlying26 Try.sizeOf36 hevf (by first | rfl | omega) (by omega) Tk ?_))
  intro ib80 io80 ha80 hl80 hc80
  refine q_loadN_O (j := 0) (k' := i) (us := [_, _, _]) (enc := enc3) (off := io80) rfl rfl rfl rfl Try.isAgg36 Try.sizeOf36 ha80 enc3_len hevf Tk (by first | rfl | exact (Nat.add_zero _).symm | omega) (by rfl) rfl ?_
  refine q_move rfl rfl rfl rfl (q_move rfl rfl rfl rfl (q_idxR (sz := 2) (k := i) rfl rfl rfl rfl rfl Try.underlying26 Try.sizeOf36 (he) hev enc3_len (by first | rfl | omega) (by omega) ?_))
  intro ib84 io84 _ hd84
  refine q_loadN (vs := [_, _, _]) rfl rfl rfl rfl Try.isAgg36 Try.sizeOf36 Tk (hd84) rfl ?_
  refine q_neS rfl rfl rfl rfl rfl (by kernel_rfl) (eqc_struct Try.underlying36 (by kernel_rfl) (eqf_cons rfl Try.isAgg34 rfl rfl (eqc_int Try.underlying34) (eqf_cons rfl Try.isAgg3 rfl rfl (eqc_int Try.underlying3) (eqf_last rfl Try.isAgg3 rfl rfl (eqc_int Try.underlying3))))) ?_
  refine s_eq 86 rfl (v' := .bool (decide (ev ≠ ev))) (by first | (congr 1; done) | (congr 1; rw [Bool.eq_iff_iff]; simp [Prod.ext_iff, and_assoc])) ?_
  refine s_eq 86 rfl (v' := .bool false) (by first | rfl | simp) ?_
  refine r_done (s_keep [1, 5, 9, 11, 12, 13, 14, 15, 16, 86] (e' := [(1, _), (5, _), (9, _), (11, _), (12, _), (13, _), (14, _), (15, _), (16, _), (86, _)]) rfl ?_)
  refine k_then_n (c_cond_f rfl ?_)
  refine c_skip (k_then_n (c_seq (c_plain (.q 0 (.q 1 (.q 2 (.q 3 (.q 4 ((.l 5 [] (.q 6 (.done))))))))) (by kernel_rfl) ?_)))
  refine q_move rfl rfl rfl rfl (q_move rfl rfl rfl rfl (q_move rfl rfl rfl rfl (q_idxR (sz := 2) (k := i) rfl rfl rfl rfl rfl Try.underlying26 Try.sizeOf36 (he) hev enc3_len (by first | rfl | omega) (by omega) ?_)))
  intro ib90 io90 _ hd90
  refine q_loadN (vs := [_, _, _]) rfl rfl rfl rfl Try.isAgg36 Try.sizeOf36 Tk (hd90) rfl ?_
  have sp_6 := Fr.revent_spec upa upc u M (fAll (fNew th va vo lk pl) (es.take i)) (fAll_inv (new_finv hok (new_inv hok)) _) (by omega) pl ((fAll_n _ _).2.1) ev.1 ev.2.1 ev.2.2
  refine l_call rfl rfl rfl rfl rfl rfl Try.call13 (sp_6) Ts ?_
  rintro M2 hM2
  try simp only [List.cons_append, List.nil_append]
  refine ag_nil (q_assign rfl rfl rfl rfl (r_done (s_keep [1, 5, 9, 11, 12, 13, 14, 15, 16, 17] (e' := [(1, _), (5, _), (9, _), (11, _), (12, _), (13, _), (14, _), (15, _), (16, _), (17, _)]) rfl ?_)))
  refine k_then_n (c_seq (c_seq (c_plain (.q 0 (.q 1 (.q 2 (.q 3 (.q 4 ((.l 5 [] (.q 6 (.q 7 (.done)))))))))) (by kernel_rfl) ?_)))
  refine q_move rfl rfl rfl rfl (q_move rfl rfl rfl rfl (q_move rfl rfl rfl rfl (q_idxR (sz := 2) (k := i) rfl rfl rfl rfl rfl Try.underlying26 Try.sizeOf36 (he) hev enc3_len (by first | rfl | omega) (by omega) ?_)))
  intro ib96 io96 _ hd96
  refine q_loadN (vs := [_, _, _]) rfl rfl rfl rfl Try.isAgg36 Try.sizeOf36 Tk (hd96) rfl ?_
  have sp_7 := Fa.event_spec dpa dpc dpo dpoc d (fAll (fNew th va vo lk pl) (es.take i)) (fAll_inv (new_finv hok (new_inv hok)) _) (by omega) pl ((fAll_n _ _).2.1) ev.1 ev.2.1 ev.2.2
  refine l_call rfl rfl rfl rfl rfl rfl Try.call14 (sp_7) Ts ?_
  rintro ⟨⟩ -
  try simp only [List.cons_append, List.nil_append]
  refine ag_nil (q_move rfl rfl rfl rfl (q_int rfl rfl rfl rfl rfl (b_neq _ _ _ _) ?_))
  refine s_eq 100 rfl (v' := .bool false) (by first | rfl | simp) ?_
  refine r_done (s_keep [1, 5, 9, 11, 12, 13, 14, 15, 16, 17, 100] (e' := [(1, _), (5, _), (9, _), (11, _), (12, _), (13, _), (14, _), (15, _), (16, _), (17, _), (100, _)]) rfl ?_)
  refine k_then_n (c_cond_f rfl ?_)
  refine c_skip (k_then_n (c_seq (c_seq (c_plain (.q 0 (.q 1 (.done))) (by kernel_rfl) ?_))))
  refine q_move rfl rfl rfl rfl (q_int rfl rfl rfl rfl rfl (b_neq _ _ _ _) ?_)
  refine r_done (k_then_n ?_)
  refine c_cond_p rfl (fun hne => ?_) (fun hne => ?_)
  ·
   have hnc : ¬ canFE (fAll (fNew th va vo lk pl) (es.take i)) ev := fun h => hne (if_pos h)
   refine c_seq (c_seq (c_plain (.q 0 (.q 1 (.q 2 (.q 3 (.q 4 (.q 5 (.q 6 (.q 7 (.q 8 (.q 9 (.q 10 (.q 11 (.q 12 (.q 13 ((.l 14 [] (.q 15 (.q 16 (.done))))))))))))))))))) (by kernel_rfl) ?_))
   refine q_move rfl rfl rfl rfl (q_move rfl rfl rfl rfl ?_)
   refine s_bool 104 rfl (fun hg => ?_) (fun hg => ?_)
   ·
    try simp only [Bool.and_eq_true, Bool.or_eq_true, Bool.not_eq_true', Bool.not_eq_false', Bool.and_eq_false_iff, Bool.or_eq_false_iff, decide_eq_true_eq, decide_eq_false_iff_not] at hg
    have hni : ni = i := first_no hm hev hni1 hni2 hni3 (hgo hg) hnc
    refine q_move rfl rfl rfl rfl (q_move rfl rfl rfl rfl (q_int rfl rfl rfl rfl rfl (b_neq _ _ _ _) ?_))
    refine s_eq 107 rfl (v' := .bool false) (by rw [hni]; simp) ?_
    refine q_move rfl rfl rfl rfl (q_move rfl rfl rfl rfl (q_move rfl rfl rfl rfl (q_int rfl rfl rfl rfl rfl (b_neq _ _ _ _) ?_)))
    refine s_eq 111 rfl (v' := .bool false) (by rw [if_neg (by omega), show feE (fAll (fNew th va vo lk pl) (es.take i)) ev.1 ev.2.1 ev.2.2 = 6 from if_neg hnc]; rfl) ?_
    refine q_pick_f rfl rfl rfl rfl rfl (q_pick_t rfl rfl rfl rfl rfl (q_move rfl rfl rfl rfl (q_move rfl rfl rfl rfl (q_move rfl rfl rfl rfl ?_))))
    have sp_8 := alike_spec dpa dpc dpo dpoc d upa upc u M2 (feF (fAll (fNew th va vo lk pl) (es.take i)) ev.1 ev.2.1 ev.2.2) (fe_inv (fAll_inv (new_finv hok (new_inv hok)) _) ev.1 ev.2.1 ev.2.2)
    refine l_call rfl rfl rfl rfl rfl rfl Try.call15 (sp_8) Ts ?_
    rintro ⟨⟩ -
    try simp only [List.cons_append, List.nil_append]
    refine ag_nil (q_not rfl rfl rfl rfl ?_)
    refine s_eq 118 rfl (v' := .bool false) rfl ?_
    refine q_pick_f rfl rfl rfl rfl rfl (r_done (s_keep [1, 5, 9, 11, 12, 13, 14, 16, 105, 106, 107, 108, 109, 110, 111, 112, 115, 116, 117, 118, 119] (e' := [(1, _), (5, _), (9, _), (11, _), (12, _), (13, _), (14, _), (16, _), (105, _), (106, _), (107, _), (108, _), (109, _), (110, _), (111, _), (112, _), (115, _), (116, _), (117, _), (118, _), (119, _)]) rfl ?_))
    refine k_then_n (c_cond_f rfl ?_)
    refine c_skip (k_then_n (c_plain (.q 0 (.done)) (by kernel_rfl) ?_))
    refine q_assign rfl rfl rfl rfl (r_done (k_then_n (c_plain (.q 0 (.q 1 (.q 2 (.done)))) (by kernel_rfl) ?_)))
    refine q_move rfl rfl rfl rfl (q_int rfl rfl rfl rfl rfl (b_add' _ (by exact fits_i64 (by omega) (by omega))) ?_)
    refine q_assign rfl rfl rfl rfl (r_done (k_blk_n (k_then_n (c_plain (.q 0 (.q 1 (.q 2 (.done)))) (by kernel_rfl) ?_))))
    refine q_move rfl rfl rfl rfl (q_int rfl rfl rfl rfl rfl (b_add' _ (by exact fits_i64 (by omega) (by omega))) ?_)
    refine q_assign rfl rfl rfl rfl (r_done (s_keep [1, 5, 9, 11, 12, 13, 14, 15, 16, 105, 106, 107, 108, 109, 110, 111, 112, 115, 116, 117, 118] (e' := [(1, _), (5, _), (9, _), (11, _), (12, _), (13, _), (14, _), (15, _), (16, _), (105, _), (106, _), (107, _), (108, _), (109, _), (110, _), (111, _), (112, _), (115, _), (116, _), (117, _), (118, _)]) rfl ?_))
    refine k_then_n ?_
    rw [show feF (fAll (fNew th va vo lk pl) (es.take i)) ev.1 ev.2.1 ev.2.2 = (fAll (fNew th va vo lk pl) (es.take (i + 1))) from (fAll_next hev).symm]
    refine loop_next (x := (i, M, g)) ((i + 1, M2, false)) ?_ ?_ ?_ ?_
    · try dsimp only
      exact ⟨by omega, fun h => (by cases h)⟩
    · show m - (i + 1) < m - i; omega
    · exact ⟨rfl, rfl, rfl, rfl, rfl, rfl, rfl, rfl, rfl, trivial⟩
    · (try simp only [List.cons_append, List.nil_append]); exact Tf
   try simp only [Bool.and_eq_true, Bool.or_eq_true, Bool.not_eq_true', Bool.not_eq_false', Bool.and_eq_false_iff, Bool.or_eq_false_iff, decide_eq_true_eq, decide_eq_false_iff_not] at hg
   refine q_skip rfl rfl rfl rfl (q_skip rfl rfl rfl rfl (q_skip rfl rfl rfl rfl (q_skip rfl rfl rfl rfl (q_skip rfl rfl rfl rfl (q_skip rfl rfl rfl rfl (q_skip rfl rfl rfl rfl (q_skip rfl rfl rfl rfl (q_pick_f rfl rfl rfl rfl rfl ?_))))))))
   refine q_move rfl rfl rfl rfl (q_move rfl rfl rfl rfl (q_move rfl rfl rfl rfl ?_))
   have sp_9 := alike_spec dpa dpc dpo dpoc d upa upc u M2 (feF (fAll (fNew th va vo lk pl) (es.take i)) ev.1 ev.2.1 ev.2.2) (fe_inv (fAll_inv (new_finv hok (new_inv hok)) _) ev.1 ev.2.1 ev.2.2)
   refine l_call rfl rfl rfl rfl rfl rfl Try.call15 (sp_9) Ts ?_
   rintro ⟨⟩ -
   try simp only [List.cons_append, List.nil_append]
   refine ag_nil (q_not rfl rfl rfl rfl ?_)
   refine s_eq 118 rfl (v' := .bool false) rfl ?_
   refine q_pick_f rfl rfl rfl rfl rfl (r_done (s_keep [1, 5, 9, 11, 12, 13, 14, 16, 105, 106, 107, 108, 109, 110, 111, 112, 115, 116, 117, 118, 119] (e' := [(1, _), (5, _), (9, _), (11, _), (12, _), (13, _), (14, _), (16, _), (105, _), (106, _), (107, _), (108, _), (109, _), (110, _), (111, _), (112, _), (115, _), (116, _), (117, _), (118, _), (119, _)]) rfl ?_))
   refine k_then_n (c_cond_f rfl ?_)
   refine c_skip (k_then_n (c_plain (.q 0 (.done)) (by kernel_rfl) ?_))
   refine q_assign rfl rfl rfl rfl (r_done (k_then_n (c_plain (.q 0 (.q 1 (.q 2 (.done)))) (by kernel_rfl) ?_)))
   refine q_move rfl rfl rfl rfl (q_int rfl rfl rfl rfl rfl (b_add' _ (by exact fits_i64 (by omega) (by omega))) ?_)
   refine q_assign rfl rfl rfl rfl (r_done (k_blk_n (k_then_n (c_plain (.q 0 (.q 1 (.q 2 (.done)))) (by kernel_rfl) ?_))))
   refine q_move rfl rfl rfl rfl (q_int rfl rfl rfl rfl rfl (b_add' _ (by exact fits_i64 (by omega) (by omega))) ?_)
   refine q_assign rfl rfl rfl rfl (r_done (s_keep [1, 5, 9, 11, 12, 13, 14, 15, 16, 105, 106, 107, 108, 109, 110, 111, 112, 115, 116, 117, 118] (e' := [(1, _), (5, _), (9, _), (11, _), (12, _), (13, _), (14, _), (15, _), (16, _), (105, _), (106, _), (107, _), (108, _), (109, _), (110, _), (111, _), (112, _), (115, _), (116, _), (117, _), (118, _)]) rfl ?_))
   refine k_then_n ?_
   rw [show feF (fAll (fNew th va vo lk pl) (es.take i)) ev.1 ev.2.1 ev.2.2 = (fAll (fNew th va vo lk pl) (es.take (i + 1))) from (fAll_next hev).symm]
   refine loop_next (x := (i, M, g)) ((i + 1, M2, false)) ?_ ?_ ?_ ?_
   · try dsimp only
     exact ⟨by omega, fun h => (by cases h)⟩
   · show m - (i + 1) < m - i; omega
   · exact ⟨rfl, rfl, rfl, rfl, rfl, rfl, rfl, rfl, rfl, trivial⟩
   · (try simp only [List.cons_append, List.nil_append]); exact Tf
  have hcan : canFE (fAll (fNew th va vo lk pl) (es.take i)) ev := Classical.byContradiction fun h => hne (by rw [show feE (fAll (fNew th va vo lk pl) (es.take i)) ev.1 ev.2.1 ev.2.2 = 6 from if_neg h]; decide)
  refine c_skip (k_then_n (c_plain (.q 0 (.q 1 (.q 2 (.done)))) (by kernel_rfl) ?_))
  refine q_move rfl rfl rfl rfl (q_int rfl rfl rfl rfl rfl (b_add' _ (by exact fits_i64 (by omega) (by omega))) ?_)
  refine q_assign rfl rfl rfl rfl (r_done (s_keep [1, 5, 9, 11, 12, 13, 14, 15, 16] (e' := [(1, _), (5, _), (9, _), (11, _), (12, _), (13, _), (14, _), (15, _), (16, _)]) rfl ?_))
  refine k_blk_n (k_then_n (c_plain (.q 0 (.q 1 (.q 2 (.done)))) (by kernel_rfl) ?_))
  refine q_move rfl rfl rfl rfl (q_int rfl rfl rfl rfl rfl (b_add' _ (by exact fits_i64 (by omega) (by omega))) ?_)
  refine q_assign rfl rfl rfl rfl (r_done (k_then_n ?_))
  rw [show feF (fAll (fNew th va vo lk pl) (es.take i)) ev.1 ev.2.1 ev.2.2 = (fAll (fNew th va vo lk pl) (es.take (i + 1))) from (fAll_next hev).symm]
  refine loop_next (x := (i, M, g)) ((i + 1, M2, g)) ?_ ?_ ?_ ?_
  · try dsimp only
    exact ⟨by omega, fun h => okF_next hev (hgo h) hcan⟩
  · show m - (i + 1) < m - i; omega
  · exact ⟨rfl, rfl, rfl, rfl, rfl, rfl, rfl, rfl, rfl, trivial⟩
  · (try simp only [List.cons_append, List.nil_append]); exact Tf
 refine c_exit (k_then_exit (k_then_exit (k_blk_here (k_then_n (c_seq ?_)))))
 have him : i = m := by omega
 have hm7 : (es ++ [((-7), 0, 0)])[m]? = some ((-7), 0, 0) := by rw [← hm, List.getElem?_append_right (Nat.le_refl _), Nat.sub_self]; rfl
 refine c_plain (.q 0 (.q 1 (.q 2 (.q 3 (.q 4 (.q 5 (.q 6 (.q 7 (.q 8 (.q 9 (.q 10 (.q 11 (.q 12 (.q 13 (.q 14 (.q 15 (.q 16 (.q 17 (.q 18 (.q 19 (.q 20 (.q 21 (.q 22 (.q 23 ((.l 24 [] (.q 25 (.q 26 ((.l 27 [] (.q 28 (.q 29 (.done))))))))))))))))))))))))))))))))) (by kernel_rfl) ?_
 refine q_move rfl rfl rfl rfl (q_not rfl rfl rfl rfl ?_)
 refine q_move rfl rfl rfl rfl ?_
 refine s_bool 124 rfl (fun hng => ?_) (fun hng => ?_)
 ·
  try simp only [Bool.and_eq_true, Bool.or_eq_true, Bool.not_eq_true', Bool.not_eq_false', Bool.and_eq_false_iff, Bool.or_eq_false_iff, decide_eq_true_eq, decide_eq_false_iff_not] at hng
  refine q_skip rfl rfl rfl rfl (q_skip rfl rfl rfl rfl (q_skip rfl rfl rfl rfl (q_skip rfl rfl rfl rfl (q_skip rfl rfl rfl rfl (q_skip rfl rfl rfl rfl (q_skip rfl rfl rfl rfl (q_skip rfl rfl rfl rfl (q_pick_t rfl rfl rfl rfl rfl ?_))))))))
  refine q_move rfl rfl rfl rfl (q_move rfl rfl rfl rfl (q_move rfl rfl rfl rfl (q_len rfl rfl rfl rfl Try.underlying26 ?_)))
  refine q_idxO (sz := 2) (k := m) (enc := enc3) (xs := ((es) ++ ([((-7), 0, 0)]))) rfl rfl rfl rfl rfl Try.underlying26 Try.sizeOf36 hm7 (by first | rfl | omega) (by omega) Tk ?_
  intro ib138 io138 ha138 hl138 hc138
  refine q_field (k := 0) rfl rfl rfl rfl Try.underlying36 rfl Try.sizeOf34 rfl ?_
  refine q_load_O (v := (.int .i64 (-7))) (j := 0) (k' := m) (enc := enc3) (off := io138) rfl rfl rfl rfl Try.isAgg34 ha138 enc3_len hm7 Tk (by first | rfl | exact (Nat.add_zero _).symm | omega) (by rfl) ?_
  refine q_int rfl rfl rfl rfl rfl (b_eql _ _ _ _) ?_
  refine s_eq 141 rfl (v' := .bool true) (by first | rfl | simp) ?_
  refine q_pick_t rfl rfl rfl rfl rfl (q_move rfl rfl rfl rfl (q_move rfl rfl rfl rfl (q_move rfl rfl rfl rfl ?_)))
  have sp_10 := alike_spec dpa dpc dpo dpoc d upa upc u M (fAll (fNew th va vo lk pl) (es.take i)) (fAll_inv (new_finv hok (new_inv hok)) _)
  refine l_call rfl rfl rfl rfl rfl rfl Try.call15 (sp_10) Ts ?_
  rintro ⟨⟩ -
  try simp only [List.cons_append, List.nil_append]
  refine ag_nil (q_pick_t rfl rfl rfl rfl rfl (q_move rfl rfl rfl rfl ?_))
  have sp_11 := known_spec
  refine l_call rfl rfl rfl rfl rfl rfl Try.call11 (sp_11) Ts ?_
  rintro ⟨⟩ -
  try simp only [List.cons_append, List.nil_append]
  refine ag_nil (q_pick_t rfl rfl rfl rfl rfl (q_assign rfl rfl rfl rfl (r_done (s_keep [4] (e' := [(4, _)]) rfl ?_))))
  refine k_then_n (c_ret (ret1 rfl rfl (()) (by first | rfl | (first | rfl | (congr 1; done) | (congr 1 <;> first | rfl | omega | (simp; done) | (simp; omega)))) (by trivial) ?_))
  exact Tf
 try simp only [Bool.and_eq_true, Bool.or_eq_true, Bool.not_eq_true', Bool.not_eq_false', Bool.and_eq_false_iff, Bool.or_eq_false_iff, decide_eq_true_eq, decide_eq_false_iff_not] at hng
 have hnm : ni = m := first_all hm hni1 hni3 (by rw [← him]; exact hgo hng)
 refine q_move rfl rfl rfl rfl (q_move rfl rfl rfl rfl (q_len rfl rfl rfl rfl Try.underlying26 ?_))
 refine q_int rfl rfl rfl rfl rfl (b_eql _ _ _ _) ?_
 refine s_eq 128 rfl (v' := .bool true) (by rw [hnm]; simp) ?_
 refine q_move rfl rfl rfl rfl (q_move rfl rfl rfl rfl (q_int rfl rfl rfl rfl rfl (b_eql _ _ _ _) ?_))
 refine s_eq 131 rfl (v' := .bool true) (by rw [if_pos hnm]; rfl) ?_
 refine q_pick_t rfl rfl rfl rfl rfl (q_pick_f rfl rfl rfl rfl rfl (q_move rfl rfl rfl rfl (q_move rfl rfl rfl rfl (q_move rfl rfl rfl rfl (q_len rfl rfl rfl rfl Try.underlying26 ?_)))))
 refine q_idxO (sz := 2) (k := m) (enc := enc3) (xs := ((es) ++ ([((-7), 0, 0)]))) rfl rfl rfl rfl rfl Try.underlying26 Try.sizeOf36 hm7 (by first | rfl | omega) (by omega) Tk ?_
 intro ib138 io138 ha138 hl138 hc138
 refine q_field (k := 0) rfl rfl rfl rfl Try.underlying36 rfl Try.sizeOf34 rfl ?_
 refine q_load_O (v := (.int .i64 (-7))) (j := 0) (k' := m) (enc := enc3) (off := io138) rfl rfl rfl rfl Try.isAgg34 ha138 enc3_len hm7 Tk (by first | rfl | exact (Nat.add_zero _).symm | omega) (by rfl) ?_
 refine q_int rfl rfl rfl rfl rfl (b_eql _ _ _ _) ?_
 refine s_eq 141 rfl (v' := .bool true) (by first | rfl | simp) ?_
 refine q_pick_t rfl rfl rfl rfl rfl (q_move rfl rfl rfl rfl (q_move rfl rfl rfl rfl (q_move rfl rfl rfl rfl ?_)))
 have sp_12 := alike_spec dpa dpc dpo dpoc d upa upc u M (fAll (fNew th va vo lk pl) (es.take i)) (fAll_inv (new_finv hok (new_inv hok)) _)
 refine l_call rfl rfl rfl rfl rfl rfl Try.call15 (sp_12) Ts ?_
 rintro ⟨⟩ -
 try simp only [List.cons_append, List.nil_append]
 refine ag_nil (q_pick_t rfl rfl rfl rfl rfl (q_move rfl rfl rfl rfl ?_))
 have sp_13 := known_spec
 refine l_call rfl rfl rfl rfl rfl rfl Try.call11 (sp_13) Ts ?_
 rintro ⟨⟩ -
 try simp only [List.cons_append, List.nil_append]
 refine ag_nil (q_pick_t rfl rfl rfl rfl rfl (q_assign rfl rfl rfl rfl (r_done (s_keep [4] (e' := [(4, _)]) rfl ?_))))
 refine k_then_n (c_ret (ret1 rfl rfl (()) (by first | rfl | (first | rfl | (congr 1; done) | (congr 1 <;> first | rfl | omega | (simp; done) | (simp; omega)))) (by trivial) ?_))
 exact Tf
theorem refused_bad (th va vo lk : Int) (pl : List Int) (ao : Option Addr) (n c : Nat) (A : HProp) (hr : RdS A ao (pl.flatMap encZ)) (hn : pl.length = n) (hb : n ≤ 4000000) (es : List T3) (eo : Option Addr) (m ec : Nat) (he : RdS A eo (es.flatMap enc3)) (hm : es.length = m) (hmb : m ≤ 4000000) (hok : ¬ OkS th va vo lk pl) : Spec Try.prog 4 [.agg #[.int .i64 th, .int .i64 va, .int .i64 vo, .int .i64 lk, .slice ao n c], .slice eo m ec] [A] (fun (_ : Unit) => .bool true) (fun _ => True) (fun _ => [A]) := by
 refine spec_mk (n := 151) Try.func4 rfl rfl rfl ?_
 intro Γ w0
 simp only [argE, List.cons_append, List.nil_append, Nat.zero_add, Nat.reduceAdd]
 refine c_seq (c_plain ((.l 0 [] (.q 1 (.done)))) (by kernel_rfl) ?_)
 refine l_box rfl rfl rfl rfl (us := [_, _, _, _, _]) rfl ?_
 intro b2
 refine ag_nil (q_assign rfl rfl rfl rfl (r_done (k_then_n (c_seq (c_plain (.q 0 ((.l 1 [] (.q 2 (.q 3 (.q 4 (.q 5 (.q 6 (.done))))))))) (by kernel_rfl) ?_)))))
 refine q_loadN_c rfl rfl rfl rfl Try.isAgg25 Try.sizeOf25 Tk 0 (us := [_, _, _, _, _]) Az rfl rfl ?_
 have sp_1 := Fa.newbad_spec th va vo lk pl ao n c A (hr) (by first | rfl | assumption | omega | (simp; done) | (simp; omega)) (by omega) hok
 refine l_call rfl rfl rfl rfl rfl rfl Try.call9 (sp_1) Ts ?_
 rintro ⟨⟩ -
 try simp only [List.cons_append, List.nil_append]
 refine ag_nil (q_move rfl rfl rfl rfl (q_extract rfl rfl rfl rfl rfl (q_extract rfl rfl rfl rfl rfl (q_assign rfl rfl rfl rfl (q_assign rfl rfl rfl rfl (r_done (s_keep [1, 2, 5, 6] (e' := [(1, _), (2, _), (5, _), (6, _)]) rfl ?_)))))))
 refine k_then_n (c_seq (c_plain (.q 0 ((.l 1 [] (.q 2 (.q 3 (.q 4 (.q 5 (.q 6 (.done))))))))) (by kernel_rfl) ?_))
 refine q_loadN_c rfl rfl rfl rfl Try.isAgg25 Try.sizeOf25 Tk 0 (us := [_, _, _, _, _]) Az rfl rfl ?_
 have sp_2 := Fa.newbad_spec th va vo lk pl ao n c A (hr) (by first | rfl | assumption | omega | (simp; done) | (simp; omega)) (by omega) hok
 refine l_call rfl rfl rfl rfl rfl rfl Try.call9 (sp_2) Ts ?_
 rintro ⟨⟩ -
 try simp only [List.cons_append, List.nil_append]
 refine ag_nil (q_move rfl rfl rfl rfl (q_extract rfl rfl rfl rfl rfl (q_extract rfl rfl rfl rfl rfl (q_assign rfl rfl rfl rfl (q_assign rfl rfl rfl rfl (r_done (s_keep [1, 2, 5, 6, 7, 8] (e' := [(1, _), (2, _), (5, _), (6, _), (7, _), (8, _)]) rfl ?_)))))))
 refine k_then_n (c_seq (c_plain (.q 0 ((.l 1 [] (.q 2 (.q 3 (.q 4 (.q 5 (.q 6 (.done))))))))) (by kernel_rfl) ?_))
 refine q_loadN_c rfl rfl rfl rfl Try.isAgg25 Try.sizeOf25 Tk 0 (us := [_, _, _, _, _]) Az rfl rfl ?_
 have sp_3 := Fr.rnewbad_spec th va vo lk pl ao n c A (hr)  (by first | rfl | assumption | omega | (simp; done) | (simp; omega)) (by omega) hok
 refine l_call rfl rfl rfl rfl rfl rfl Try.call10 (sp_3) Ts ?_
 rintro ⟨⟩ -
 try simp only [List.cons_append, List.nil_append]
 refine ag_nil (q_move rfl rfl rfl rfl (q_extract rfl rfl rfl rfl rfl (q_extract rfl rfl rfl rfl rfl (q_assign rfl rfl rfl rfl (q_assign rfl rfl rfl rfl (r_done (s_keep [1, 5, 6, 7, 8, 9, 10] (e' := [(1, _), (5, _), (6, _), (7, _), (8, _), (9, _), (10, _)]) rfl ?_)))))))
 refine k_then_n (c_seq (c_seq (c_plain (.q 0 (.q 1 (.q 2 (.q 3 (.q 4 (.q 5 (.q 6 (.q 7 (.q 8 (.q 9 (.q 10 (.q 11 (.q 12 (.q 13 (.q 14 (.q 15 (.q 16 (.q 17 (.q 18 (.q 19 (.q 20 (.q 21 (.done))))))))))))))))))))))) (by kernel_rfl) ?_)))
 refine q_move rfl rfl rfl rfl (q_move rfl rfl rfl rfl (q_int rfl rfl rfl rfl rfl (b_neq _ _ _ _) ?_))
 refine s_eq 35 rfl (v' := .bool false) (by first | rfl | simp) ?_
 refine q_move rfl rfl rfl rfl (q_move rfl rfl rfl rfl (q_move rfl rfl rfl rfl (q_int rfl rfl rfl rfl rfl (b_neq _ _ _ _) ?_)))
 refine s_eq 39 rfl (v' := .bool false) (by first | rfl | simp) ?_
 refine q_pick_f rfl rfl rfl rfl rfl (q_move rfl rfl rfl rfl (q_move rfl rfl rfl rfl (q_eq_nil rfl rfl rfl rfl Try.underlying27 ?_)))
 refine s_eq 43 rfl (v' := .bool true) rfl ?_
 refine q_move rfl rfl rfl rfl (q_eq_nil rfl rfl rfl rfl Try.underlying31 ?_)
 refine s_eq 45 rfl (v' := .bool true) rfl ?_
 refine q_neb rfl rfl rfl rfl rfl Try.underlying4 ?_
 refine s_eq 46 rfl (v' := .bool false) rfl ?_
 refine q_pick_f rfl rfl rfl rfl rfl (q_move rfl rfl rfl rfl (q_move rfl rfl rfl rfl (q_eq_nil rfl rfl rfl rfl Try.underlying27 ?_)))
 refine s_eq 50 rfl (v' := .bool true) rfl ?_
 refine q_move rfl rfl rfl rfl (q_eq_nil rfl rfl rfl rfl Try.underlying31 ?_)
 refine s_eq 52 rfl (v' := .bool true) rfl ?_
 refine q_neb rfl rfl rfl rfl rfl Try.underlying4 ?_
 refine s_eq 53 rfl (v' := .bool false) rfl ?_
 refine q_pick_f rfl rfl rfl rfl rfl (r_done (s_keep [1, 5, 7, 9, 54] (e' := [(1, _), (5, _), (7, _), (9, _), (54, _)]) rfl ?_))
 refine k_then_n (c_cond_f rfl ?_)
 refine c_skip (k_then_n (c_seq (c_seq (c_plain (.q 0 (.q 1 (.done))) (by kernel_rfl) ?_))))
 refine q_move rfl rfl rfl rfl (q_eq_nil rfl rfl rfl rfl Try.underlying27 ?_)
 refine s_eq 56 rfl (v' := .bool true) rfl ?_
 refine r_done (k_then_n (c_cond_t rfl ?_))
 refine c_seq (c_plain ((.l 0 [] (.q 1 (.done)))) (by kernel_rfl) ?_)
 have sp_4 := known_spec
 refine l_call rfl rfl rfl rfl rfl rfl Try.call11 (sp_4) Ts ?_
 rintro ⟨⟩ -
 try simp only [List.cons_append, List.nil_append]
 refine ag_nil (q_assign rfl rfl rfl rfl (r_done (s_keep [4] (e' := [(4, _)]) rfl ?_)))
 refine k_then_n (c_ret (k_then_ret (ret1 rfl rfl (()) (by first | rfl | (first | rfl | (congr 1; done) | (congr 1 <;> first | rfl | omega | (simp; done) | (simp; omega)))) (by trivial) ?_)))
 exact Tf
theorem refused_spec (th va vo lk : Int) (pl : List Int) (ao : Option Addr) (n c : Nat) (A : HProp) (hr : RdS A ao (pl.flatMap encZ)) (hn : pl.length = n) (hb : n ≤ 4000000) (es : List T3) (eo : Option Addr) (m ec : Nat) (he : RdS A eo (es.flatMap enc3)) (hm : es.length = m) (hmb : m ≤ 4000000) : Spec Try.prog 4 [.agg #[.int .i64 th, .int .i64 va, .int .i64 vo, .int .i64 lk, .slice ao n c], .slice eo m ec] [A] (fun (_ : Unit) => .bool true) (fun _ => True) (fun _ => [A]) := by
  by_cases hok : OkS th va vo lk pl
  · exact refused_ok th va vo lk pl ao n c A hr hn hb es eo m ec he hm hmb hok
  · exact refused_bad th va vo lk pl ao n c A hr hn hb es eo m ec he hm hmb hok
end Go.Ab.Fr
set_option linter.unusedVariables false
set_option linter.unusedSimpArgs false
namespace Go.Proofs.Ytjibehgfiljbgaa.frame
open Go Go.Ab Go.ChangeShapes Go.WideShapes Go.ChangeAt Go.RowKit
/-! The bound. -/
theorem one_le {H : Type} (d : DataW H) : 1 ≤ Rows.uptoBulk d := by
  cases d with
  | lit l => cases l <;> simp [Rows.uptoBulk]
  | nil => simp [Rows.uptoBulk]
  | ptr d => simp [Rows.uptoBulk]
  | slice elems spare => simp [Rows.uptoBulk]
  | agg parts => simp [Rows.uptoBulk]
  | iface t d => simp [Rows.uptoBulk]
  | map entries => simp [Rows.uptoBulk]
  | held h => simp [Rows.uptoBulk]
theorem part_le {H : Type} {d : DataW H} {l : List (DataW H)} (h : d ∈ l) : Rows.uptoBulk d ≤ Rows.uptoBulkAll l := by
  induction l with
  | nil => cases h
  | cons x r ih =>
    simp only [Rows.uptoBulkAll]
    cases List.mem_cons.1 h with
    | inl e => subst e; omega
    | inr e => have := ih e; omega
theorem length_le {H : Type} (l : List (DataW H)) : l.length ≤ Rows.uptoBulkAll l := by
  induction l with
  | nil => simp [Rows.uptoBulkAll]
  | cons x r ih => have := one_le x; simp only [Rows.uptoBulkAll, List.length_cons]; omega
theorem bound {H : Type} {l : List (DataW H)} (hk : Rows.uptoSmall H l = true) : Rows.uptoBulkAll l ≤ 1048576 := of_decide_eq_true hk
theorem bound_mem {H : Type} {l : List (DataW H)} {d : DataW H} (hk : Rows.uptoSmall H l = true) (h : d ∈ l) : Rows.uptoBulk d ≤ 1048576 := Nat.le_trans (part_le h) (bound hk)
theorem bulk_slice {H : Type} {es rs : List (DataW H)} {d : DataW H} (h : d ∈ es) : Rows.uptoBulk d ≤ Rows.uptoBulk (.slice es rs) := by
  have := part_le h
  simp only [Rows.uptoBulk]; omega
theorem bulk_len {H : Type} (es rs : List (DataW H)) : es.length ≤ Rows.uptoBulk (.slice es rs) := by
  have := length_le es
  simp only [Rows.uptoBulk]; omega
/-! The arguments read behind the call as before. -/
theorem trodAll_below {H : Type} {enc : TypeId × Value → H} {P : Program} (hl : laidOutB P = true) {W W' : World} (hb : Below W.heap.size W W') : ∀ {ts : List TypeId} {vs : List Value} {ds : List (DataW H)} {ps : List MemPlace}, (∀ t ∈ ts, P.readableRec t = true ∧ t < P.types.size) →
    DataW.TrodAll enc P W 0 (fun _ => true) true ts vs ds ps → (∀ x ∈ ps, x.block < W.heap.size) → DataW.TrodAll enc P W' 0 (fun b => decide (b < W.heap.size)) true ts vs ds ps
  | [], [], [], _, _, h, _ => h
  | t :: ts, v :: vs, d :: ds, ps, hr, ⟨p, q, h, hs, e⟩, hlt => by
    subst e
    exact ⟨p, q, Below.trod hl (hr t (by simp)).1 (hr t (by simp)).2 h hb (fun x hx => hlt x (List.mem_append_left _ hx)), trodAll_below hl hb (fun t ht => hr t (List.mem_cons_of_mem _ ht)) hs (fun x hx => hlt x (List.mem_append_right _ hx)), rfl⟩
theorem law_post {H : Type} {enc : TypeId × Value → H} {P : Program} {f : Func} {s : ChangeSpec} {W W' : World} {args : Array Value} {ds gs : List (DataW H)} {before : List MemPlace} {tb : TypeId}
    (hl : laidOutB P = true) (hr : ∀ t ∈ f.params.toList, P.readableRec t = true ∧ t < P.types.size) (hvars : s.vars = []) (hres : f.resultTypes = #[tb]) (hb : P.underlying tb = some .bool)
    (hf : s.fn H (ds ++ gs) = { results := [.lit (.bool true)], args := ds, vars := [] }) (hW : DataW.Whole enc P f.params.toList s.vars false W args.toList ds gs before) (bel : Below W.heap.size W W') : s.post enc P f false true false false W args (.bool true) W' := by
  have hW' := hW
  obtain ⟨p, q, hA, hV, rfl, hfz, hnd⟩ := hW
  rw [hvars] at hV
  obtain ⟨rfl, rfl⟩ := trodVars_none hV
  have hA' : DataW.TrodAll enc P W 0 (fun _ => true) true f.params.toList args.toList ds p := hA
  refine ⟨ds, [], p ++ [], [], p, [], hW', ?_, ?_, ?_, bel.frame _, fun h => by cases h⟩
  · rw [hf, hres]
    exact trodAll_mk1 (shut_bool hb true)
  · rw [hf]
    exact trodAll_below hl bel hr hA' (fun x hx => hW'.lt x (List.mem_append_left _ hx))
  · rw [hf, hvars]
    exact rfl
theorem spec_calls {P : Program} {f : FuncId} {args : List Value} {W : World} (h : Ab.Spec P f args [base W] (fun (_ : Unit) => .bool true) (fun _ => True) (fun _ => [base W])) : Calls P f args.toArray W fun e W' => e = .returned (.bool true) ∧ Below W.heap.size W W' :=
  (h [] W (base_self W)).mono fun e w' ⟨_, e1, _, s, a⟩ => ⟨e1, below_of_base s a⟩
/-! Arguments are opened. -/
theorem spot_of_cell {W : World} {a : Addr} {v : Value} (h : W.cell? a = some v) : a.spot = none := by
  unfold World.cell? at h
  split at h
  · split at h
    · cases h
    · rename_i hs; simpa using hs
  · cases h
theorem choose_list {α : Type} : ∀ (n : Nat) (Q : Nat → α → Prop), (∀ i, i < n → ∃ x, Q i x) → ∃ xs : List α, xs.length = n ∧ ∀ i x, xs[i]? = some x → Q i x
  | 0, Q, _ => ⟨[], rfl, fun i x h => by simp at h⟩
  | n + 1, Q, h => by
    obtain ⟨xs, h1, h2⟩ := choose_list n Q (fun i hi => h i (by omega))
    obtain ⟨x, hx⟩ := h n (by omega)
    refine ⟨xs ++ [x], by simp [h1], fun i y hy => ?_⟩
    rcases Nat.lt_trichotomy i n with hi | hi | hi
    · rw [List.getElem?_append_left (by omega)] at hy; exact h2 i y hy
    · subst hi; rw [List.getElem?_append_right (by omega), h1, Nat.sub_self] at hy; simp at hy; subst hy; exact hx
    · rw [List.getElem?_eq_none (by simp; omega)] at hy; cases hy
theorem rdn_flat_mk {α : Type} {A : HProp} {b sz : Nat} {enc : α → List Value} (hsz : ∀ x, (enc x).length = sz) : ∀ (xs : List α) (o : Nat), (∀ i x, xs[i]? = some x → RdN A b (o + i * sz) (enc x)) → RdN A b o (xs.flatMap enc)
  | [], o, _ => fun i v h => by simp at h
  | x :: xs, o, h => fun i v hv => by
    rw [List.flatMap_cons] at hv
    by_cases hi : i < (enc x).length
    · rw [List.getElem?_append_left hi] at hv
      have := h 0 x rfl i v hv
      rwa [Nat.zero_mul, Nat.add_zero] at this
    · rw [List.getElem?_append_right (by omega), hsz] at hv
      rw [hsz] at hi
      have ih := rdn_flat_mk hsz xs (o + sz) (fun i y hy => by
        have := h (i + 1) y (by simpa using hy)
        rw [Nat.succ_mul] at this
        rwa [show o + sz + i * sz = o + (i * sz + sz) from by omega])
      have := ih (i - sz) v hv
      rwa [show o + sz + (i - sz) = o + i from by omega] at this
/-- A slice among what is read: its elements are opened by 'hel'. -/
theorem open_sl {α H : Type} {enc : TypeId × Value → H} {P : Program} {W : World} {t e : TypeId} {ao : Option Addr} {len cap sz fuel : Nat} {y : DataW H × List MemPlace} {enc' : α → List Value} {Q : α → DataW H → Prop} (ht : P.underlying t = some (.slice e)) (hc : P.cellsOf e = sz + 1) (hsz : ∀ x, (enc' x).length = sz + 1)
    (hel : ∀ n cs y, DataW.trod enc P W 0 (fun _ => true) true n e cs = some y → cs.length = sz + 1 → ∃ x : α, enc' x = cs ∧ Q x y.1)
    (h : DataW.trod enc P W 0 (fun _ => true) true fuel t [.slice ao len cap] = some y) :
    ∃ xs : List α, xs.length = len ∧ RdS (base W) ao (xs.flatMap enc') ∧ len ≤ cap ∧ cap ≤ maxLen ∧ xs.length ≤ Rows.uptoBulk y.1 ∧ (∀ x ∈ xs, ∃ d, Q x d ∧ Rows.uptoBulk d ≤ Rows.uptoBulk y.1) ∧ (ao = none → cap = 0) := by
  rcases DataW.trod_slice ht h with ⟨h1, h2⟩ | ⟨a, len', cap', elems, rest, n, -, h1, h2, -, hl, hm, hlen, hel', -⟩
  · simp only [List.cons.injEq, Value.slice.injEq, and_true] at h1
    obtain ⟨rfl, rfl, rfl⟩ := h1
    exact ⟨[], rfl, .inl rfl, Nat.le_refl _, Nat.zero_le _, Nat.zero_le _, fun _ h => (by cases h), fun _ => rfl⟩
  · simp only [List.cons.injEq, Value.slice.injEq, and_true] at h1
    obtain ⟨rfl, rfl, rfl⟩ := h1
    subst h2
    have key : ∀ i, i < len → ∃ x : α, ∃ cs y, W.cells? 0 (a.add (i * (sz + 1))) (sz + 1) = some cs ∧ elems[i]? = some y ∧ enc' x = cs ∧ Q x y.1 := by
      intro i hi
      have h3 := hel' i hi
      rw [List.getElem?_eq_getElem (by omega), hc, Option.bind_eq_some_iff] at h3
      obtain ⟨cs, h4, h5⟩ := h3
      have h6 := World.cells?_some h4
      obtain ⟨x, hx, hq⟩ := hel n cs _ h5 (by have := mapM_some_length (by unfold World.cells? at h4; rwa [if_pos (Nat.zero_le _)] at h4); simpa using this)
      exact ⟨x, cs, _, h4, List.getElem?_eq_getElem (by omega), hx, hq⟩
    obtain ⟨xs, hx1, hx2⟩ := choose_list len _ key
    have hcell : ∀ i x, xs[i]? = some x → ∀ j v, (enc' x)[j]? = some v → W.cell? ((a.add (i * (sz + 1))).add j) = some v := by
      intro i x hx j v hv
      obtain ⟨cs, y, h4, -, h5, -⟩ := hx2 i x hx
      subst h5
      unfold World.cells? at h4
      rw [if_pos (Nat.zero_le _)] at h4
      have hj : j < sz + 1 := by rw [← hsz x]; exact (List.getElem?_eq_some_iff.1 hv).1
      have := mapM_some_get h4 j j (by simp [hj])
      rw [this, hv]
    refine ⟨xs, hx1, ?_, hl, hm, ?_, ?_, fun h => by cases h⟩
    · cases hxs : xs with
      | nil => exact .inl rfl
      | cons x0 xs' =>
        obtain ⟨v0, hv0⟩ := get_lt (l := enc' x0) (i := 0) (by rw [hsz]; omega)
        have h6 := hcell 0 x0 (by rw [hxs]; rfl) 0 v0 hv0
        rw [Nat.zero_mul] at h6
        have hsp : a.spot = none := spot_of_cell (by simpa [Addr.add] using h6)
        obtain ⟨b, o, sp⟩ := a
        simp only at hsp
        subst hsp
        refine .inr ⟨b, o, rfl, ?_⟩
        rw [← hxs]
        refine rdn_flat_mk hsz xs o fun i x hx j v hv => rd_base ?_
        have := hcell i x hx j v hv
        rwa [add_none, add_none] at this
    · have := bulk_len (elems.map (·.1)) (rest.map (·.1))
      rw [List.length_map, hlen] at this
      rw [hx1]; exact this
    · intro x hx
      obtain ⟨i, hi⟩ := List.getElem?_of_mem hx
      obtain ⟨cs, y, -, h5, -, h7⟩ := hx2 i x hi
      exact ⟨y.1, h7, bulk_slice (List.mem_map_of_mem (List.mem_of_getElem? h5))⟩
/-- Whole arguments. -/
theorem arg_sl {α H : Type} {enc : TypeId × Value → H} {P : Program} {W : World} {t e : TypeId} {v : Value} {d : DataW H} {ps : List MemPlace} {bs sz : Nat} {enc' : α → List Value} {Q : α → DataW H → Prop} (ht : P.underlying t = some (.slice e)) (hc : P.cellsOf e = sz + 1) (hsz : ∀ x, (enc' x).length = sz + 1)
    (hel : ∀ n cs y, DataW.trod enc P W 0 (fun _ => true) true n e cs = some y → cs.length = sz + 1 → ∃ x : α, enc' x = cs ∧ Q x y.1)
    (hval : Value.okWide P W .any bs t v) (h : DataW.Trod enc P W 0 (fun _ => true) true t v d ps) :
    ∃ (xs : List α) (ao : Option Addr) (cap : Nat), v = .slice ao xs.length cap ∧ RdS (base W) ao (xs.flatMap enc') ∧ xs.length ≤ cap ∧ cap ≤ maxLen ∧ xs.length ≤ Rows.uptoBulk d ∧ (∀ x ∈ xs, ∃ y, Q x y ∧ Rows.uptoBulk y ≤ Rows.uptoBulk d) ∧ (ao = none → cap = 0) := by
  obtain ⟨ao, len, cap, rfl⟩ := okWide_slice ht hval
  obtain ⟨n, hn⟩ := h
  obtain ⟨xs, h1, h2, h3, h4, h5, h6, h7⟩ := open_sl ht hc hsz hel (y := (d, ps)) (by simpa [Value.cells] using hn)
  subst h1
  exact ⟨xs, ao, cap, rfl, h2, h3, h4, h5, h6, h7⟩
/-- A slice of an element of a slice. -/
theorem el_sl {α H : Type} {enc : TypeId × Value → H} {P : Program} {W : World} {t e : TypeId} {sz : Nat} {enc' : α → List Value} {Q : α → DataW H → Prop} (ht : P.underlying t = some (.slice e)) (hc : P.cellsOf e = sz + 1) (hsz : ∀ x, (enc' x).length = sz + 1)
    (hel : ∀ n cs y, DataW.trod enc P W 0 (fun _ => true) true n e cs = some y → cs.length = sz + 1 → ∃ x : α, enc' x = cs ∧ Q x y.1)
    (n : Nat) (cs : List Value) (y : DataW H × List MemPlace) (h : DataW.trod enc P W 0 (fun _ => true) true n t cs = some y) (hl : cs.length = 0 + 1) :
    ∃ x : LstA α, encH x = cs ∧ (RdS (base W) x.1 (x.2.2.flatMap enc') ∧ x.2.2.length ≤ Rows.uptoBulk y.1 ∧ (∀ z ∈ x.2.2, ∃ d, Q z d ∧ Rows.uptoBulk d ≤ Rows.uptoBulk y.1) ∧ x.2.2.length ≤ x.2.1) := by
  have h0 : ∃ ao len cap, cs = [.slice ao len cap] := by
    rcases DataW.trod_slice ht h with ⟨h1, -⟩ | ⟨a, len', cap', elems, rest, n, -, h1, -⟩
    · exact ⟨_, _, _, h1⟩
    · exact ⟨_, _, _, h1⟩
  obtain ⟨ao, len, cap, rfl⟩ := h0
  obtain ⟨xs, h1, h2, h3, h4, h5, h6, h7⟩ := open_sl ht hc hsz hel h
  subst h1
  exact ⟨(ao, cap, xs), rfl, h2, h5, h6, h3⟩
/-- An integer. -/
theorem el_int {H : Type} {enc : TypeId × Value → H} {P : Program} {W : World} {e : TypeId} {k : IntKind} (he : P.underlying e = some (.int k)) (n : Nat) (cs : List Value) (y : DataW H × List MemPlace) (h : DataW.trod enc P W 0 (fun _ => true) true n e cs = some y) (hl : cs.length = 0 + 1) : ∃ x : Int, [Value.int k x] = cs ∧ (Lit.int k x).wf = true := by
  obtain ⟨m, rfl, rfl, hw⟩ := DataW.trod_int he h
  exact ⟨m, rfl, hw⟩
end Go.Proofs.Ytjibehgfiljbgaa.frame
set_option linter.unusedVariables false
set_option linter.unusedSimpArgs false
namespace Go.Proofs.Ytjibehgfiljbgaa.frame
open Go Go.Ab Go.ChangeShapes Go.WideShapes Go.ChangeAt Go.RowKit
variable {α β H : Type} {enc : TypeId × Value → H} {P : Program} {W : World} {e : TypeId} {fs : Array Field} {m : Nat} {cs : List Value} {B : Nat}
/-- How an element of type e is opened. -/
abbrev El (enc : TypeId × Value → H) (P : Program) (W : World) (e : TypeId) (sz : Nat) (encA : α → List Value) (Q : α → DataW H → Prop) : Prop :=
  ∀ n cs y, DataW.trod enc P W 0 (fun _ => true) true n e cs = some y → cs.length = sz → ∃ x : α, encA x = cs ∧ Q x y.1
/-- What is known of the fields from i on. -/
def FR (enc : TypeId × Value → H) (P : Program) (W : World) (fs : Array Field) (m i : Nat) (cs : List Value) (B : Nat) : Prop :=
  ∀ j f, i ≤ j → fs[j]? = some f → ∃ y : DataW H × List MemPlace, DataW.trod enc P W 0 (fun _ => true) true m f.type ((cs.drop f.offset).take (P.cellsOf f.type)) = some y ∧ Rows.uptoBulk y.1 ≤ B
theorem fr_start {n : Nat} {y : DataW H × List MemPlace} (he : P.underlying e = some (.struct fs)) (h : DataW.trod enc P W 0 (fun _ => true) true n e cs = some y) : ∃ m, FR enc P W fs m 0 cs (Rows.uptoBulk y.1) := by
  obtain ⟨xs, m, -, hy, -, hxs, hf⟩ := DataW.trod_struct he h
  refine ⟨m, fun j f _ hj => ?_⟩
  have hlt : j < xs.length := by rw [hxs]; exact (Array.getElem?_eq_some_iff.1 hj).1
  have := hf j f hj
  rw [List.getElem?_eq_getElem hlt] at this
  refine ⟨_, this, ?_⟩
  rw [hy]
  have hp := part_le (l := xs.map (·.1)) (d := xs[j].1) (List.mem_map_of_mem (List.getElem_mem hlt))
  simp only [Rows.uptoBulk]
  omega
/-- Fields from i on, opened. -/
abbrev Fo (enc : TypeId × Value → H) (P : Program) (W : World) (fs : Array Field) (i off sz : Nat) (encA : α → List Value) (Q : α → Nat → Prop) : Prop :=
  ∀ m cs B, FR enc P W fs m i cs B → cs.length = off + sz → ∃ x : α, encA x = cs.drop off ∧ Q x B
theorem fo_last {i off sz : Nat} {f : Field} {encA : α → List Value} {Q : α → DataW H → Prop} (hf : fs[i]? = some f) (ho : f.offset = off) (hc : P.cellsOf f.type = sz) (el : El enc P W f.type sz encA Q) :
    Fo enc P W fs i off sz encA (fun x B => ∃ d, Q x d ∧ Rows.uptoBulk d ≤ B) := by
  intro m cs B h hl
  obtain ⟨y, hy, hb⟩ := h i f (Nat.le_refl _) hf
  rw [ho, hc, List.take_of_length_le (by rw [List.length_drop]; omega)] at hy
  obtain ⟨x, hx, hq⟩ := el m _ y hy (by rw [List.length_drop]; omega)
  exact ⟨x, hx, y.1, hq, hb⟩
theorem fo_cons {i off sz n : Nat} {f : Field} {encA : α → List Value} {Q : α → DataW H → Prop} {encB : β → List Value} {R : β → Nat → Prop} (hf : fs[i]? = some f) (ho : f.offset = off) (hc : P.cellsOf f.type = sz) (el : El enc P W f.type sz encA Q)
    (rest : Fo enc P W fs (i + 1) (off + sz) n encB R) : Fo enc P W fs i off (sz + n) (fun x : α × β => encA x.1 ++ encB x.2) (fun x B => (∃ d, Q x.1 d ∧ Rows.uptoBulk d ≤ B) ∧ R x.2 B) := by
  intro m cs B h hl
  obtain ⟨y, hy, hb⟩ := h i f (Nat.le_refl _) hf
  rw [ho, hc] at hy
  obtain ⟨x, hx, hq⟩ := el m _ y hy (by rw [List.length_take, List.length_drop]; omega)
  obtain ⟨z, hz, hr⟩ := rest m cs B (fun j g hj hg => h j g (by omega) hg) (by omega)
  refine ⟨(x, z), ?_, ⟨y.1, hq, hb⟩, hr⟩
  show encA x ++ encB z = _
  rw [hx, hz, ← List.drop_drop, List.take_append_drop]
theorem el_struct {sz : Nat} {encA : α → List Value} {Q : α → Nat → Prop} (he : P.underlying e = some (.struct fs)) (fo : Fo enc P W fs 0 0 sz encA Q) : El enc P W e sz encA (fun x d => Q x (Rows.uptoBulk d)) := by
  intro n cs y h hl
  obtain ⟨m, hm⟩ := fr_start he h
  obtain ⟨x, hx, hq⟩ := fo m cs _ hm (by omega)
  exact ⟨x, hx, hq⟩
/-- A struct handed in. -/
theorem arg_struct {t : TypeId} {v : Value} {d : DataW H} {ps : List MemPlace} {bs sz : Nat} {encA : α → List Value} {Q : α → DataW H → Prop} (ht : P.underlying t = some (.struct fs)) (hc : P.cellsOf t = sz) (el : El enc P W t sz encA Q)
    (hval : Value.okWide P W .any bs t v) (h : DataW.Trod enc P W 0 (fun _ => true) true t v d ps) : ∃ x : α, v = .agg (encA x).toArray ∧ Q x d := by
  obtain ⟨cs, rfl, hs⟩ := okWide_struct ht hval
  obtain ⟨n, hn⟩ := h
  obtain ⟨x, hx, hq⟩ := el n cs.toList (d, ps) (by simpa [Value.cells] using hn) (by simpa [hc] using hs)
  exact ⟨x, by rw [hx], hq⟩
end Go.Proofs.Ytjibehgfiljbgaa.frame
