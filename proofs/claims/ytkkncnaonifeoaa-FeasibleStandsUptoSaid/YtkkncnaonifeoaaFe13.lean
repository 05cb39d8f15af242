/- Package feasible: the law Stands. -/
import Derived.Test.YtkkncnaonifeoaaFe9
set_option linter.unusedVariables false
set_option linter.unusedSimpArgs false
set_option maxRecDepth 100000
namespace Go.Ab.Fe
open Go Go.Proofs Go.Ab
def cn (a : T3) (l : List T3) : Int := ((List.count a l : Nat) : Int)
theorem cn_nil (a : T3) : cn a [] = 0 := rfl
theorem cn_app (a : T3) (l m : List T3) : cn a (l ++ m) = cn a l + cn a m := by simp [cn, List.count_append]
theorem cn_one (a b : T3) : cn a [b] = if b = a then 1 else 0 := by
  unfold cn
  rw [List.count_singleton]
  by_cases h : b = a
  · simp [h]
  · simp [h]
theorem cn_set {l : List T3} : ∀ {i : Nat} {q : T3} (s a : T3), l[i]? = some q → cn a (l.set i s) = cn a l - (if q = a then 1 else 0) + (if s = a then 1 else 0) := by
  induction l with
  | nil => intro i q s a h; simp at h
  | cons x l ih =>
    intro i q s a h
    have cc : ∀ (y : T3) (m : List T3), cn a (y :: m) = (if y = a then 1 else 0) + cn a m := fun y m => by
      rw [← cn_one a y, ← cn_app]; rfl
    cases i with
    | zero =>
      obtain rfl : x = q := by simpa using h
      rw [List.set_cons_zero, cc, cc]; omega
    | succ i =>
      rw [List.set_cons_succ, cc, cc, ih s a (by simpa using h)]; omega
theorem cn_zero {l : List T3} {a : T3} (h : a ∉ l) : cn a l = 0 := by unfold cn; rw [List.count_eq_zero.2 h]; rfl
theorem cn_take {l : List T3} {i : Nat} {q : T3} (a : T3) (h : l[i]? = some q) : cn a (l.take (i + 1)) = cn a (l.take i) + if q = a then 1 else 0 := by
  rw [take_next h, cn_app, cn_one]
/-- How many wait in each round, and how many left it. -/
structure GI (x : CS) (g : List T3) : Prop where
  lo : ∀ (b r p : Int), 0 ≤ b → b < (x.B.length : Int) → x.pa[b.toNat]? = some p → 0 ≤ r → r < (opF x b).1 → cn (2, b, r) x.T + cn (2, b, r) g = p
  at_ : ∀ (b r : Int), 0 ≤ b → b < (x.B.length : Int) → r = (opF x b).1 → cn (2, b, r) x.T = (opF x b).2 ∧ cn (2, b, r) g = 0
  hi : ∀ (b r : Int), 0 ≤ b → b < (x.B.length : Int) → (opF x b).1 < r → cn (2, b, r) x.T = 0 ∧ cn (2, b, r) g = 0
theorem gi_new {th va vo lk : Int} {pl : List Int} (h : OkS th va vo lk pl) : GI (newF th va vo lk pl) [] := by
  have key : ∀ b r : Int, cn (2, b, r) (newF th va vo lk pl).T = 0 := fun b r => cn_zero fun hm => by
    rcases List.mem_or_eq_of_mem_set hm with h | h
    · have := (List.mem_replicate.1 h).2; simp at this
    · simp at h
  have ho : ∀ b : Int, opF (newF th va vo lk pl) b = (0, 0) := fun b => by
    unfold opF newF
    rcases getD_mem' (List.replicate pl.length ((0, 0) : T2)) b.toNat (0, 0) with h | h
    · exact h
    · exact (List.mem_replicate.1 h).2
  refine ⟨fun b r p _ _ _ h0 h1 => ?_, fun b r _ _ _ => ⟨by rw [key, ho], rfl⟩, fun b r _ _ _ => ⟨key b r, rfl⟩⟩
  rw [ho] at h1; simp at h1; omega
/-- The counts are those that were. -/
theorem gi_same {x y : CS} {g : List T3} (h : GI x g) (hB : y.B = x.B) (hp : y.pa = x.pa) (hT : ∀ b r : Int, cn (2, b, r) y.T = cn (2, b, r) x.T) : GI y g := by
  have ho : ∀ b, opF y b = opF x b := fun b => by unfold opF; rw [hB]
  refine ⟨fun b r p h0 h1 h2 h3 h4 => ?_, fun b r h0 h1 h2 => ?_, fun b r h0 h1 h2 => ?_⟩
  · rw [hT]; exact h.lo b r p h0 (by rw [← hB]; exact h1) (by rw [← hp]; exact h2) h3 (by rw [← ho]; exact h4)
  · rw [hT, ho]; exact h.at_ b r h0 (by rw [← hB]; exact h1) (by rw [← ho]; exact h2)
  · rw [hT]; exact h.hi b r h0 (by rw [← hB]; exact h1) (by rw [← ho]; exact h2)
theorem gi_next {x : CS} {g : List T3} (hx : CInv x) (h : GI x g) {k t o : Int} (hc : canF x k t o) : GI (nxF x k t o) (if k = 10 then g ++ [stF x t] else g) := by
  obtain ⟨n5, n6, n7, n9, n10, n11, nn⟩ := nxF_k hc
  obtain ⟨o5, o7, o9, o10, o11⟩ := can_obj hx hc
  obtain ⟨t0, t1, t2⟩ := stF_nz (can_th hc)
  have set1 : ∀ (i : Nat) (q s : T3) (b r : Int), x.T[i]? = some q → q.1 ≠ 2 → s.1 ≠ 2 → cn (2, b, r) (x.T.set i s) = cn (2, b, r) x.T := fun i q s b r hq h1 h2 => by
    rw [cn_set s (2, b, r) hq, if_neg (fun e => h1 (by rw [e])), if_neg (fun e => h2 (by rw [e]))]; omega
  by_cases k10 : k = 10
  · rw [if_pos k10, n10 k10]
    obtain ⟨w1, w2, w3⟩ := o10 k10
    have hsi := (stF_inv hx t).2.2.1 w1
    have hT : ∀ b r : Int, cn (2, b, r) (x.T.set t.toNat (1, 0, 0)) = cn (2, b, r) x.T - if stF x t = (2, b, r) then 1 else 0 := fun b r => by
      rw [cn_set _ _ t2, if_neg (c := (1, 0, 0) = (2, b, r)) (by simp)]; omega
    have hg : ∀ b r : Int, cn (2, b, r) (g ++ [stF x t]) = cn (2, b, r) g + if stF x t = (2, b, r) then 1 else 0 := fun b r => by rw [cn_app, cn_one]
    have hne : ∀ b r : Int, ¬ r < (opF x b).1 → stF x t ≠ (2, b, r) := fun b r h1 e => by
      have := w2.2; rw [e] at this; exact h1 this
    refine ⟨fun b r p h0 h1 h2 h3 h4 => ?_, fun b r h0 h1 h2 => ?_, fun b r h0 h1 h2 => ?_⟩
    · have := h.lo b r p h0 h1 h2 h3 h4
      show cn _ (x.T.set _ _) + _ = _
      rw [hT, hg]; omega
    · have h2' : r = (opF x b).1 := h2
      show cn _ (x.T.set _ _) = (opF x b).2 ∧ _
      rw [hT, hg, if_neg (hne b r (by omega))]
      have := h.at_ b r h0 h1 h2
      omega
    · have h2' : (opF x b).1 < r := h2
      show cn _ (x.T.set _ _) = 0 ∧ _
      rw [hT, hg, if_neg (hne b r (by omega))]
      have := h.hi b r h0 h1 h2
      omega
  rw [if_neg k10]
  by_cases k5 : k = 5
  · rw [n5 k5]; exact gi_same h rfl rfl (fun _ _ => rfl)
  by_cases k6 : k = 6
  · rw [n6 k6]; exact gi_same h rfl rfl (fun _ _ => rfl)
  by_cases k7 : k = 7
  · obtain ⟨a, b, c⟩ := o7 k7
    rw [n7 k7]
    exact gi_same h rfl rfl fun u r => set1 _ _ _ u r (stF_at a (by omega)) (by rw [c]; decide) (by show (1 : Int) ≠ 2; decide)
  by_cases k11 : k = 11
  · have c := o11 k11
    rw [n11 k11]
    exact gi_same h rfl rfl fun u r => set1 _ _ _ u r t2 (by rw [c]; decide) (by show (3 : Int) ≠ 2; decide)
  by_cases k9 : k = 9
  · obtain ⟨a, b, c, d⟩ := o9 k9
    rw [n9 k9]
    have hbo := opF_at (x := x) a (by omega)
    obtain ⟨p, hp⟩ := get_lt c
    rw [getD_some hp]
    have hbp := hx.op _ _ _ hbo hp
    have hT : ∀ b r : Int, cn (2, b, r) (x.T.set t.toNat (2, o, (opF x o).1)) = cn (2, b, r) x.T + if b = o ∧ r = (opF x o).1 then 1 else 0 := fun b r => by
      rw [cn_set _ _ t2, if_neg (c := stF x t = (2, b, r)) (fun e => by rw [e] at d; simp at d)]
      by_cases e : b = o ∧ r = (opF x o).1
      · rw [if_pos e, if_pos (by rw [e.1, e.2])]; omega
      · rw [if_neg e, if_neg (fun e2 => e (by simp at e2; exact ⟨e2.1.symm, e2.2.symm⟩))]; omega
    have ho : ∀ u : Int, 0 ≤ u → opF ⟨x.th, x.va, x.vo, x.lk, x.pa, x.T.set t.toNat (2, o, (opF x o).1), x.O, x.B.set o.toNat (arrF (opF x o) p), x.n + 1⟩ u = if u = o then arrF (opF x o) p else opF x u := fun u hu => by
      rw [opF_set b]
      by_cases e : u = o
      · rw [if_pos e, if_pos (by rw [e])]
      · rw [if_neg e, if_neg (by omega)]
    have hl : ((x.B.set o.toNat (arrF (opF x o) p)).length : Int) = x.B.length := by rw [List.length_set]
    have har : (arrF (opF x o) p = ((opF x o).1 + 1, 0) ∧ (opF x o).2 + 1 = p) ∨ (arrF (opF x o) p = ((opF x o).1, (opF x o).2 + 1) ∧ (opF x o).2 + 1 ≠ p) := by
      unfold arrF; split
      · rename_i e; exact .inl ⟨rfl, e⟩
      · rename_i e; exact .inr ⟨rfl, e⟩
    refine ⟨fun u r q h0 h1 h2 h3 h4 => ?_, fun u r h0 h1 h2 => ?_, fun u r h0 h1 h2 => ?_⟩
    · have h1' : u < (x.B.length : Int) := by rw [← hl]; exact h1
      rw [ho u h0] at h4
      show cn _ (x.T.set _ _) + _ = _
      rw [hT]
      by_cases e : u = o
      · subst e
        rw [if_pos rfl] at h4
        have h2' : x.pa[u.toNat]? = some q := h2
        rw [hp] at h2'; cases h2'
        by_cases e2 : r = (opF x u).1
        · rw [if_pos ⟨rfl, e2⟩]
          have := h.at_ u r h0 h1' e2
          rcases har with ⟨e3, e4⟩ | ⟨e3, e4⟩
          · omega
          · rw [e3] at h4; simp at h4; omega
        · rw [if_neg (fun e3 => e2 e3.2)]
          have := h.lo u r p h0 h1' hp h3 (by rcases har with ⟨e3, e4⟩ | ⟨e3, e4⟩ <;> rw [e3] at h4 <;> simp at h4 <;> omega)
          omega
      · rw [if_neg e] at h4
        rw [if_neg (fun e3 => e e3.1)]
        have := h.lo u r q h0 h1' h2 h3 h4
        omega
    · have h1' : u < (x.B.length : Int) := by rw [← hl]; exact h1
      rw [ho u h0] at h2 ⊢
      show cn _ (x.T.set _ _) = _ ∧ _
      rw [hT]
      by_cases e : u = o
      · subst e
        rw [if_pos rfl] at h2 ⊢
        rcases har with ⟨e3, e4⟩ | ⟨e3, e4⟩
        · rw [e3] at h2 ⊢; simp only at h2 ⊢
          rw [if_neg (by omega)]
          have := h.hi u r h0 h1' (by omega)
          omega
        · rw [e3] at h2 ⊢; simp only at h2 ⊢
          rw [if_pos (by first | exact ⟨rfl, h2⟩ | exact ⟨trivial, h2⟩)]
          have := h.at_ u r h0 h1' h2
          omega
      · rw [if_neg e] at h2 ⊢
        rw [if_neg (fun e3 => e e3.1)]
        have := h.at_ u r h0 h1' h2
        omega
    · have h1' : u < (x.B.length : Int) := by rw [← hl]; exact h1
      rw [ho u h0] at h2
      show cn _ (x.T.set _ _) = _ ∧ _
      rw [hT]
      by_cases e : u = o
      · subst e
        rw [if_pos rfl] at h2
        have : (opF x u).1 < r := by rcases har with ⟨e3, e4⟩ | ⟨e3, e4⟩ <;> rw [e3] at h2 <;> simp at h2 <;> omega
        rw [if_neg (by omega)]
        have := h.hi u r h0 h1' this
        omega
      · rw [if_neg e] at h2
        rw [if_neg (fun e3 => e e3.1)]
        have := h.hi u r h0 h1' h2
        omega
  · rw [nn k5 k6 k7 k9 k10 k11]; exact gi_same h rfl rfl (fun _ _ => rfl)
theorem round_law (th va vo lk : Int) (pl : List Int) (ao : Option Addr) (n c : Nat) (A : HProp) (hr : RdS A ao (pl.flatMap encZ)) (hn : pl.length = n) (hb : n ≤ 4000000) (pa : Option Addr) (pc b : Nat) (x : CS) (hx : CInv x) (hxt : x.th = th) (hpl : x.pa = pl) (g : List T3) (ga : Option Addr) (gn gc : Nat) (G : HProp) (hgr : RdS G ga (g.flatMap enc3)) (hgn : g.length = gn) (hgb : gn ≤ 4000000) (hG : GI x g) (a : T3) (ha0 : a.1 = 2) (ha1 : 0 ≤ a.2.1) (ha2 : a.2.1 < (x.B.length : Int)) (ha3 : 0 ≤ a.2.2) (ha4 : a.2.2 ≤ (opF x a.2.1).1) : Spec Try.prog 24 [.pointer (some ⟨b, 0, none⟩), .agg #[.int .i64 th, .int .i64 va, .int .i64 vo, .int .i64 lk, .slice ao n c], .agg #[.int .i64 a.1, .int .i64 a.2.1, .int .i64 a.2.2], .slice ga gn gc] [ck pa pc b x, A, G] (fun (_ : Unit) => .bool true) (fun _ => True) (fun _ => [ck pa pc b x, A, G]) := by
  refine spec_mk (n := 116) Try.func24 rfl rfl rfl ?_
  intro Γ w0
  simp only [argE, List.cons_append, List.nil_append, Nat.zero_add, Nat.reduceAdd]
  have htl := hx.tl
  have hol := hx.ol
  have hbl := hx.bl
  have h4 := hx.sh.pl
  have h5 := hx.sh.th
  have h6 := hx.sh.lk
  refine c_seq ?_
  refine c_plain ((.l 0 [] ((.l 1 [] (.q 2 (.done)))))) (by kernel_rfl) ?_
  refine l_box rfl rfl rfl rfl (us := [_, _, _, _, _]) rfl ?_
  intro b5
  refine ag_nil ?_
  refine l_box rfl rfl rfl rfl (us := [_, _, _]) rfl ?_
  intro b6
  refine ag_nil ?_
  refine q_assign rfl rfl rfl rfl ?_
  refine r_done ?_
  refine k_then_n ?_
  refine c_seq ?_
  refine c_plain (.q 0 (.q 1 (.q 2 ((.l 3 [] (.q 4 (.q 5 (.q 6 ((.l 7 [] ((.l 8 [] (.q 9 (.done)))))))))))))) (by kernel_rfl) ?_
  refine q_move rfl rfl rfl rfl ?_
  refine q_field (k := 1) rfl rfl rfl rfl Try.underlying51 rfl Try.sizeOf3 rfl ?_
  refine q_load_c (j := 1) rfl rfl rfl rfl Try.isAgg3 (by with_reducible (repeat (first | exact Take.here | apply Take.there))) (by first | rfl | exact (Nat.add_zero _).symm) (by rfl) ?_
  have sp_1 := round_spec pa pc b x a.2.1
  refine l_call rfl rfl rfl rfl rfl rfl Try.call38 (sp_1) (by (repeat ((with_reducible apply Takes.cons); focus (first | (with_reducible (repeat (first | exact Take.here | apply Take.there)); done) | (repeat (first | exact Take.here | apply Take.there))))); exact Takes.nil) ?_
  rintro ⟨⟩ -
  try simp only [List.cons_append, List.nil_append]
  refine ag_nil ?_
  refine s_eq 21 rfl (v' := .tuple #[.agg #[.int .i64 ((opF x a.2.1).1), .int .i64 ((opF x a.2.1).2)], .int .i64 0]) (by rw [if_pos ⟨ha1, ha2⟩, if_pos ⟨ha1, ha2⟩]) ?_
  refine q_move rfl rfl rfl rfl ?_
  refine q_extract rfl rfl rfl rfl rfl ?_
  refine q_extract rfl rfl rfl rfl rfl ?_
  refine l_alloc rfl rfl rfl Try.zeroValue83 (zs := [.int .i64 0, .int .i64 0]) rfl ?_
  intro b9
  refine ag_nil ?_
  refine l_store (j := 0) rfl rfl rfl rfl Try.sizeOf83 (us := [_, _]) rfl rfl rfl (by with_reducible (repeat (first | exact Take.here | apply Take.there))) (by first | rfl | exact (Nat.add_zero _).symm) (by first | decide | (simp; done) | omega) ?_
  simp only [setL, List.set]
  refine ag_nil ?_
  refine q_assign rfl rfl rfl rfl ?_
  refine r_done ?_
  refine s_keep [0, 3, 5, 6, 9, 10] (e' := [(0, _), (3, _), (5, _), (6, _), (9, _), (10, _)]) rfl ?_
  refine k_then_n ?_
  refine c_seq ?_
  refine c_seq ?_
  have hpn : x.pa.length = n := by rw [hpl]; exact hn
  obtain ⟨pp, hpp⟩ := get_lt (l := pl) (i := a.2.1.toNat) (by omega)
  have hop := hx.op _ _ _ (opF_at ha1 ha2) (by rw [hpl]; exact hpp)
  refine c_draw rfl (.q 0 (.q 1 (.q 2 (.q 3 (.q 4 (.q 5 (.q 6 (.q 7 (.q 8 (.q 9 (.q 10 (.q 11 (.q 12 (.q 13 (.q 14 (.q 15 (.q 16 (.q 17 (.q 18 (.q 19 (.q 20 (.q 21 (.q 22 (.q 23 (.q 24 (.q 25 (.q 26 (.q 27 (.q 28 (.q 29 (.q 30 (.q 31 (.q 32 (.q 33 (.q 34 (.q 35 (.q 36 (.q 37 (.done))))))))))))))))))))))))))))))))))))))) (by kernel_rfl) ?_
  refine q_move rfl rfl rfl rfl ?_
  refine q_int rfl rfl rfl rfl rfl (b_neq _ _ _ _) ?_
  refine s_eq 25 rfl (v' := .bool false) (by first | rfl | simp) ?_
  refine q_move rfl rfl rfl rfl ?_
  refine q_field (k := 1) rfl rfl rfl rfl Try.underlying51 rfl Try.sizeOf3 rfl ?_
  refine q_load_c (j := 1) rfl rfl rfl rfl Try.isAgg3 (by with_reducible (repeat (first | exact Take.here | apply Take.there))) (by first | rfl | exact (Nat.add_zero _).symm) (by rfl) ?_
  refine q_int rfl rfl rfl rfl rfl (b_lss _ _ _ _) ?_
  refine q_pick_f rfl rfl rfl rfl rfl ?_
  refine q_move rfl rfl rfl rfl ?_
  refine s_bool_p 31 rfl (fun hg => by exfalso; omega) (fun hg => ?_)
  refine q_field (k := 1) rfl rfl rfl rfl Try.underlying51 rfl Try.sizeOf3 rfl ?_
  refine q_load_c (j := 1) rfl rfl rfl rfl Try.isAgg3 (by with_reducible (repeat (first | exact Take.here | apply Take.there))) (by first | rfl | exact (Nat.add_zero _).symm) (by rfl) ?_
  refine q_field (k := 4) rfl rfl rfl rfl Try.underlying25 rfl Try.sizeOf23 rfl ?_
  refine q_load_c (j := 4) rfl rfl rfl rfl Try.isAgg23 (by with_reducible (repeat (first | exact Take.here | apply Take.there))) (by first | rfl | exact (Nat.add_zero _).symm) (by rfl) ?_
  refine q_len rfl rfl rfl rfl Try.underlying23 ?_
  refine q_int rfl rfl rfl rfl rfl (b_geq _ _ _ _) ?_
  refine q_pick_f rfl rfl rfl rfl rfl ?_
  refine q_move rfl rfl rfl rfl ?_
  refine s_bool_p 39 rfl (fun hg => by exfalso; omega) (fun hg => ?_)
  refine q_field (k := 1) rfl rfl rfl rfl Try.underlying83 rfl Try.sizeOf3 rfl ?_
  refine q_load_c (j := 1) rfl rfl rfl rfl Try.isAgg3 (by with_reducible (repeat (first | exact Take.here | apply Take.there))) (by first | rfl | exact (Nat.add_zero _).symm) (by rfl) ?_
  refine q_int rfl rfl rfl rfl rfl (b_lss _ _ _ _) ?_
  refine q_pick_f rfl rfl rfl rfl rfl ?_
  refine q_move rfl rfl rfl rfl ?_
  refine s_bool_p 44 rfl (fun hg => by exfalso; omega) (fun hg => ?_)
  refine q_field (k := 1) rfl rfl rfl rfl Try.underlying83 rfl Try.sizeOf3 rfl ?_
  refine q_load_c (j := 1) rfl rfl rfl rfl Try.isAgg3 (by with_reducible (repeat (first | exact Take.here | apply Take.there))) (by first | rfl | exact (Nat.add_zero _).symm) (by rfl) ?_
  refine q_field (k := 4) rfl rfl rfl rfl Try.underlying25 rfl Try.sizeOf23 rfl ?_
  refine q_load_c (j := 4) rfl rfl rfl rfl Try.isAgg23 (by with_reducible (repeat (first | exact Take.here | apply Take.there))) (by first | rfl | exact (Nat.add_zero _).symm) (by rfl) ?_
  refine q_field (k := 1) rfl rfl rfl rfl Try.underlying51 rfl Try.sizeOf3 rfl ?_
  refine q_load_c (j := 1) rfl rfl rfl rfl Try.isAgg3 (by with_reducible (repeat (first | exact Take.here | apply Take.there))) (by first | rfl | exact (Nat.add_zero _).symm) (by rfl) ?_
  refine q_idxR (sz := 0) (k := a.2.1.toNat) rfl rfl rfl rfl rfl Try.underlying23 Try.sizeOf3 (hr) hpp encZ_len (by first | rfl | omega) (by omega) ?_
  intro ib51 io51 _ hd51
  refine q_load rfl rfl rfl rfl Try.isAgg3 (by with_reducible (repeat (first | exact Take.here | apply Take.there))) (hd51 0 (.int .i64 pp) rfl) ?_
  refine q_int rfl rfl rfl rfl rfl (b_geq _ _ _ _) ?_
  refine q_pick_f rfl rfl rfl rfl rfl ?_
  refine q_move rfl rfl rfl rfl ?_
  refine s_bool_p 55 rfl (fun hg => by exfalso; omega) (fun hg => ?_)
  refine q_field (k := 2) rfl rfl rfl rfl Try.underlying51 rfl Try.sizeOf3 rfl ?_
  refine q_load_c (j := 2) rfl rfl rfl rfl Try.isAgg3 (by with_reducible (repeat (first | exact Take.here | apply Take.there))) (by first | rfl | exact (Nat.add_zero _).symm) (by rfl) ?_
  refine q_field (k := 0) rfl rfl rfl rfl Try.underlying83 rfl Try.sizeOf3 rfl ?_
  refine q_load_c (j := 0) rfl rfl rfl rfl Try.isAgg3 (by with_reducible (repeat (first | exact Take.here | apply Take.there))) (by first | rfl | exact (Nat.add_zero _).symm) (by rfl) ?_
  refine q_int rfl rfl rfl rfl rfl (b_gtr _ _ _ _) ?_
  refine q_pick_f rfl rfl rfl rfl rfl ?_
  refine r_done ?_
  refine s_keep [0, 3, 5, 6, 9, 61] (e' := [(0, _), (3, _), (5, _), (6, _), (9, _), (61, _)]) rfl ?_
  refine k_then_n ?_
  refine c_cond_p rfl (fun hg => by exfalso; omega) (fun hg => ?_)
  refine c_skip ?_
  refine k_then_n ?_
  refine c_seq ?_
  refine c_plain (.q 0 (.done)) (by kernel_rfl) ?_
  refine q_assign rfl rfl rfl rfl ?_
  refine r_done ?_
  refine k_then_n ?_
  refine c_seq ?_
  refine c_seq ?_
  refine c_plain (.q 0 (.done)) (by kernel_rfl) ?_
  refine q_assign rfl rfl rfl rfl ?_
  refine r_done ?_
  refine k_then_n ?_
  refine c_block ?_
  refine c_loop2 (α := Nat × Nat) (fun (x_ : Nat × Nat) => match x_ with | (i, c) => i ≤ th.toNat ∧ (((c : Nat) : Int) = cn a (x.T.take i)) ∧ (c ≤ i)) (fun (x_ : Nat × Nat) => match x_ with | (i, c) => [(11, .int .i64 ((c : Nat) : Int)), (12, .int .i64 ((i : Nat) : Int))]) (fun (x_ : Nat × Nat) => match x_ with | (i, c) => [ck pa pc b x]) (fun (x_ : Nat × Nat) => match x_ with | (i, c) => th.toNat - i) [0, 3, 5, 6, 9] (er := [(0, _), (3, _), (5, _), (6, _), (9, _)]) rfl (0, 0) ?_ (by exact ⟨rfl, rfl, trivial⟩) (by (try dsimp only); (try simp only [Nat.add_zero, Nat.zero_add]); (repeat ((with_reducible apply Takes.cons); focus (first | (with_reducible (repeat (first | exact Take.here | apply Take.there)); done) | (repeat (first | exact Take.here | apply Take.there))))); exact Takes.nil) ?_
  · exact ⟨Nat.zero_le _, rfl, Nat.le_refl _⟩
  rintro ⟨i, c⟩ ⟨hle_i, hcn, hci⟩
  try simp only [List.cons_append, List.nil_append]
  refine c_seq ?_
  refine c_seq ?_
  refine c_plain (.q 0 (.q 1 (.q 2 (.q 3 (.done))))) (by kernel_rfl) ?_
  refine q_move rfl rfl rfl rfl ?_
  refine q_field (k := 0) rfl rfl rfl rfl Try.underlying25 rfl Try.sizeOf3 rfl ?_
  refine q_load_c (j := 0) rfl rfl rfl rfl Try.isAgg3 (by with_reducible (repeat (first | exact Take.here | apply Take.there))) (by first | rfl | exact (Nat.add_zero _).symm) (by rfl) ?_
  refine q_int rfl rfl rfl rfl rfl (b_lss _ _ _ _) ?_
  refine r_done ?_
  refine k_then_n ?_
  refine c_cond_p rfl (fun hlt => ?_) (fun hlt => ?_)
  · skip
    refine c_skip ?_
    refine k_then_n ?_
    refine c_seq ?_
    refine c_block ?_
    refine c_seq ?_
    refine c_plain (.q 0 (.q 1 ((.l 2 [] (.q 3 (.q 4 (.q 5 ((.l 6 [] ((.l 7 [] (.q 8 (.done))))))))))))) (by kernel_rfl) ?_
    refine q_move rfl rfl rfl rfl ?_
    refine q_move rfl rfl rfl rfl ?_
    have sp_2 := stand_spec pa pc b x ((i : Nat) : Int)
    refine l_call rfl rfl rfl rfl rfl rfl Try.call21 (sp_2) (by (repeat ((with_reducible apply Takes.cons); focus (first | (with_reducible (repeat (first | exact Take.here | apply Take.there)); done) | (repeat (first | exact Take.here | apply Take.there))))); exact Takes.nil) ?_
    rintro ⟨⟩ -
    try simp only [List.cons_append, List.nil_append]
    refine ag_nil ?_
    refine s_eq 71 rfl (v' := .tuple #[.agg #[.int .i64 ((stF x ((i : Nat) : Int)).1), .int .i64 ((stF x ((i : Nat) : Int)).2.1), .int .i64 ((stF x ((i : Nat) : Int)).2.2)], .int .i64 0]) (by rw [if_pos (by omega)]) ?_
    refine q_move rfl rfl rfl rfl ?_
    refine q_extract rfl rfl rfl rfl rfl ?_
    refine q_extract rfl rfl rfl rfl rfl ?_
    refine l_alloc rfl rfl rfl Try.zeroValue51 (zs := [.int .i64 0, .int .i64 0, .int .i64 0]) rfl ?_
    intro b13
    refine ag_nil ?_
    refine l_store (j := 0) rfl rfl rfl rfl Try.sizeOf51 (us := [_, _, _]) rfl rfl rfl (by with_reducible (repeat (first | exact Take.here | apply Take.there))) (by first | rfl | exact (Nat.add_zero _).symm) (by first | decide | (simp; done) | omega) ?_
    simp only [setL, List.set]
    refine ag_nil ?_
    refine q_assign rfl rfl rfl rfl ?_
    refine r_done ?_
    refine s_keep [0, 3, 5, 6, 9, 11, 12, 13] (e' := [(0, _), (3, _), (5, _), (6, _), (9, _), (11, _), (12, _), (13, _)]) rfl ?_
    refine k_then_n ?_
    refine c_seq ?_
    refine c_plain (.q 0 (.q 1 (.q 2 (.done)))) (by kernel_rfl) ?_
    refine q_loadN_c rfl rfl rfl rfl Try.isAgg51 Try.sizeOf51 (by with_reducible (repeat (first | exact Take.here | apply Take.there))) 0 (us := [_, _, _]) (by first | rfl | exact (Nat.add_zero _).symm) rfl rfl ?_
    refine q_loadN_c rfl rfl rfl rfl Try.isAgg51 Try.sizeOf51 (by with_reducible (repeat (first | exact Take.here | apply Take.there))) 0 (us := [_, _, _]) (by first | rfl | exact (Nat.add_zero _).symm) rfl rfl ?_
    have hti : x.T[i]? = some (stF x ((i : Nat) : Int)) := by have h_ := stF_at (x := x) (t := ((i : Nat) : Int)) (by omega) (by omega); rwa [Int.toNat_natCast] at h_
    have hct := cn_take a hti
    refine q_eqS rfl rfl rfl rfl rfl (by kernel_rfl) (eqc_struct Try.underlying51 (by kernel_rfl) (eqf_cons rfl Try.isAgg49 rfl rfl (eqc_int Try.underlying49) (eqf_cons rfl Try.isAgg3 rfl rfl (eqc_int Try.underlying3) (eqf_last rfl Try.isAgg3 rfl rfl (eqc_int Try.underlying3))))) ?_
    refine s_eq 76 rfl (v' := .bool (decide (((stF x ((i : Nat) : Int)).1, (stF x ((i : Nat) : Int)).2.1, (stF x ((i : Nat) : Int)).2.2) = (a.1, a.2.1, a.2.2)))) (by first | (congr 1; done) | (congr 1; rw [Bool.eq_iff_iff]; simp [Prod.ext_iff, and_assoc])) ?_
    refine r_done ?_
    refine k_then_n ?_
    refine c_cond_p rfl (fun heq => ?_) (fun heq => ?_)
    · skip
      rw [if_pos (show stF x ((i : Nat) : Int) = a from heq)] at hct
      refine c_plain (.q 0 (.q 1 (.q 2 (.done)))) (by kernel_rfl) ?_
      refine q_move rfl rfl rfl rfl ?_
      refine q_int rfl rfl rfl rfl rfl (b_add' _ (by (first | exact fits_i64 (by omega) (by omega) | exact fits_u64 (by omega) (by omega) | exact fits_u32 (by omega) (by omega) | exact fits_u8 (by omega) (by omega)))) ?_
      refine q_assign rfl rfl rfl rfl ?_
      refine r_done ?_
      refine s_keep [0, 3, 5, 6, 9, 11, 12] (e' := [(0, _), (3, _), (5, _), (6, _), (9, _), (11, _), (12, _)]) rfl ?_
      refine k_blk_n ?_
      refine k_then_n ?_
      refine c_plain (.q 0 (.q 1 (.q 2 (.done)))) (by kernel_rfl) ?_
      refine q_move rfl rfl rfl rfl ?_
      refine q_int rfl rfl rfl rfl rfl (b_add' _ (by (first | exact fits_i64 (by omega) (by omega) | exact fits_u64 (by omega) (by omega) | exact fits_u32 (by omega) (by omega) | exact fits_u8 (by omega) (by omega)))) ?_
      refine q_assign rfl rfl rfl rfl ?_
      refine r_done ?_
      refine k_then_n ?_
      refine loop_next (x := (i, c)) ((i + 1, c + 1)) ?_ ?_ ?_ ?_
      · try dsimp only
        exact ⟨by omega, by rw [hct, ← hcn]; rfl, by omega⟩
      · show th.toNat - (i + 1) < th.toNat - i; omega
      · exact ⟨rfl, rfl, rfl, rfl, rfl, rfl, rfl, trivial⟩
      · (try simp only [List.cons_append, List.nil_append]); (repeat ((with_reducible apply Takes.cons); focus (first | (with_reducible (repeat (first | exact Take.here | apply Take.there)); done) | (repeat (first | exact Take.here | apply Take.there))))); (repeat (first | exact Takes.nil | exact Takes.self | refine takes_drop2 ?_))
    · skip
      rw [if_neg (show ¬ stF x ((i : Nat) : Int) = a from heq)] at hct
      refine c_skip ?_
      refine k_blk_n ?_
      refine k_then_n ?_
      refine c_plain (.q 0 (.q 1 (.q 2 (.done)))) (by kernel_rfl) ?_
      refine q_move rfl rfl rfl rfl ?_
      refine q_int rfl rfl rfl rfl rfl (b_add' _ (by (first | exact fits_i64 (by omega) (by omega) | exact fits_u64 (by omega) (by omega) | exact fits_u32 (by omega) (by omega) | exact fits_u8 (by omega) (by omega)))) ?_
      refine q_assign rfl rfl rfl rfl ?_
      refine r_done ?_
      refine s_keep [0, 3, 5, 6, 9, 11, 12] (e' := [(0, _), (3, _), (5, _), (6, _), (9, _), (11, _), (12, _)]) rfl ?_
      refine k_then_n ?_
      refine loop_next (x := (i, c)) ((i + 1, c)) ?_ ?_ ?_ ?_
      · try dsimp only
        exact ⟨by omega, by rw [hct, ← hcn]; omega, by omega⟩
      · show th.toNat - (i + 1) < th.toNat - i; omega
      · exact ⟨rfl, rfl, rfl, rfl, rfl, rfl, rfl, trivial⟩
      · (try simp only [List.cons_append, List.nil_append]); (repeat ((with_reducible apply Takes.cons); focus (first | (with_reducible (repeat (first | exact Take.here | apply Take.there)); done) | (repeat (first | exact Take.here | apply Take.there))))); (repeat (first | exact Takes.nil | exact Takes.self | refine takes_drop2 ?_))
  · skip
    refine c_exit ?_
    refine k_then_exit ?_
    refine k_then_exit ?_
    refine k_blk_here ?_
    refine k_then_n ?_
    refine c_seq ?_
    refine c_plain (.q 0 (.done)) (by kernel_rfl) ?_
    refine q_assign rfl rfl rfl rfl ?_
    refine r_done ?_
    refine s_keep [3, 5, 6, 9, 11, 15] (e' := [(3, _), (5, _), (6, _), (9, _), (11, _), (15, _)]) rfl ?_
    refine k_then_n ?_
    refine c_seq ?_
    refine c_seq ?_
    refine c_plain (.q 0 (.done)) (by kernel_rfl) ?_
    refine q_assign rfl rfl rfl rfl ?_
    refine r_done ?_
    refine k_then_n ?_
    refine c_block ?_
    refine c_loop2 (α := Nat × Nat) (fun (x_ : Nat × Nat) => match x_ with | (j, d) => j ≤ gn ∧ (((d : Nat) : Int) = cn a (g.take j)) ∧ (d ≤ j)) (fun (x_ : Nat × Nat) => match x_ with | (j, d) => [(15, .int .i64 ((d : Nat) : Int)), (16, .int .i64 ((j : Nat) : Int))]) (fun (x_ : Nat × Nat) => match x_ with | (j, d) => []) (fun (x_ : Nat × Nat) => match x_ with | (j, d) => gn - j) [3, 5, 6, 9, 11] (er := [(3, _), (5, _), (6, _), (9, _), (11, _)]) rfl (0, 0) ?_ (by exact ⟨rfl, rfl, trivial⟩) (by (try dsimp only); (try simp only [Nat.add_zero, Nat.zero_add]); (repeat ((with_reducible apply Takes.cons); focus (first | (with_reducible (repeat (first | exact Take.here | apply Take.there)); done) | (repeat (first | exact Take.here | apply Take.there))))); exact Takes.nil) ?_
    · exact ⟨Nat.zero_le _, rfl, Nat.le_refl _⟩
    rintro ⟨j, d⟩ ⟨hle_j, hdn, hdi⟩
    try simp only [List.cons_append, List.nil_append]
    refine c_seq ?_
    refine c_seq ?_
    refine c_plain (.q 0 (.q 1 (.q 2 (.q 3 (.done))))) (by kernel_rfl) ?_
    refine q_move rfl rfl rfl rfl ?_
    refine q_move rfl rfl rfl rfl ?_
    refine q_len rfl rfl rfl rfl Try.underlying56 ?_
    refine q_int rfl rfl rfl rfl rfl (b_lss _ _ _ _) ?_
    refine r_done ?_
    refine k_then_n ?_
    refine c_cond_p rfl (fun hlt2 => ?_) (fun hlt2 => ?_)
    · skip
      refine c_skip ?_
      refine k_then_n ?_
      refine c_seq ?_
      refine c_block ?_
      refine c_seq ?_
      obtain ⟨q, hq⟩ := get_lt (l := g) (i := j) (by omega)
      have hct := cn_take a hq
      refine c_draw rfl (.q 0 (.q 1 (.q 2 (.q 3 (.q 4 (.q 5 (.done))))))) (by kernel_rfl) ?_
      refine q_move rfl rfl rfl rfl ?_
      refine q_move rfl rfl rfl rfl ?_
      refine q_idxR (sz := 2) (k := j) rfl rfl rfl rfl rfl Try.underlying56 Try.sizeOf51 (hgr) hq enc3_len (by first | rfl | omega) (by omega) ?_
      intro ib87 io87 _ hd87
      refine q_loadN (vs := [_, _, _]) rfl rfl rfl rfl Try.isAgg51 Try.sizeOf51 (by with_reducible (repeat (first | exact Take.here | apply Take.there))) (hd87) rfl ?_
      refine q_loadN_c rfl rfl rfl rfl Try.isAgg51 Try.sizeOf51 (by with_reducible (repeat (first | exact Take.here | apply Take.there))) 0 (us := [_, _, _]) (by first | rfl | exact (Nat.add_zero _).symm) rfl rfl ?_
      refine q_eqS rfl rfl rfl rfl rfl (by kernel_rfl) (eqc_struct Try.underlying51 (by kernel_rfl) (eqf_cons rfl Try.isAgg49 rfl rfl (eqc_int Try.underlying49) (eqf_cons rfl Try.isAgg3 rfl rfl (eqc_int Try.underlying3) (eqf_last rfl Try.isAgg3 rfl rfl (eqc_int Try.underlying3))))) ?_
      refine s_eq 90 rfl (v' := .bool (decide (q = (a.1, a.2.1, a.2.2)))) (by first | (congr 1; done) | (congr 1; rw [Bool.eq_iff_iff]; simp [Prod.ext_iff, and_assoc])) ?_
      refine r_done ?_
      refine s_keep [3, 5, 6, 9, 11, 15, 16, 90] (e' := [(3, _), (5, _), (6, _), (9, _), (11, _), (15, _), (16, _), (90, _)]) rfl ?_
      refine k_then_n ?_
      refine c_cond_p rfl (fun heq => ?_) (fun heq => ?_)
      · skip
        rw [if_pos (show q = a from heq)] at hct
        refine c_plain (.q 0 (.q 1 (.q 2 (.done)))) (by kernel_rfl) ?_
        refine q_move rfl rfl rfl rfl ?_
        refine q_int rfl rfl rfl rfl rfl (b_add' _ (by (first | exact fits_i64 (by omega) (by omega) | exact fits_u64 (by omega) (by omega) | exact fits_u32 (by omega) (by omega) | exact fits_u8 (by omega) (by omega)))) ?_
        refine q_assign rfl rfl rfl rfl ?_
        refine r_done ?_
        refine k_blk_n ?_
        refine k_then_n ?_
        refine c_plain (.q 0 (.q 1 (.q 2 (.done)))) (by kernel_rfl) ?_
        refine q_move rfl rfl rfl rfl ?_
        refine q_int rfl rfl rfl rfl rfl (b_add' _ (by (first | exact fits_i64 (by omega) (by omega) | exact fits_u64 (by omega) (by omega) | exact fits_u32 (by omega) (by omega) | exact fits_u8 (by omega) (by omega)))) ?_
        refine q_assign rfl rfl rfl rfl ?_
        refine r_done ?_
        refine s_keep [3, 5, 6, 9, 11, 15, 16] (e' := [(3, _), (5, _), (6, _), (9, _), (11, _), (15, _), (16, _)]) rfl ?_
        refine k_then_n ?_
        refine loop_next (x := (j, d)) ((j + 1, d + 1)) ?_ ?_ ?_ ?_
        · try dsimp only
          exact ⟨by omega, by rw [hct, ← hdn]; rfl, by omega⟩
        · show gn - (j + 1) < gn - j; omega
        · exact ⟨rfl, rfl, rfl, rfl, rfl, rfl, rfl, trivial⟩
        · (try simp only [List.cons_append, List.nil_append]); (repeat ((with_reducible apply Takes.cons); focus (first | (with_reducible (repeat (first | exact Take.here | apply Take.there)); done) | (repeat (first | exact Take.here | apply Take.there))))); (repeat (first | exact Takes.nil | exact Takes.self | refine takes_drop2 ?_))
      · skip
        rw [if_neg (show ¬ q = a from heq)] at hct
        refine c_skip ?_
        refine k_blk_n ?_
        refine k_then_n ?_
        refine c_plain (.q 0 (.q 1 (.q 2 (.done)))) (by kernel_rfl) ?_
        refine q_move rfl rfl rfl rfl ?_
        refine q_int rfl rfl rfl rfl rfl (b_add' _ (by (first | exact fits_i64 (by omega) (by omega) | exact fits_u64 (by omega) (by omega) | exact fits_u32 (by omega) (by omega) | exact fits_u8 (by omega) (by omega)))) ?_
        refine q_assign rfl rfl rfl rfl ?_
        refine r_done ?_
        refine k_then_n ?_
        refine loop_next (x := (j, d)) ((j + 1, d)) ?_ ?_ ?_ ?_
        · try dsimp only
          exact ⟨by omega, by rw [hct, ← hdn]; omega, by omega⟩
        · show gn - (j + 1) < gn - j; omega
        · exact ⟨rfl, rfl, rfl, rfl, rfl, rfl, rfl, trivial⟩
        · (try simp only [List.cons_append, List.nil_append]); (repeat ((with_reducible apply Takes.cons); focus (first | (with_reducible (repeat (first | exact Take.here | apply Take.there)); done) | (repeat (first | exact Take.here | apply Take.there))))); (repeat (first | exact Takes.nil | exact Takes.self | refine takes_drop2 ?_))
    · skip
      refine c_exit ?_
      refine k_then_exit ?_
      refine k_then_exit ?_
      refine k_blk_here ?_
      refine k_then_n ?_
      refine c_seq ?_
      refine c_seq ?_
      rw [List.take_of_length_le (by omega)] at hcn hdn
      have haa : a = (2, a.2.1, a.2.2) := by rw [← ha0]
      refine c_plain (.q 0 (.q 1 (.q 2 (.q 3 (.q 4 (.done)))))) (by kernel_rfl) ?_
      refine q_field (k := 2) rfl rfl rfl rfl Try.underlying51 rfl Try.sizeOf3 rfl ?_
      refine q_load_c (j := 2) rfl rfl rfl rfl Try.isAgg3 (by with_reducible (repeat (first | exact Take.here | apply Take.there))) (by first | rfl | exact (Nat.add_zero _).symm) (by rfl) ?_
      refine q_field (k := 0) rfl rfl rfl rfl Try.underlying83 rfl Try.sizeOf3 rfl ?_
      refine q_load_c (j := 0) rfl rfl rfl rfl Try.isAgg3 (by with_reducible (repeat (first | exact Take.here | apply Take.there))) (by first | rfl | exact (Nat.add_zero _).symm) (by rfl) ?_
      refine q_int rfl rfl rfl rfl rfl (b_eql _ _ _ _) ?_
      refine r_done ?_
      refine s_keep [5, 6, 9, 11, 15, 97] (e' := [(5, _), (6, _), (9, _), (11, _), (15, _), (97, _)]) rfl ?_
      refine k_then_n ?_
      refine c_cond_p rfl (fun hro => ?_) (fun hro => ?_)
      · skip
        have hfin := hG.at_ a.2.1 a.2.2 ha1 ha2 hro
        rw [← haa] at hfin
        refine c_seq ?_
        refine c_plain (.q 0 (.q 1 (.q 2 (.q 3 (.q 4 (.q 5 (.q 6 (.q 7 (.q 8 (.done)))))))))) (by kernel_rfl) ?_
        refine q_move rfl rfl rfl rfl ?_
        refine q_field (k := 1) rfl rfl rfl rfl Try.underlying83 rfl Try.sizeOf3 rfl ?_
        refine q_load_c (j := 1) rfl rfl rfl rfl Try.isAgg3 (by with_reducible (repeat (first | exact Take.here | apply Take.there))) (by first | rfl | exact (Nat.add_zero _).symm) (by rfl) ?_
        refine q_int rfl rfl rfl rfl rfl (b_eql _ _ _ _) ?_
        refine q_move rfl rfl rfl rfl ?_
        refine s_bool_p 102 rfl (fun hg => ?_) (fun hg => by exfalso; omega)
        refine q_move rfl rfl rfl rfl ?_
        refine q_int rfl rfl rfl rfl rfl (b_eql _ _ _ _) ?_
        refine s_eq 104 rfl (v' := .bool true) (by rw [decide_eq_true (by omega)]) ?_
        refine q_pick_t rfl rfl rfl rfl rfl ?_
        refine q_assign rfl rfl rfl rfl ?_
        refine r_done ?_
        refine s_keep [8] (e' := [(8, _)]) rfl ?_
        refine k_then_n ?_
        refine c_ret ?_
        refine k_then_ret ?_
        refine ret1 rfl rfl (()) (by first | rfl | (first | rfl | (congr 1; done) | (congr 1 <;> first | rfl | omega | (simp; done) | (simp; omega)))) (by trivial) ?_
        (repeat ((with_reducible apply Takes.cons); focus (first | (with_reducible (repeat (first | exact Take.here | apply Take.there)); done) | (repeat (first | exact Take.here | apply Take.there))))); (repeat (first | exact Takes.nil | exact Takes.self | refine takes_drop2 ?_))
      · skip
        have hfin := hG.lo a.2.1 a.2.2 pp ha1 ha2 (by rw [hpl]; exact hpp) ha3 (by omega)
        rw [← haa] at hfin
        refine c_skip ?_
        refine k_then_n ?_
        refine c_seq ?_
        refine c_plain (.q 0 (.q 1 (.q 2 (.q 3 (.q 4 (.q 5 (.q 6 (.q 7 (.q 8 (.q 9 (.q 10 (.done)))))))))))) (by kernel_rfl) ?_
        refine q_move rfl rfl rfl rfl ?_
        refine q_move rfl rfl rfl rfl ?_
        refine q_int rfl rfl rfl rfl rfl (b_add' _ (by (first | exact fits_i64 (by omega) (by omega) | exact fits_u64 (by omega) (by omega) | exact fits_u32 (by omega) (by omega) | exact fits_u8 (by omega) (by omega)))) ?_
        refine q_field (k := 4) rfl rfl rfl rfl Try.underlying25 rfl Try.sizeOf23 rfl ?_
        refine q_load_c (j := 4) rfl rfl rfl rfl Try.isAgg23 (by with_reducible (repeat (first | exact Take.here | apply Take.there))) (by first | rfl | exact (Nat.add_zero _).symm) (by rfl) ?_
        refine q_field (k := 1) rfl rfl rfl rfl Try.underlying51 rfl Try.sizeOf3 rfl ?_
        refine q_load_c (j := 1) rfl rfl rfl rfl Try.isAgg3 (by with_reducible (repeat (first | exact Take.here | apply Take.there))) (by first | rfl | exact (Nat.add_zero _).symm) (by rfl) ?_
        refine q_idxR (sz := 0) (k := a.2.1.toNat) rfl rfl rfl rfl rfl Try.underlying23 Try.sizeOf3 (hr) hpp encZ_len (by first | rfl | omega) (by omega) ?_
        intro ib113 io113 _ hd113
        refine q_load rfl rfl rfl rfl Try.isAgg3 (by with_reducible (repeat (first | exact Take.here | apply Take.there))) (hd113 0 (.int .i64 pp) rfl) ?_
        refine q_int rfl rfl rfl rfl rfl (b_eql _ _ _ _) ?_
        refine s_eq 115 rfl (v' := .bool true) (by rw [decide_eq_true (by omega)]) ?_
        refine q_assign rfl rfl rfl rfl ?_
        refine r_done ?_
        refine s_keep [8] (e' := [(8, _)]) rfl ?_
        refine k_then_n ?_
        refine c_ret ?_
        refine ret1 rfl rfl (()) (by first | rfl | (first | rfl | (congr 1; done) | (congr 1 <;> first | rfl | omega | (simp; done) | (simp; omega)))) (by trivial) ?_
        (repeat ((with_reducible apply Takes.cons); focus (first | (with_reducible (repeat (first | exact Take.here | apply Take.there)); done) | (repeat (first | exact Take.here | apply Take.there))))); (repeat (first | exact Takes.nil | exact Takes.self | refine takes_drop2 ?_))

theorem stands_ok (th va vo lk : Int) (pl : List Int) (ao : Option Addr) (n c : Nat) (A : HProp) (hr : RdS A ao (pl.flatMap encZ)) (hn : pl.length = n) (hb : n ≤ 4000000) (es : List T3) (eo : Option Addr) (m ec : Nat) (he : RdS A eo (es.flatMap enc3)) (hm : es.length = m) (hmb : m ≤ 4000000) (hok : OkS th va vo lk pl) : Spec Try.prog 7 [.agg #[.int .i64 th, .int .i64 va, .int .i64 vo, .int .i64 lk, .slice ao n c], .slice eo m ec] [A] (fun (_ : Unit) => .bool true) (fun _ => True) (fun _ => [A]) := by
  refine spec_mk (n := 167) Try.func7 rfl rfl rfl ?_
  intro Γ w0
  simp only [argE, List.cons_append, List.nil_append, Nat.zero_add, Nat.reduceAdd]
  have h1_ := hok.th
  have h2_ := hok.lk
  have h3_ := hok.pl
  refine c_seq ?_
  refine c_plain ((.l 0 [] (.q 1 (.done)))) (by kernel_rfl) ?_
  refine l_box rfl rfl rfl rfl (us := [_, _, _, _, _]) rfl ?_
  intro b2
  refine ag_nil ?_
  refine q_assign rfl rfl rfl rfl ?_
  refine r_done ?_
  refine k_then_n ?_
  refine c_seq ?_
  refine c_plain (.q 0 ((.l 1 [] (.q 2 (.q 3 (.q 4 (.q 5 (.q 6 (.done))))))))) (by kernel_rfl) ?_
  refine q_loadN_c rfl rfl rfl rfl Try.isAgg25 Try.sizeOf25 (by with_reducible (repeat (first | exact Take.here | apply Take.there))) 0 (us := [_, _, _, _, _]) (by first | rfl | exact (Nat.add_zero _).symm) rfl rfl ?_
  have sp_1 := new_spec th va vo lk pl ao n c A (hr) (by first | rfl | assumption | omega | (simp; done) | (simp; omega)) (by omega) hok
  refine l_call rfl rfl rfl rfl rfl rfl Try.call17 (sp_1) (by (repeat ((with_reducible apply Takes.cons); focus (first | (with_reducible (repeat (first | exact Take.here | apply Take.there)); done) | (repeat (first | exact Take.here | apply Take.there))))); exact Takes.nil) ?_
  rintro ⟨b5, b5p, b5c⟩ -
  try simp only [List.cons_append, List.nil_append]
  refine ag_nil ?_
  refine q_move rfl rfl rfl rfl ?_
  refine q_extract rfl rfl rfl rfl rfl ?_
  refine q_extract rfl rfl rfl rfl rfl ?_
  refine q_assign rfl rfl rfl rfl ?_
  refine q_assign rfl rfl rfl rfl ?_
  refine r_done ?_
  refine s_keep [1, 2, 5, 6] (e' := [(1, _), (2, _), (5, _), (6, _)]) rfl ?_
  refine k_then_n ?_
  refine c_seq ?_
  refine c_seq ?_
  refine c_plain (.q 0 (.q 1 (.q 2 (.q 3 (.q 4 (.q 5 (.done))))))) (by kernel_rfl) ?_
  refine q_move rfl rfl rfl rfl ?_
  refine q_int rfl rfl rfl rfl rfl (b_neq _ _ _ _) ?_
  refine s_eq 25 rfl (v' := .bool false) (by first | rfl | simp) ?_
  refine q_move rfl rfl rfl rfl ?_
  refine q_move rfl rfl rfl rfl ?_
  refine q_eq_nil rfl rfl rfl rfl Try.underlying42 ?_
  refine s_eq 28 rfl (v' := .bool false) rfl ?_
  refine q_pick_f rfl rfl rfl rfl rfl ?_
  refine r_done ?_
  refine s_keep [1, 2, 5, 6, 29] (e' := [(1, _), (2, _), (5, _), (6, _), (29, _)]) rfl ?_
  refine k_then_n ?_
  refine c_cond_f rfl ?_
  refine c_skip ?_
  refine k_then_n ?_
  refine c_seq ?_
  refine c_plain (.q 0 (.done)) (by kernel_rfl) ?_
  refine q_assign rfl rfl rfl rfl ?_
  refine r_done ?_
  refine k_then_n ?_
  refine c_seq ?_
  refine c_seq ?_
  refine c_plain (.q 0 (.done)) (by kernel_rfl) ?_
  refine q_assign rfl rfl rfl rfl ?_
  refine r_done ?_
  refine k_then_n ?_
  refine c_block ?_
  refine s_heap (fun _ h => own_nil (sz := 3) (enc := enc3) h) ?_
  refine c_loop2 (α := Nat × List T3 × Option Addr × Nat) (fun (x_ : Nat × List T3 × Option Addr × Nat) => match x_ with | (i, g, ga, gc) => i ≤ m ∧ (GI (sN (newF th va vo lk pl) es i) g) ∧ (g.length ≤ i)) (fun (x_ : Nat × List T3 × Option Addr × Nat) => match x_ with | (i, g, ga, gc) => [(7, .slice ga g.length gc), (8, .int .i64 ((i : Nat) : Int))]) (fun (x_ : Nat × List T3 × Option Addr × Nat) => match x_ with | (i, g, ga, gc) => [ck b5p b5c b5 (sN (newF th va vo lk pl) es i), own 1 encZ b5p b5c pl, own 3 enc3 ga gc g]) (fun (x_ : Nat × List T3 × Option Addr × Nat) => match x_ with | (i, g, ga, gc) => m - i) [1, 2, 5] (er := [(1, _), (2, _), (5, _)]) rfl (0, [], none, 0) ?_ (by exact ⟨rfl, rfl, trivial⟩) (by (try dsimp only); rw [sN_zero]; (repeat ((with_reducible apply Takes.cons); focus (first | (with_reducible (repeat (first | exact Take.here | apply Take.there)); done) | (repeat (first | exact Take.here | apply Take.there))))); exact Takes.nil) ?_
  · exact ⟨Nat.zero_le _, gi_new hok, Nat.le_refl _⟩
  rintro ⟨i, g, ga, gc⟩ ⟨hle_i, hG, hgl⟩
  try simp only [List.cons_append, List.nil_append]
  have hsn := (sN_n (newF th va vo lk pl) es i).2
  have hz0 : (newF th va vo lk pl).n = 0 := rfl
  have hsi := sN_inv (new_inv hok) es i
  refine c_seq ?_
  refine c_seq ?_
  refine c_plain (.q 0 (.q 1 (.q 2 (.q 3 (.done))))) (by kernel_rfl) ?_
  refine q_move rfl rfl rfl rfl ?_
  refine q_move rfl rfl rfl rfl ?_
  refine q_len rfl rfl rfl rfl Try.underlying26 ?_
  refine q_int rfl rfl rfl rfl rfl (b_lss _ _ _ _) ?_
  refine r_done ?_
  refine k_then_n ?_
  refine c_cond_p rfl (fun hlt => ?_) (fun hlt => ?_)
  · skip
    refine c_skip ?_
    refine k_then_n ?_
    refine c_seq ?_
    refine c_block ?_
    refine c_seq ?_
    refine c_plain (.q 0 (.q 1 (.q 2 (.q 3 (.q 4 (.q 5 ((.l 6 [] (.q 7 (.q 8 (.q 9 ((.l 10 [] ((.l 11 [] (.q 12 (.done))))))))))))))))) (by kernel_rfl) ?_
    refine q_move rfl rfl rfl rfl ?_
    refine q_move rfl rfl rfl rfl ?_
    refine q_move rfl rfl rfl rfl ?_
    obtain ⟨ev, hev⟩ := get_lt (l := es) (i := i) (by first | omega | (simp; done) | (simp; omega))
    refine q_idxR (sz := 2) (k := i) rfl rfl rfl rfl rfl Try.underlying26 Try.sizeOf32 (he) hev enc3_len (by first | rfl | omega) (by omega) ?_
    intro ib55 io55 _ hd55
    refine q_field (k := 1) rfl rfl rfl rfl Try.underlying32 rfl Try.sizeOf3 rfl ?_
    refine q_load rfl rfl rfl rfl Try.isAgg3 (by with_reducible (repeat (first | exact Take.here | apply Take.there))) (hd55 1 (.int .i64 ev.2.1) rfl) ?_
    have sp_2 := stand_spec b5p b5c b5 (sN (newF th va vo lk pl) es i) ev.2.1
    refine l_call rfl rfl rfl rfl rfl rfl Try.call21 (sp_2) (by (repeat ((with_reducible apply Takes.cons); focus (first | (with_reducible (repeat (first | exact Take.here | apply Take.there)); done) | (repeat (first | exact Take.here | apply Take.there))))); exact Takes.nil) ?_
    rintro ⟨⟩ -
    try simp only [List.cons_append, List.nil_append]
    refine ag_nil ?_
    refine q_move rfl rfl rfl rfl ?_
    refine q_extract rfl rfl rfl rfl rfl ?_
    refine q_extract rfl rfl rfl rfl rfl ?_
    refine l_alloc rfl rfl rfl Try.zeroValue51 (zs := [.int .i64 0, .int .i64 0, .int .i64 0]) rfl ?_
    intro b9
    refine ag_nil ?_
    refine l_store (j := 0) rfl rfl rfl rfl Try.sizeOf51 (us := [_, _, _]) rfl rfl rfl (by with_reducible (repeat (first | exact Take.here | apply Take.there))) (by first | rfl | exact (Nat.add_zero _).symm) (by first | decide | (simp; done) | omega) ?_
    simp only [setL, List.set]
    refine ag_nil ?_
    refine q_assign rfl rfl rfl rfl ?_
    refine r_done ?_
    refine s_keep [1, 2, 5, 7, 8, 9] (e' := [(1, _), (2, _), (5, _), (7, _), (8, _), (9, _)]) rfl ?_
    refine k_then_n ?_
    refine c_seq ?_
    refine c_seq ?_
    refine c_plain (.q 0 (.q 1 (.q 2 (.q 3 (.q 4 ((.l 5 [] (.q 6 (.done))))))))) (by kernel_rfl) ?_
    refine q_move rfl rfl rfl rfl ?_
    refine q_move rfl rfl rfl rfl ?_
    refine q_move rfl rfl rfl rfl ?_
    refine q_idxR (sz := 2) (k := i) rfl rfl rfl rfl rfl Try.underlying26 Try.sizeOf32 (he) hev enc3_len (by first | rfl | omega) (by omega) ?_
    intro ib64 io64 _ hd64
    refine q_loadN (vs := [_, _, _]) rfl rfl rfl rfl Try.isAgg32 Try.sizeOf32 (by with_reducible (repeat (first | exact Take.here | apply Take.there))) (hd64) rfl ?_
    have sp_3 := next_spec b5p b5c b5 (sN (newF th va vo lk pl) es i) (sN_inv (new_inv hok) es i) (by omega) pl (((sN_sh _ _ _).1)) ev.1 ev.2.1 ev.2.2
    refine l_call rfl rfl rfl rfl rfl rfl Try.call19 (sp_3) (by (repeat ((with_reducible apply Takes.cons); focus (first | (with_reducible (repeat (first | exact Take.here | apply Take.there)); done) | (repeat (first | exact Take.here | apply Take.there))))); exact Takes.nil) ?_
    rintro ⟨⟩ -
    try simp only [List.cons_append, List.nil_append]
    refine ag_nil ?_
    refine q_int rfl rfl rfl rfl rfl (b_neq _ _ _ _) ?_
    refine r_done ?_
    refine s_keep [1, 2, 5, 7, 8, 9, 67] (e' := [(1, _), (2, _), (5, _), (7, _), (8, _), (9, _), (67, _)]) rfl ?_
    refine k_then_n ?_
    refine c_cond_p rfl (fun hne => ?_) (fun hne => ?_)
    · skip
      have hnc := nxE_ne hne
      rw [← sN_next hev]
      have hGn : GI (sN (newF th va vo lk pl) es (i + 1)) g := by rw [sN_next hev, show nxF (sN (newF th va vo lk pl) es i) ev.1 ev.2.1 ev.2.2 = (sN (newF th va vo lk pl) es i) from if_neg hnc]; exact hG
      refine c_exit ?_
      refine k_then_exit ?_
      refine k_blk_here ?_
      refine k_then_n ?_
      refine c_plain (.q 0 (.q 1 (.q 2 (.done)))) (by kernel_rfl) ?_
      refine q_move rfl rfl rfl rfl ?_
      refine q_int rfl rfl rfl rfl rfl (b_add' _ (by (first | exact fits_i64 (by omega) (by omega) | exact fits_u64 (by omega) (by omega) | exact fits_u32 (by omega) (by omega) | exact fits_u8 (by omega) (by omega)))) ?_
      refine q_assign rfl rfl rfl rfl ?_
      refine r_done ?_
      refine s_keep [1, 2, 5, 7, 8] (e' := [(1, _), (2, _), (5, _), (7, _), (8, _)]) rfl ?_
      refine k_then_n ?_
      refine loop_next (x := (i, g, ga, gc)) ((i + 1, g, ga, gc)) ?_ ?_ ?_ ?_
      · try dsimp only
        exact ⟨by omega, hGn, by omega⟩
      · show m - (i + 1) < m - i; omega
      · exact ⟨rfl, rfl, rfl, rfl, rfl, trivial⟩
      · (try simp only [List.cons_append, List.nil_append]); (repeat ((with_reducible apply Takes.cons); focus (first | (with_reducible (repeat (first | exact Take.here | apply Take.there)); done) | (repeat (first | exact Take.here | apply Take.there))))); (repeat (first | exact Takes.nil | exact Takes.self | refine takes_drop2 ?_))
    · skip
      have hc := nxE_eq hne
      rw [← sN_next hev]
      have hGn := gi_next hsi hG hc
      rw [← sN_next hev] at hGn
      refine c_skip ?_
      refine k_then_n ?_
      refine c_seq ?_
      refine c_plain (.q 0 (.q 1 (.q 2 (.q 3 (.q 4 (.q 5 (.done))))))) (by kernel_rfl) ?_
      refine q_move rfl rfl rfl rfl ?_
      refine q_move rfl rfl rfl rfl ?_
      refine q_idxR (sz := 2) (k := i) rfl rfl rfl rfl rfl Try.underlying26 Try.sizeOf32 (he) hev enc3_len (by first | rfl | omega) (by omega) ?_
      intro ib70 io70 _ hd70
      refine q_field (k := 0) rfl rfl rfl rfl Try.underlying32 rfl Try.sizeOf30 rfl ?_
      refine q_load rfl rfl rfl rfl Try.isAgg30 (by with_reducible (repeat (first | exact Take.here | apply Take.there))) (hd70 0 (.int .i64 ev.1) rfl) ?_
      refine q_int rfl rfl rfl rfl rfl (b_eql _ _ _ _) ?_
      refine r_done ?_
      refine s_keep [1, 2, 5, 7, 8, 9, 73] (e' := [(1, _), (2, _), (5, _), (7, _), (8, _), (9, _), (73, _)]) rfl ?_
      refine k_then_n ?_
      refine c_cond_p rfl (fun h10 => ?_) (fun h10 => ?_)
      · skip
        rw [if_pos h10] at hGn
        refine c_plain (.q 0 (.q 1 ((.l 2 [] ((.l 3 [] (.q 4 (.done)))))))) (by kernel_rfl) ?_
        refine q_move rfl rfl rfl rfl ?_
        refine q_loadN_c rfl rfl rfl rfl Try.isAgg51 Try.sizeOf51 (by with_reducible (repeat (first | exact Take.here | apply Take.there))) 0 (us := [_, _, _]) (by first | rfl | exact (Nat.add_zero _).symm) rfl rfl ?_
        refine l_buildSlice rfl rfl rfl rfl (run_build1 (us := [_, _, _]) Try.underlying56 Try.sizeOf51 rfl Try.zeroValue51 rfl rfl rfl) ?_
        intro b76
        refine ag_nil ?_
        refine l_append (sz := 3) (enc := enc3) (xs := g) rfl rfl rfl rfl rfl Try.underlying56 Try.typeInfo51 rfl rfl rfl (by decide) (by with_reducible (repeat (first | exact Take.here | apply Take.there))) (by with_reducible (repeat (first | exact Take.here | apply Take.there))) (by first | rfl | omega | (simp; done) | (simp; omega)) (ys := [stF (sN (newF th va vo lk pl) es i) ev.2.1]) (rds_some rdn_cells) (by rfl) (by first | rfl | omega) (enc3_len) (enc3_one) (by omega) (by show _ * 24 ≤ _; omega) ?_
        intro ao77 cp77
        refine ag_nil ?_
        refine q_assign rfl rfl rfl rfl ?_
        refine r_done ?_
        refine s_keep [1, 2, 5, 7, 8] (e' := [(1, _), (2, _), (5, _), (7, _), (8, _)]) rfl ?_
        refine k_blk_n ?_
        refine k_then_n ?_
        refine c_plain (.q 0 (.q 1 (.q 2 (.done)))) (by kernel_rfl) ?_
        refine q_move rfl rfl rfl rfl ?_
        refine q_int rfl rfl rfl rfl rfl (b_add' _ (by (first | exact fits_i64 (by omega) (by omega) | exact fits_u64 (by omega) (by omega) | exact fits_u32 (by omega) (by omega) | exact fits_u8 (by omega) (by omega)))) ?_
        refine q_assign rfl rfl rfl rfl ?_
        refine r_done ?_
        refine k_then_n ?_
        refine s_eq 7 rfl (v' := .slice ao77 (g ++ [stF (sN (newF th va vo lk pl) es i) ev.2.1]).length cp77) (by first | rfl | (congr 1; done) | (congr 1 <;> first | rfl | omega | (simp; done) | (simp; omega))) ?_
        refine loop_next (x := (i, g, ga, gc)) ((i + 1, g ++ [stF (sN (newF th va vo lk pl) es i) ev.2.1], ao77, cp77)) ?_ ?_ ?_ ?_
        · try dsimp only
          exact ⟨by omega, hGn, by rw [List.length_append]; simp; omega⟩
        · show m - (i + 1) < m - i; omega
        · exact ⟨rfl, rfl, rfl, rfl, rfl, trivial⟩
        · (try simp only [List.cons_append, List.nil_append]); (repeat ((with_reducible apply Takes.cons); focus (first | (with_reducible (repeat (first | exact Take.here | apply Take.there)); done) | (repeat (first | exact Take.here | apply Take.there))))); (repeat (first | exact Takes.nil | exact Takes.self | refine takes_drop2 ?_))
      · skip
        rw [if_neg h10] at hGn
        refine c_skip ?_
        refine k_blk_n ?_
        refine k_then_n ?_
        refine c_plain (.q 0 (.q 1 (.q 2 (.done)))) (by kernel_rfl) ?_
        refine q_move rfl rfl rfl rfl ?_
        refine q_int rfl rfl rfl rfl rfl (b_add' _ (by (first | exact fits_i64 (by omega) (by omega) | exact fits_u64 (by omega) (by omega) | exact fits_u32 (by omega) (by omega) | exact fits_u8 (by omega) (by omega)))) ?_
        refine q_assign rfl rfl rfl rfl ?_
        refine r_done ?_
        refine s_keep [1, 2, 5, 7, 8] (e' := [(1, _), (2, _), (5, _), (7, _), (8, _)]) rfl ?_
        refine k_then_n ?_
        refine loop_next (x := (i, g, ga, gc)) ((i + 1, g, ga, gc)) ?_ ?_ ?_ ?_
        · try dsimp only
          exact ⟨by omega, hGn, by omega⟩
        · show m - (i + 1) < m - i; omega
        · exact ⟨rfl, rfl, rfl, rfl, rfl, trivial⟩
        · (try simp only [List.cons_append, List.nil_append]); (repeat ((with_reducible apply Takes.cons); focus (first | (with_reducible (repeat (first | exact Take.here | apply Take.there)); done) | (repeat (first | exact Take.here | apply Take.there))))); (repeat (first | exact Takes.nil | exact Takes.self | refine takes_drop2 ?_))
  · skip
    refine c_exit ?_
    refine k_then_exit ?_
    refine k_then_exit ?_
    refine k_blk_here ?_
    refine k_then_n ?_
    refine c_seq ?_
    refine c_seq ?_
    obtain rfl : i = m := by omega
    obtain ⟨Y, hY⟩ : ∃ Y, Y = (sN (newF th va vo lk pl) es i) := ⟨_, rfl⟩
    rw [← hY] at hG ⊢
    have hYi : CInv Y := by rw [hY]; exact sN_inv (new_inv hok) _ _
    obtain ⟨hYp, hYt, -, -, hYl⟩ : Y.pa = pl ∧ Y.th = th ∧ Y.va = va ∧ Y.vo = vo ∧ Y.lk = lk := by rw [hY]; exact sN_sh _ _ _
    refine c_plain (.q 0 (.done)) (by kernel_rfl) ?_
    refine q_assign rfl rfl rfl rfl ?_
    refine r_done ?_
    refine s_keep [2, 5, 7, 11] (e' := [(2, _), (5, _), (7, _), (11, _)]) rfl ?_
    refine k_then_n ?_
    refine c_block ?_
    refine c_loop2 (α := Nat) (fun (l : Nat) => l ≤ lk.toNat) (fun (l : Nat) => [(11, .int .i64 ((l : Nat) : Int))]) (fun (l : Nat) => [ck b5p b5c b5 Y, own 1 encZ b5p b5c pl, own 3 enc3 ga gc g]) (fun (l : Nat) => lk.toNat - l) [2, 5, 7] (er := [(2, _), (5, _), (7, _)]) rfl (0) ?_ (by exact ⟨rfl, trivial⟩) (by (try dsimp only); (try simp only [Nat.add_zero, Nat.zero_add]); (repeat ((with_reducible apply Takes.cons); focus (first | (with_reducible (repeat (first | exact Take.here | apply Take.there)); done) | (repeat (first | exact Take.here | apply Take.there))))); exact Takes.nil) ?_
    · exact Nat.zero_le _
    rintro l hle_l
    try simp only [List.cons_append, List.nil_append]
    refine c_seq ?_
    refine c_seq ?_
    refine c_plain (.q 0 (.q 1 (.q 2 (.q 3 (.done))))) (by kernel_rfl) ?_
    refine q_move rfl rfl rfl rfl ?_
    refine q_field (k := 3) rfl rfl rfl rfl Try.underlying25 rfl Try.sizeOf3 rfl ?_
    refine q_load_c (j := 3) rfl rfl rfl rfl Try.isAgg3 (by with_reducible (repeat (first | exact Take.here | apply Take.there))) (by first | rfl | exact (Nat.add_zero _).symm) (by rfl) ?_
    refine q_int rfl rfl rfl rfl rfl (b_lss _ _ _ _) ?_
    refine r_done ?_
    refine k_then_n ?_
    refine c_cond_p rfl (fun hlt2 => ?_) (fun hlt2 => ?_)
    · skip
      refine c_skip ?_
      refine k_then_n ?_
      refine c_seq ?_
      refine c_block ?_
      refine c_seq ?_
      refine c_plain (.q 0 (.q 1 ((.l 2 [] (.q 3 (.q 4 (.q 5 (.q 6 (.q 7 (.done)))))))))) (by kernel_rfl) ?_
      refine q_move rfl rfl rfl rfl ?_
      refine q_move rfl rfl rfl rfl ?_
      have sp_4 := owner_spec b5p b5c b5 Y ((l : Nat) : Int)
      refine l_call rfl rfl rfl rfl rfl rfl Try.call23 (sp_4) (by (repeat ((with_reducible apply Takes.cons); focus (first | (with_reducible (repeat (first | exact Take.here | apply Take.there)); done) | (repeat (first | exact Take.here | apply Take.there))))); exact Takes.nil) ?_
      rintro ⟨⟩ -
      try simp only [List.cons_append, List.nil_append]
      refine ag_nil ?_
      refine s_eq 87 rfl (v' := .tuple #[.int .i64 (owV Y ((l : Nat) : Int)), .int .i64 0]) (by rw [if_pos (by omega), if_pos (by omega)]) ?_
      refine q_move rfl rfl rfl rfl ?_
      refine q_extract rfl rfl rfl rfl rfl ?_
      refine q_extract rfl rfl rfl rfl rfl ?_
      refine q_assign rfl rfl rfl rfl ?_
      refine q_assign rfl rfl rfl rfl ?_
      refine r_done ?_
      refine s_keep [2, 5, 7, 11, 12, 13] (e' := [(2, _), (5, _), (7, _), (11, _), (12, _), (13, _)]) rfl ?_
      refine k_then_n ?_
      refine c_seq ?_
      refine c_plain (.q 0 (.q 1 ((.l 2 [] (.q 3 (.q 4 (.q 5 ((.l 6 [] ((.l 7 [] (.q 8 (.done))))))))))))) (by kernel_rfl) ?_
      refine q_move rfl rfl rfl rfl ?_
      refine q_move rfl rfl rfl rfl ?_
      have sp_5 := stand_spec b5p b5c b5 Y (owV Y ((l : Nat) : Int))
      refine l_call rfl rfl rfl rfl rfl rfl Try.call21 (sp_5) (by (repeat ((with_reducible apply Takes.cons); focus (first | (with_reducible (repeat (first | exact Take.here | apply Take.there)); done) | (repeat (first | exact Take.here | apply Take.there))))); exact Takes.nil) ?_
      rintro ⟨⟩ -
      try simp only [List.cons_append, List.nil_append]
      refine ag_nil ?_
      refine q_move rfl rfl rfl rfl ?_
      refine q_extract rfl rfl rfl rfl rfl ?_
      refine q_extract rfl rfl rfl rfl rfl ?_
      refine l_alloc rfl rfl rfl Try.zeroValue51 (zs := [.int .i64 0, .int .i64 0, .int .i64 0]) rfl ?_
      intro b14
      refine ag_nil ?_
      refine l_store (j := 0) rfl rfl rfl rfl Try.sizeOf51 (us := [_, _, _]) rfl rfl rfl (by with_reducible (repeat (first | exact Take.here | apply Take.there))) (by first | rfl | exact (Nat.add_zero _).symm) (by first | decide | (simp; done) | omega) ?_
      simp only [setL, List.set]
      refine ag_nil ?_
      refine q_assign rfl rfl rfl rfl ?_
      refine r_done ?_
      refine s_keep [2, 5, 7, 11, 12, 13, 14, 15] (e' := [(2, _), (5, _), (7, _), (11, _), (12, _), (13, _), (14, _), (15, _)]) rfl ?_
      refine k_then_n ?_
      refine c_seq ?_
      refine c_plain (.q 0 (.q 1 (.q 2 (.q 3 (.q 4 (.q 5 (.q 6 (.q 7 (.q 8 (.q 9 (.q 10 (.q 11 (.q 12 (.q 13 (.q 14 (.done)))))))))))))))) (by kernel_rfl) ?_
      refine q_move rfl rfl rfl rfl ?_
      refine q_int rfl rfl rfl rfl rfl (b_neq _ _ _ _) ?_
      refine s_eq 97 rfl (v' := .bool false) (by first | rfl | simp) ?_
      refine q_move rfl rfl rfl rfl ?_
      refine q_move rfl rfl rfl rfl ?_
      refine q_int rfl rfl rfl rfl rfl (b_neq _ _ _ _) ?_
      refine q_move rfl rfl rfl rfl ?_
      refine s_bool_p 101 rfl (fun hv => ?_) (fun hv => ?_)
      · skip
        have hv2 : (stF Y (owV Y ((l : Nat) : Int))).1 ≠ 0 := (owV_inv hYi _).resolve_left hv
        have hv3 := stF_nz hv2
        have hv4 := hYi.tl
        have hif : (if 0 ≤ owV Y ((l : Nat) : Int) ∧ owV Y ((l : Nat) : Int) < Y.th then (0 : Int) else 2) = 0 := if_pos (by omega)
        refine q_move rfl rfl rfl rfl ?_
        refine q_int rfl rfl rfl rfl rfl (b_neq _ _ _ _) ?_
        refine q_move rfl rfl rfl rfl ?_
        refine s_bool_p 104 rfl (fun hg => by exfalso; exact hg hif) (fun hg => ?_)
        refine q_field (k := 0) rfl rfl rfl rfl Try.underlying51 rfl Try.sizeOf49 rfl ?_
        refine q_load_c (j := 0) rfl rfl rfl rfl Try.isAgg49 (by with_reducible (repeat (first | exact Take.here | apply Take.there))) (by first | rfl | exact (Nat.add_zero _).symm) (by rfl) ?_
        refine q_int rfl rfl rfl rfl rfl (b_eql _ _ _ _) ?_
        refine q_pick_f rfl rfl rfl rfl rfl ?_
        refine q_pick_t rfl rfl rfl rfl rfl ?_
        refine q_pick_f rfl rfl rfl rfl rfl ?_
        refine r_done ?_
        refine s_keep [2, 5, 7, 11, 99, 100, 101, 102, 103, 104, 105, 106, 107, 108, 109, 110] (e' := [(2, _), (5, _), (7, _), (11, _), (99, _), (100, _), (101, _), (102, _), (103, _), (104, _), (105, _), (106, _), (107, _), (108, _), (109, _), (110, _)]) rfl ?_
        refine k_then_n ?_
        refine c_cond_p rfl (fun hg => by exfalso; exact hv2 hg) (fun hg => ?_)
        refine c_skip ?_
        refine k_blk_n ?_
        refine k_then_n ?_
        refine c_plain (.q 0 (.q 1 (.q 2 (.done)))) (by kernel_rfl) ?_
        refine q_move rfl rfl rfl rfl ?_
        refine q_int rfl rfl rfl rfl rfl (b_add' _ (by (first | exact fits_i64 (by omega) (by omega) | exact fits_u64 (by omega) (by omega) | exact fits_u32 (by omega) (by omega) | exact fits_u8 (by omega) (by omega)))) ?_
        refine q_assign rfl rfl rfl rfl ?_
        refine r_done ?_
        refine k_then_n ?_
        refine loop_next (x := l) (l + 1) ?_ ?_ ?_ ?_
        · exact by show l + 1 ≤ lk.toNat; omega
        · show lk.toNat - (l + 1) < lk.toNat - l; omega
        · exact ⟨rfl, rfl, rfl, rfl, trivial⟩
        · (try simp only [List.cons_append, List.nil_append]); (repeat ((with_reducible apply Takes.cons); focus (first | (with_reducible (repeat (first | exact Take.here | apply Take.there)); done) | (repeat (first | exact Take.here | apply Take.there))))); (repeat (first | exact Takes.nil | exact Takes.self | refine takes_drop2 ?_))
      · skip
        refine q_skip rfl rfl rfl rfl ?_
        refine q_skip rfl rfl rfl rfl ?_
        refine q_skip rfl rfl rfl rfl ?_
        refine q_skip rfl rfl rfl rfl ?_
        refine q_skip rfl rfl rfl rfl ?_
        refine q_skip rfl rfl rfl rfl ?_
        refine q_skip rfl rfl rfl rfl ?_
        refine q_pick_f rfl rfl rfl rfl rfl ?_
        refine q_pick_f rfl rfl rfl rfl rfl ?_
        refine r_done ?_
        refine s_keep [2, 5, 7, 11, 99, 100, 101, 102, 103, 104, 105, 106, 107, 108, 109, 110] (e' := [(2, _), (5, _), (7, _), (11, _), (99, _), (100, _), (101, _), (102, _), (103, _), (104, _), (105, _), (106, _), (107, _), (108, _), (109, _), (110, _)]) rfl ?_
        refine k_then_n ?_
        refine c_cond_f rfl ?_
        refine c_skip ?_
        refine k_blk_n ?_
        refine k_then_n ?_
        refine c_plain (.q 0 (.q 1 (.q 2 (.done)))) (by kernel_rfl) ?_
        refine q_move rfl rfl rfl rfl ?_
        refine q_int rfl rfl rfl rfl rfl (b_add' _ (by (first | exact fits_i64 (by omega) (by omega) | exact fits_u64 (by omega) (by omega) | exact fits_u32 (by omega) (by omega) | exact fits_u8 (by omega) (by omega)))) ?_
        refine q_assign rfl rfl rfl rfl ?_
        refine r_done ?_
        refine k_then_n ?_
        refine loop_next (x := l) (l + 1) ?_ ?_ ?_ ?_
        · exact by show l + 1 ≤ lk.toNat; omega
        · show lk.toNat - (l + 1) < lk.toNat - l; omega
        · exact ⟨rfl, rfl, rfl, rfl, trivial⟩
        · (try simp only [List.cons_append, List.nil_append]); (repeat ((with_reducible apply Takes.cons); focus (first | (with_reducible (repeat (first | exact Take.here | apply Take.there)); done) | (repeat (first | exact Take.here | apply Take.there))))); (repeat (first | exact Takes.nil | exact Takes.self | refine takes_drop2 ?_))
    · skip
      refine c_exit ?_
      refine k_then_exit ?_
      refine k_then_exit ?_
      refine k_blk_here ?_
      refine k_then_n ?_
      refine c_seq ?_
      refine c_seq ?_
      refine c_plain (.q 0 (.done)) (by kernel_rfl) ?_
      refine q_assign rfl rfl rfl rfl ?_
      refine r_done ?_
      refine s_keep [2, 5, 7, 16] (e' := [(2, _), (5, _), (7, _), (16, _)]) rfl ?_
      refine k_then_n ?_
      refine c_block ?_
      refine c_loop2 (α := Nat) (fun (t : Nat) => t ≤ th.toNat) (fun (t : Nat) => [(16, .int .i64 ((t : Nat) : Int))]) (fun (t : Nat) => [ck b5p b5c b5 Y, own 1 encZ b5p b5c pl, own 3 enc3 ga gc g]) (fun (t : Nat) => th.toNat - t) [2, 5, 7] (er := [(2, _), (5, _), (7, _)]) rfl (0) ?_ (by exact ⟨rfl, trivial⟩) (by (try dsimp only); (try simp only [Nat.add_zero, Nat.zero_add]); (repeat ((with_reducible apply Takes.cons); focus (first | (with_reducible (repeat (first | exact Take.here | apply Take.there)); done) | (repeat (first | exact Take.here | apply Take.there))))); exact Takes.nil) ?_
      · exact Nat.zero_le _
      rintro t hle_t
      try simp only [List.cons_append, List.nil_append]
      refine c_seq ?_
      refine c_seq ?_
      refine c_plain (.q 0 (.q 1 (.q 2 (.q 3 (.done))))) (by kernel_rfl) ?_
      refine q_move rfl rfl rfl rfl ?_
      refine q_field (k := 0) rfl rfl rfl rfl Try.underlying25 rfl Try.sizeOf3 rfl ?_
      refine q_load_c (j := 0) rfl rfl rfl rfl Try.isAgg3 (by with_reducible (repeat (first | exact Take.here | apply Take.there))) (by first | rfl | exact (Nat.add_zero _).symm) (by rfl) ?_
      refine q_int rfl rfl rfl rfl rfl (b_lss _ _ _ _) ?_
      refine r_done ?_
      refine k_then_n ?_
      refine c_cond_p rfl (fun hlt3 => ?_) (fun hlt3 => ?_)
      · skip
        refine c_skip ?_
        refine k_then_n ?_
        refine c_seq ?_
        refine c_block ?_
        refine c_seq ?_
        refine c_plain (.q 0 (.q 1 ((.l 2 [] (.q 3 (.q 4 (.q 5 ((.l 6 [] ((.l 7 [] (.q 8 (.done))))))))))))) (by kernel_rfl) ?_
        refine q_move rfl rfl rfl rfl ?_
        refine q_move rfl rfl rfl rfl ?_
        have sp_6 := stand_spec b5p b5c b5 Y ((t : Nat) : Int)
        refine l_call rfl rfl rfl rfl rfl rfl Try.call21 (sp_6) (by (repeat ((with_reducible apply Takes.cons); focus (first | (with_reducible (repeat (first | exact Take.here | apply Take.there)); done) | (repeat (first | exact Take.here | apply Take.there))))); exact Takes.nil) ?_
        rintro ⟨⟩ -
        try simp only [List.cons_append, List.nil_append]
        refine ag_nil ?_
        refine s_eq 120 rfl (v' := .tuple #[.agg #[.int .i64 ((stF Y ((t : Nat) : Int)).1), .int .i64 ((stF Y ((t : Nat) : Int)).2.1), .int .i64 ((stF Y ((t : Nat) : Int)).2.2)], .int .i64 0]) (by rw [if_pos (by omega)]) ?_
        refine q_move rfl rfl rfl rfl ?_
        refine q_extract rfl rfl rfl rfl rfl ?_
        refine q_extract rfl rfl rfl rfl rfl ?_
        refine l_alloc rfl rfl rfl Try.zeroValue51 (zs := [.int .i64 0, .int .i64 0, .int .i64 0]) rfl ?_
        intro b17
        refine ag_nil ?_
        refine l_store (j := 0) rfl rfl rfl rfl Try.sizeOf51 (us := [_, _, _]) rfl rfl rfl (by with_reducible (repeat (first | exact Take.here | apply Take.there))) (by first | rfl | exact (Nat.add_zero _).symm) (by first | decide | (simp; done) | omega) ?_
        simp only [setL, List.set]
        refine ag_nil ?_
        refine q_assign rfl rfl rfl rfl ?_
        refine r_done ?_
        refine s_keep [2, 5, 7, 16, 17, 18] (e' := [(2, _), (5, _), (7, _), (16, _), (17, _), (18, _)]) rfl ?_
        refine k_then_n ?_
        refine c_seq ?_
        refine c_seq ?_
        have hsi := stF_inv hYi ((t : Nat) : Int)
        refine c_plain (.q 0 (.q 1 (.q 2 (.q 3 (.q 4 (.q 5 (.q 6 (.q 7 (.q 8 (.q 9 (.q 10 (.q 11 (.done))))))))))))) (by kernel_rfl) ?_
        refine q_move rfl rfl rfl rfl ?_
        refine q_int rfl rfl rfl rfl rfl (b_neq _ _ _ _) ?_
        refine s_eq 124 rfl (v' := .bool false) (by first | rfl | simp) ?_
        refine q_move rfl rfl rfl rfl ?_
        refine q_field (k := 0) rfl rfl rfl rfl Try.underlying51 rfl Try.sizeOf49 rfl ?_
        refine q_load_c (j := 0) rfl rfl rfl rfl Try.isAgg49 (by with_reducible (repeat (first | exact Take.here | apply Take.there))) (by first | rfl | exact (Nat.add_zero _).symm) (by rfl) ?_
        refine q_int rfl rfl rfl rfl rfl (b_lss _ _ _ _) ?_
        refine q_pick_f rfl rfl rfl rfl rfl ?_
        refine q_move rfl rfl rfl rfl ?_
        refine s_bool_p 130 rfl (fun hg => by exfalso; omega) (fun hg => ?_)
        refine q_field (k := 0) rfl rfl rfl rfl Try.underlying51 rfl Try.sizeOf49 rfl ?_
        refine q_load_c (j := 0) rfl rfl rfl rfl Try.isAgg49 (by with_reducible (repeat (first | exact Take.here | apply Take.there))) (by first | rfl | exact (Nat.add_zero _).symm) (by rfl) ?_
        refine q_int rfl rfl rfl rfl rfl (b_gtr _ _ _ _) ?_
        refine q_pick_f rfl rfl rfl rfl rfl ?_
        refine r_done ?_
        refine s_keep [2, 5, 7, 16, 17, 126, 127, 128, 131, 132, 133, 134] (e' := [(2, _), (5, _), (7, _), (16, _), (17, _), (126, _), (127, _), (128, _), (131, _), (132, _), (133, _), (134, _)]) rfl ?_
        refine k_then_n ?_
        refine c_cond_p rfl (fun hg => by exfalso; omega) (fun hg => ?_)
        refine c_skip ?_
        refine k_then_n ?_
        refine c_seq ?_
        refine c_plain (.q 0 (.q 1 (.q 2 (.q 3 (.q 4 (.q 5 (.q 6 (.q 7 ((.l 8 [] (.q 9 (.q 10 (.q 11 (.q 12 (.q 13 (.q 14 (.q 15 (.q 16 (.q 17 (.q 18 (.q 19 (.q 20 (.q 21 (.q 22 (.q 23 (.q 24 (.q 25 (.q 26 ((.l 27 [] (.q 28 (.q 29 (.q 30 (.done)))))))))))))))))))))))))))))))))) (by kernel_rfl) ?_
        refine q_field (k := 0) rfl rfl rfl rfl Try.underlying51 rfl Try.sizeOf49 rfl ?_
        refine q_load_c (j := 0) rfl rfl rfl rfl Try.isAgg49 (by with_reducible (repeat (first | exact Take.here | apply Take.there))) (by first | rfl | exact (Nat.add_zero _).symm) (by rfl) ?_
        refine q_int rfl rfl rfl rfl rfl (b_eql _ _ _ _) ?_
        refine q_move rfl rfl rfl rfl ?_
        refine s_bool_p 138 rfl (fun h2 => ?_) (fun h2 => ?_)
        · skip
          obtain ⟨w1, w2, w3, w4⟩ := hsi.2.2.1 h2
          refine q_move rfl rfl rfl rfl ?_
          refine q_loadN_c rfl rfl rfl rfl Try.isAgg25 Try.sizeOf25 (by with_reducible (repeat (first | exact Take.here | apply Take.there))) 0 (us := [_, _, _, _, _]) (by first | rfl | exact (Nat.add_zero _).symm) rfl rfl ?_
          refine q_loadN_c rfl rfl rfl rfl Try.isAgg51 Try.sizeOf51 (by with_reducible (repeat (first | exact Take.here | apply Take.there))) 0 (us := [_, _, _]) (by first | rfl | exact (Nat.add_zero _).symm) rfl rfl ?_
          refine q_move rfl rfl rfl rfl ?_
          refine s_take (A := own 3 enc3 ga gc g) (by with_reducible (repeat (first | exact Take.here | apply Take.there))) ?_
          refine own_fc fun go1 go2 go3 => ?_
          have sp_7 := round_law th va vo lk pl ao n c A hr hn hb b5p b5c b5 Y hYi hYt hYp g ga g.length gc (own 3 enc3 ga gc g) (rds_own enc3_len (fun h => (go2 h).1) go3) rfl (by omega) hG (stF Y ((t : Nat) : Int)) h2 w1 w2 w3 w4
          refine l_call rfl rfl rfl rfl rfl rfl Try.call24 (sp_7) (by (repeat ((with_reducible apply Takes.cons); focus (first | (with_reducible (repeat (first | exact Take.here | apply Take.there)); done) | (repeat (first | exact Take.here | apply Take.there))))); exact Takes.nil) ?_
          rintro ⟨⟩ -
          try simp only [List.cons_append, List.nil_append]
          refine ag_nil ?_
          refine q_not rfl rfl rfl rfl ?_
          refine s_eq 144 rfl (v' := .bool false) rfl ?_
          refine q_pick_t rfl rfl rfl rfl rfl ?_
          refine q_move rfl rfl rfl rfl ?_
          refine q_field (k := 0) rfl rfl rfl rfl Try.underlying51 rfl Try.sizeOf49 rfl ?_
          refine q_load_c (j := 0) rfl rfl rfl rfl Try.isAgg49 (by with_reducible (repeat (first | exact Take.here | apply Take.there))) (by first | rfl | exact (Nat.add_zero _).symm) (by rfl) ?_
          refine q_int rfl rfl rfl rfl rfl (b_neq _ _ _ _) ?_
          refine q_move rfl rfl rfl rfl ?_
          refine s_bool_p 150 rfl (fun hg => by exfalso; exact hg h2) (fun hg => ?_)
          refine q_skip rfl rfl rfl rfl ?_
          refine q_skip rfl rfl rfl rfl ?_
          refine q_skip rfl rfl rfl rfl ?_
          refine q_skip rfl rfl rfl rfl ?_
          refine q_skip rfl rfl rfl rfl ?_
          refine q_skip rfl rfl rfl rfl ?_
          refine q_skip rfl rfl rfl rfl ?_
          refine q_skip rfl rfl rfl rfl ?_
          refine q_skip rfl rfl rfl rfl ?_
          refine q_skip rfl rfl rfl rfl ?_
          refine q_skip rfl rfl rfl rfl ?_
          refine l_skip rfl rfl rfl rfl ?_
          refine q_skip rfl rfl rfl rfl ?_
          refine q_pick_f rfl rfl rfl rfl rfl ?_
          refine q_pick_f rfl rfl rfl rfl rfl ?_
          refine r_done ?_
          refine s_keep [2, 5, 7, 16, 126, 127, 128, 131, 132, 133, 139, 140, 141, 142, 143, 144, 147, 148, 149, 150, 151, 152, 153, 154, 155, 156, 157, 158, 159, 160, 161, 162, 163, 164, 165] (e' := [(2, _), (5, _), (7, _), (16, _), (126, _), (127, _), (128, _), (131, _), (132, _), (133, _), (139, _), (140, _), (141, _), (142, _), (143, _), (144, _), (147, _), (148, _), (149, _), (150, _), (151, _), (152, _), (153, _), (154, _), (155, _), (156, _), (157, _), (158, _), (159, _), (160, _), (161, _), (162, _), (163, _), (164, _), (165, _)]) rfl ?_
          refine k_then_n ?_
          refine c_cond_f rfl ?_
          refine c_skip ?_
          refine k_blk_n ?_
          refine k_then_n ?_
          refine c_plain (.q 0 (.q 1 (.q 2 (.done)))) (by kernel_rfl) ?_
          refine q_move rfl rfl rfl rfl ?_
          refine q_int rfl rfl rfl rfl rfl (b_add' _ (by (first | exact fits_i64 (by omega) (by omega) | exact fits_u64 (by omega) (by omega) | exact fits_u32 (by omega) (by omega) | exact fits_u8 (by omega) (by omega)))) ?_
          refine q_assign rfl rfl rfl rfl ?_
          refine r_done ?_
          refine k_then_n ?_
          refine loop_next (x := t) (t + 1) ?_ ?_ ?_ ?_
          · exact by show t + 1 ≤ th.toNat; omega
          · show th.toNat - (t + 1) < th.toNat - t; omega
          · exact ⟨rfl, rfl, rfl, rfl, trivial⟩
          · (try simp only [List.cons_append, List.nil_append]); (repeat ((with_reducible apply Takes.cons); focus (first | (with_reducible (repeat (first | exact Take.here | apply Take.there)); done) | (repeat (first | exact Take.here | apply Take.there))))); (repeat (first | exact Takes.nil | exact Takes.self | refine takes_drop2 ?_))
        · skip
          have hz2 := hsi.2.2.2 h2
          have hz3 : (stF Y ((t : Nat) : Int)).2.1 = 0 := by rw [hz2]
          have hz4 : (stF Y ((t : Nat) : Int)).2.2 = 0 := by rw [hz2]
          refine q_skip rfl rfl rfl rfl ?_
          refine q_skip rfl rfl rfl rfl ?_
          refine q_skip rfl rfl rfl rfl ?_
          refine q_skip rfl rfl rfl rfl ?_
          refine l_skip rfl rfl rfl rfl ?_
          refine q_skip rfl rfl rfl rfl ?_
          refine q_pick_f rfl rfl rfl rfl rfl ?_
          refine q_move rfl rfl rfl rfl ?_
          refine q_field (k := 0) rfl rfl rfl rfl Try.underlying51 rfl Try.sizeOf49 rfl ?_
          refine q_load_c (j := 0) rfl rfl rfl rfl Try.isAgg49 (by with_reducible (repeat (first | exact Take.here | apply Take.there))) (by first | rfl | exact (Nat.add_zero _).symm) (by rfl) ?_
          refine q_int rfl rfl rfl rfl rfl (b_neq _ _ _ _) ?_
          refine q_move rfl rfl rfl rfl ?_
          refine s_bool_p 150 rfl (fun hg => ?_) (fun hg => by exfalso; exact hg h2)
          refine q_field (k := 1) rfl rfl rfl rfl Try.underlying51 rfl Try.sizeOf3 rfl ?_
          refine q_load_c (j := 1) rfl rfl rfl rfl Try.isAgg3 (by with_reducible (repeat (first | exact Take.here | apply Take.there))) (by first | rfl | exact (Nat.add_zero _).symm) (by rfl) ?_
          refine q_int rfl rfl rfl rfl rfl (b_neq _ _ _ _) ?_
          refine q_move rfl rfl rfl rfl ?_
          refine s_bool_p 154 rfl (fun hg => by exfalso; exact hg hz3) (fun hg => ?_)
          refine q_field (k := 2) rfl rfl rfl rfl Try.underlying51 rfl Try.sizeOf3 rfl ?_
          refine q_load_c (j := 2) rfl rfl rfl rfl Try.isAgg3 (by with_reducible (repeat (first | exact Take.here | apply Take.there))) (by first | rfl | exact (Nat.add_zero _).symm) (by rfl) ?_
          refine q_int rfl rfl rfl rfl rfl (b_neq _ _ _ _) ?_
          refine q_pick_f rfl rfl rfl rfl rfl ?_
          refine q_move rfl rfl rfl rfl ?_
          refine s_bool_p 159 rfl (fun hg => by exfalso; exact hg hz4) (fun hg => ?_)
          refine q_move rfl rfl rfl rfl ?_
          refine q_move rfl rfl rfl rfl ?_
          have sp_8 := full_spec b5p b5c b5 Y hYi ((t : Nat) : Int)
          refine l_call rfl rfl rfl rfl rfl rfl Try.call22 (sp_8) (by (repeat ((with_reducible apply Takes.cons); focus (first | (with_reducible (repeat (first | exact Take.here | apply Take.there)); done) | (repeat (first | exact Take.here | apply Take.there))))); exact Takes.nil) ?_
          rintro ⟨⟩ -
          try simp only [List.cons_append, List.nil_append]
          refine ag_nil ?_
          refine q_pick_f rfl rfl rfl rfl rfl ?_
          refine q_pick_t rfl rfl rfl rfl rfl ?_
          refine q_pick_f rfl rfl rfl rfl rfl ?_
          refine r_done ?_
          refine s_keep [2, 5, 7, 16, 126, 127, 128, 131, 132, 133, 139, 140, 141, 142, 143, 144, 147, 148, 149, 150, 151, 152, 153, 154, 155, 156, 157, 158, 159, 160, 161, 162, 163, 164, 165] (e' := [(2, _), (5, _), (7, _), (16, _), (126, _), (127, _), (128, _), (131, _), (132, _), (133, _), (139, _), (140, _), (141, _), (142, _), (143, _), (144, _), (147, _), (148, _), (149, _), (150, _), (151, _), (152, _), (153, _), (154, _), (155, _), (156, _), (157, _), (158, _), (159, _), (160, _), (161, _), (162, _), (163, _), (164, _), (165, _)]) rfl ?_
          refine k_then_n ?_
          refine c_cond_p rfl (fun hg => by exfalso; first | exact hg h2 | exact h2 hg.1) (fun hg => ?_)
          refine c_skip ?_
          refine k_blk_n ?_
          refine k_then_n ?_
          refine c_plain (.q 0 (.q 1 (.q 2 (.done)))) (by kernel_rfl) ?_
          refine q_move rfl rfl rfl rfl ?_
          refine q_int rfl rfl rfl rfl rfl (b_add' _ (by (first | exact fits_i64 (by omega) (by omega) | exact fits_u64 (by omega) (by omega) | exact fits_u32 (by omega) (by omega) | exact fits_u8 (by omega) (by omega)))) ?_
          refine q_assign rfl rfl rfl rfl ?_
          refine r_done ?_
          refine k_then_n ?_
          refine loop_next (x := t) (t + 1) ?_ ?_ ?_ ?_
          · exact by show t + 1 ≤ th.toNat; omega
          · show th.toNat - (t + 1) < th.toNat - t; omega
          · exact ⟨rfl, rfl, rfl, rfl, trivial⟩
          · (try simp only [List.cons_append, List.nil_append]); (repeat ((with_reducible apply Takes.cons); focus (first | (with_reducible (repeat (first | exact Take.here | apply Take.there)); done) | (repeat (first | exact Take.here | apply Take.there))))); (repeat (first | exact Takes.nil | exact Takes.self | refine takes_drop2 ?_))
      · skip
        refine c_exit ?_
        refine k_then_exit ?_
        refine k_then_exit ?_
        refine k_blk_here ?_
        refine k_then_n ?_
        refine c_seq ?_
        refine c_plain ((.l 0 [] (.q 1 (.done)))) (by kernel_rfl) ?_
        refine l_call rfl rfl rfl rfl rfl rfl Try.call16 (known_spec) (by (repeat ((with_reducible apply Takes.cons); focus (first | (with_reducible (repeat (first | exact Take.here | apply Take.there)); done) | (repeat (first | exact Take.here | apply Take.there))))); exact Takes.nil) ?_
        rintro ⟨⟩ -
        try simp only [List.cons_append, List.nil_append]
        refine ag_nil ?_
        refine q_assign rfl rfl rfl rfl ?_
        refine r_done ?_
        refine s_keep [4] (e' := [(4, _)]) rfl ?_
        refine k_then_n ?_
        refine c_ret ?_
        refine ret1 rfl rfl (()) (by first | rfl | (first | rfl | (congr 1; done) | (congr 1 <;> first | rfl | omega | (simp; done) | (simp; omega)))) (by trivial) ?_
        (repeat ((with_reducible apply Takes.cons); focus (first | (with_reducible (repeat (first | exact Take.here | apply Take.there)); done) | (repeat (first | exact Take.here | apply Take.there))))); (repeat (first | exact Takes.nil | exact Takes.self | refine takes_drop2 ?_))

theorem stands_bad (th va vo lk : Int) (pl : List Int) (ao : Option Addr) (n c : Nat) (A : HProp) (hr : RdS A ao (pl.flatMap encZ)) (hn : pl.length = n) (hb : n ≤ 4000000) (es : List T3) (eo : Option Addr) (m ec : Nat) (he : RdS A eo (es.flatMap enc3)) (hm : es.length = m) (hmb : m ≤ 4000000) (hok : ¬ OkS th va vo lk pl) : Spec Try.prog 7 [.agg #[.int .i64 th, .int .i64 va, .int .i64 vo, .int .i64 lk, .slice ao n c], .slice eo m ec] [A] (fun (_ : Unit) => .bool true) (fun _ => True) (fun _ => [A]) := by
  refine spec_mk (n := 167) Try.func7 rfl rfl rfl ?_
  intro Γ w0
  simp only [argE, List.cons_append, List.nil_append, Nat.zero_add, Nat.reduceAdd]
  refine c_seq ?_
  refine c_plain ((.l 0 [] (.q 1 (.done)))) (by kernel_rfl) ?_
  refine l_box rfl rfl rfl rfl (us := [_, _, _, _, _]) rfl ?_
  intro b2
  refine ag_nil ?_
  refine q_assign rfl rfl rfl rfl ?_
  refine r_done ?_
  refine k_then_n ?_
  refine c_seq ?_
  refine c_plain (.q 0 ((.l 1 [] (.q 2 (.q 3 (.q 4 (.q 5 (.q 6 (.done))))))))) (by kernel_rfl) ?_
  refine q_loadN_c rfl rfl rfl rfl Try.isAgg25 Try.sizeOf25 (by with_reducible (repeat (first | exact Take.here | apply Take.there))) 0 (us := [_, _, _, _, _]) (by first | rfl | exact (Nat.add_zero _).symm) rfl rfl ?_
  have sp_2 := newbad_spec th va vo lk pl ao n c A (hr) (by first | rfl | assumption | omega | (simp; done) | (simp; omega)) (by omega) hok
  refine l_call rfl rfl rfl rfl rfl rfl Try.call17 (sp_2) (by (repeat ((with_reducible apply Takes.cons); focus (first | (with_reducible (repeat (first | exact Take.here | apply Take.there)); done) | (repeat (first | exact Take.here | apply Take.there))))); exact Takes.nil) ?_
  rintro ⟨⟩ -
  try simp only [List.cons_append, List.nil_append]
  refine ag_nil ?_
  refine q_move rfl rfl rfl rfl ?_
  refine q_extract rfl rfl rfl rfl rfl ?_
  refine q_extract rfl rfl rfl rfl rfl ?_
  refine q_assign rfl rfl rfl rfl ?_
  refine q_assign rfl rfl rfl rfl ?_
  refine r_done ?_
  refine s_keep [1, 2, 5, 6] (e' := [(1, _), (2, _), (5, _), (6, _)]) rfl ?_
  refine k_then_n ?_
  refine c_seq ?_
  refine c_seq ?_
  refine c_plain (.q 0 (.q 1 (.q 2 (.q 3 (.q 4 (.q 5 (.done))))))) (by kernel_rfl) ?_
  refine q_move rfl rfl rfl rfl ?_
  refine q_int rfl rfl rfl rfl rfl (b_neq _ _ _ _) ?_
  refine s_eq 25 rfl (v' := .bool true) (by first | rfl | simp) ?_
  refine q_move rfl rfl rfl rfl ?_
  refine q_skip rfl rfl rfl rfl ?_
  refine q_skip rfl rfl rfl rfl ?_
  refine q_pick_t rfl rfl rfl rfl rfl ?_
  refine r_done ?_
  refine s_keep [1, 2, 5, 6, 29] (e' := [(1, _), (2, _), (5, _), (6, _), (29, _)]) rfl ?_
  refine k_then_n ?_
  refine c_cond_t rfl ?_
  refine c_seq ?_
  refine c_plain (.q 0 (.q 1 (.q 2 (.q 3 (.q 4 (.q 5 (.q 6 (.q 7 ((.l 8 [] (.q 9 (.q 10 (.q 11 (.q 12 ((.l 13 [] (.q 14 (.q 15 (.done))))))))))))))))))) (by kernel_rfl) ?_
  refine q_move rfl rfl rfl rfl ?_
  refine q_eq_nil rfl rfl rfl rfl Try.underlying42 ?_
  refine s_eq 31 rfl (v' := .bool true) rfl ?_
  refine q_move rfl rfl rfl rfl ?_
  refine q_move rfl rfl rfl rfl ?_
  refine q_int rfl rfl rfl rfl rfl (b_eql _ _ _ _) ?_
  refine s_eq 34 rfl (v' := .bool true) (by first | rfl | simp) ?_
  refine q_pick_t rfl rfl rfl rfl rfl ?_
  refine q_move rfl rfl rfl rfl ?_
  refine q_loadN_c rfl rfl rfl rfl Try.isAgg25 Try.sizeOf25 (by with_reducible (repeat (first | exact Take.here | apply Take.there))) 0 (us := [_, _, _, _, _]) (by first | rfl | exact (Nat.add_zero _).symm) rfl rfl ?_
  have sp_3 := shape_spec th va vo lk pl ao n c A (hr) (by first | rfl | assumption | omega | (simp; done) | (simp; omega)) (by omega)
  refine l_call rfl rfl rfl rfl rfl rfl Try.call13 (sp_3) (by (repeat ((with_reducible apply Takes.cons); focus (first | (with_reducible (repeat (first | exact Take.here | apply Take.there)); done) | (repeat (first | exact Take.here | apply Take.there))))); exact Takes.nil) ?_
  rintro ⟨⟩ -
  try simp only [List.cons_append, List.nil_append]
  refine ag_nil ?_
  refine s_eq 38 rfl (v' := .int .i64 5) (by rw [if_neg hok]) ?_
  refine q_move rfl rfl rfl rfl ?_
  refine q_int rfl rfl rfl rfl rfl (b_eql _ _ _ _) ?_
  refine s_eq 40 rfl (v' := .bool true) (by first | rfl | simp) ?_
  refine q_pick_t rfl rfl rfl rfl rfl ?_
  refine q_move rfl rfl rfl rfl ?_
  refine l_call rfl rfl rfl rfl rfl rfl Try.call16 (known_spec) (by (repeat ((with_reducible apply Takes.cons); focus (first | (with_reducible (repeat (first | exact Take.here | apply Take.there)); done) | (repeat (first | exact Take.here | apply Take.there))))); exact Takes.nil) ?_
  rintro ⟨⟩ -
  try simp only [List.cons_append, List.nil_append]
  refine ag_nil ?_
  refine q_pick_t rfl rfl rfl rfl rfl ?_
  refine q_assign rfl rfl rfl rfl ?_
  refine r_done ?_
  refine s_keep [4] (e' := [(4, _)]) rfl ?_
  refine k_then_n ?_
  refine c_ret ?_
  refine k_then_ret ?_
  refine ret1 rfl rfl (()) (by first | rfl | (first | rfl | (congr 1; done) | (congr 1 <;> first | rfl | omega | (simp; done) | (simp; omega)))) (by trivial) ?_
  (repeat ((with_reducible apply Takes.cons); focus (first | (with_reducible (repeat (first | exact Take.here | apply Take.there)); done) | (repeat (first | exact Take.here | apply Take.there))))); (repeat (first | exact Takes.nil | exact Takes.self | refine takes_drop2 ?_))

theorem stands_spec (th va vo lk : Int) (pl : List Int) (ao : Option Addr) (n c : Nat) (A : HProp) (hr : RdS A ao (pl.flatMap encZ)) (hn : pl.length = n) (hb : n ≤ 4000000) (es : List T3) (eo : Option Addr) (m ec : Nat) (he : RdS A eo (es.flatMap enc3)) (hm : es.length = m) (hmb : m ≤ 4000000) : Spec Try.prog 7 [.agg #[.int .i64 th, .int .i64 va, .int .i64 vo, .int .i64 lk, .slice ao n c], .slice eo m ec] [A] (fun (_ : Unit) => .bool true) (fun _ => True) (fun _ => [A]) := by
  by_cases hok : OkS th va vo lk pl
  · exact stands_ok th va vo lk pl ao n c A hr hn hb es eo m ec he hm hmb hok
  · exact stands_bad th va vo lk pl ao n c A hr hn hb es eo m ec he hm hmb hok
end Go.Ab.Fe
