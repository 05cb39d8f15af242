/- Package sched: the chooser. -/
import Derived.Test.YtmaonhoplaebhaaSc2
import Derived.Test.YtmaonhoplaebhaaHpID
set_option linter.unusedVariables false
set_option linter.unusedSimpArgs false
set_option maxRecDepth 100000
namespace Go.Ab.Sc
open Go Go.Proofs Go.Ab
/-- A chooser: the depth, the ranks, the changes, how many choices. -/
structure Chs where
  d : Int
  rk : List Int
  chs : List Int
  m : Int
/-- A chooser at b. -/
def ch (b : Nat) (x : Chs) : HProp := fun h => ∃ ar cr ac cc, Sat [cells b 0 [.int .i64 x.d, .slice ar x.rk.length cr, .slice ac x.chs.length cc, .int .i64 x.m], own 1 encZ ar cr x.rk, own 1 encZ ac cc x.chs] h
section
variable {w0 : World} {ds : List Deferred} {n : Nat} {e : Env} {Γ : List HProp} {X : Act → World → Prop}
theorem ch_open {b : Nat} {x : Chs} (k : ∀ ar cr ac cc, Le (St w0 ds n e (cells b 0 [.int .i64 x.d, .slice ar x.rk.length cr, .slice ac x.chs.length cc, .int .i64 x.m] :: own 1 encZ ar cr x.rk :: own 1 encZ ac cc x.chs :: Γ)) X) : Le (St w0 ds n e (ch b x :: Γ)) X := fun a w s => by
  obtain ⟨h1, l1, ⟨ar, cr, ac, cc, a1⟩, s1⟩ := s.heap
  exact k ar cr ac cc a w ⟨s.defers, s.size, s.env, Bun.unfold ⟨h1, l1, a1, s1⟩, s.amb⟩
theorem ch_fold {Γ' : List HProp} {b : Nat} {d m : Int} {rk chs : List Int} {ar ac : Option Addr} {cr cc n1 n2 : Nat} (tk : Takes Γ [cells b 0 [.int .i64 d, .slice ar n1 cr, .slice ac n2 cc, .int .i64 m], own 1 encZ ar cr rk, own 1 encZ ac cc chs] Γ') (h1 : n1 = rk.length) (h2 : n2 = chs.length)
    (k : Le (St w0 ds n e (ch b ⟨d, rk, chs, m⟩ :: Γ')) X) : Le (St w0 ds n e Γ) X := s_heap (fun h s => by
  subst h1 h2
  obtain ⟨h1, l1, a1, s1⟩ := Bun.fold (tk h s)
  exact ⟨h1, l1, ⟨ar, cr, ac, cc, a1⟩, s1⟩) k
end
/-- A thread's rank. -/
def rkO (rk : List Int) (t : Int) : Int := rk.getD t.toNat 0
theorem rkO_get {rk : List Int} {i : Nat} {v : Int} (h : rk[i]? = some v) : rkO rk (i : Int) = v := by
  simp [rkO, h]
/-- The order of the threads. -/
def ahd (rk : List Int) (a b : Int) : Bool := decide (rkO rk b < rkO rk a) || (decide (rkO rk a = rkO rk b) && decide (a < b))
theorem ahd_ord (rk : List Int) : OrdB (ahd rk) := by
  constructor
  · intro a b h
    simp [ahd] at h ⊢; omega
  · intro a b c h
    simp [ahd] at h ⊢; omega
abbrev okT (rk : List Int) (t : Int) : Prop := 0 ≤ t ∧ t < (rk.length : Int)
/-- May the thread at i stand there? -/
def okAt (l : List Int) (n : Nat) (i : Nat) : Bool := match l[i]? with
  | none => true
  | some x => decide (0 ≤ x) && decide (x < (n : Int)) && (decide (i = 0) || match l[i - 1]? with | none => true | some y => decide (y < x))
def okL (l : List Int) (n : Nat) : Bool := (List.range l.length).all (okAt l n)
theorem okL_of {l : List Int} {n : Nat} (h : ∀ i, i < l.length → okAt l n i = true) : okL l n = true := List.all_eq_true.2 fun i hi => h i (List.mem_range.1 hi)
theorem okL_not {l : List Int} {n i : Nat} {x : Int} (hx : l[i]? = some x) (h : okAt l n i = false) : okL l n = false := by
  cases e : okL l n with
  | false => rfl
  | true =>
    have := (List.all_eq_true.1 e) i (List.mem_range.2 (List.getElem?_eq_some_iff.1 hx).1)
    rw [h] at this; cases this
theorem okL_at {l : List Int} {n i : Nat} {x : Int} (h : okL l n = true) (hx : l[i]? = some x) : 0 ≤ x ∧ x < (n : Int) ∧ (∀ y, 0 < i → l[i - 1]? = some y → y < x) := by
  have := (List.all_eq_true.1 h) i (List.mem_range.2 (List.getElem?_eq_some_iff.1 hx).1)
  simp only [okAt, hx, Bool.and_eq_true, decide_eq_true_eq, Bool.or_eq_true] at this
  refine ⟨this.1.1, this.1.2, fun y hi hy => ?_⟩
  rcases this.2 with h1 | h1
  · omega
  · rw [hy] at h1; simpa using h1
theorem okL_rise {l : List Int} {n : Nat} (h : okL l n = true) : ∀ (j i : Nat) (x y : Int), i < j → l[i]? = some x → l[j]? = some y → x < y := by
  intro j
  induction j with
  | zero => intro i x y hi; omega
  | succ j ih =>
    intro i x y hi hx hy
    have hj : j < l.length := by have := (List.getElem?_eq_some_iff.1 hy).1; omega
    obtain ⟨z, hz⟩ := get_lt hj
    have h1 := (okL_at h hy).2.2 z (by omega) (by simpa using hz)
    by_cases hij : i = j
    · subst hij; rw [hz] at hx; cases hx; exact h1
    · have := ih i x z (by omega) hx hz; omega
/-- The place of the first of those with the greatest rank, among the first i. -/
def bsN (rk l : List Int) : Nat → Nat
  | 0 => 0
  | i + 1 => if rkO rk (l.getD (bsN rk l i) 0) < rkO rk (l.getD i 0) then i else bsN rk l i
abbrev bst (rk l : List Int) : Nat := bsN rk l l.length
theorem bsN_lt (rk l : List Int) : ∀ i, 0 < i → bsN rk l i < i := by
  intro i
  induction i with
  | zero => intro h; omega
  | succ i ih =>
    intro _
    unfold bsN
    split
    · omega
    · rcases Nat.eq_zero_or_pos i with h | h
      · subst h; simp [bsN]
      · have := ih h; omega
theorem bsN_max (rk l : List Int) : ∀ i j, j < i → rkO rk (l.getD j 0) ≤ rkO rk (l.getD (bsN rk l i) 0) ∧ (j < bsN rk l i → rkO rk (l.getD j 0) < rkO rk (l.getD (bsN rk l i) 0)) := by
  intro i
  induction i with
  | zero => intro j h; omega
  | succ i ih =>
    intro j hj
    unfold bsN
    split
    · rename_i h
      by_cases hji : j = i
      · subst hji; exact ⟨Int.le_refl _, fun h => by omega⟩
      · have := (ih j (by omega)).1
        exact ⟨by omega, fun _ => by omega⟩
    · rename_i h
      by_cases hji : j = i
      · subst hji
        refine ⟨by omega, fun h2 => ?_⟩
        rcases Nat.eq_zero_or_pos j with h3 | h3
        · subst h3; simp [bsN] at h2
        · have := bsN_lt rk l j h3; omega
      · exact ih j (by omega)
/-- The ranks behind the first k changes. -/
def chg (d : Int) (chs : List Int) (m t : Int) (rk : List Int) : Nat → List Int
  | 0 => rk
  | k + 1 => if chs[k]? = some m then (chg d chs m t rk k).set t.toNat (d - (k : Int) - 1) else chg d chs m t rk k
theorem chg_len (d : Int) (chs : List Int) (m t : Int) (rk : List Int) : ∀ k, (chg d chs m t rk k).length = rk.length := by
  intro k
  induction k with
  | zero => rfl
  | succ k ih => unfold chg; split <;> simp [ih]
theorem chg_t {d : Int} {chs : List Int} {m t : Int} {rk : List Int} {k : Nat} {s : Int} (hs : chs[k]? = some s) (h : s = m) : (chg d chs m t rk k).set t.toNat (d - (k : Int) - 1) = chg d chs m t rk (k + 1) := by
  subst h; conv => rhs; unfold chg
  rw [if_pos hs]
theorem chg_f {d : Int} {chs : List Int} {m t : Int} {rk : List Int} {k : Nat} {s : Int} (hs : chs[k]? = some s) (h : ¬ s = m) : chg d chs m t rk k = chg d chs m t rk (k + 1) := by
  conv => rhs; unfold chg
  rw [if_neg (by rw [hs]; intro e; cases e; exact h rfl)]
def goodL (x : Chs) (l : List Int) : Bool := !l.isEmpty && okL l x.rk.length
def chzK (x : Chs) (l : List Int) : Int := if goodL x l then (bst x.rk l : Int) else 0
def chzE (x : Chs) (l : List Int) : Int := if goodL x l then 0 else 2
def chzX (x : Chs) (l : List Int) : Chs := if goodL x l then ⟨x.d, chg x.d x.chs (x.m + 1) (l.getD (bst x.rk l) 0) x.rk x.chs.length, x.chs, x.m + 1⟩ else x
/-- What a chooser is at least. -/
structure COk (x : Chs) : Prop where
  pos : 0 < x.rk.length
  len : x.rk.length ≤ 65535
  d0 : 1 ≤ x.d
  d1 : x.d ≤ 64
  c : (x.chs.length : Int) + 1 = x.d
  m0 : 0 ≤ x.m
theorem pop_best {rk l : List Int} {p : Nat} {t : Int} (hg : okL l rk.length = true) (hp : l[p]? = some t) (h : ∀ y ∈ l, ahd rk y t = false) : p = bst rk l ∧ l.getD (bst rk l) 0 = t := by
  have hpl : p < l.length := (List.getElem?_eq_some_iff.1 hp).1
  have h1 := bsN_max rk l l.length p hpl
  have hb := bsN_lt rk l l.length (by omega)
  obtain ⟨u, hu⟩ := get_lt hb
  have h2 := h u (List.mem_of_getElem? hu)
  have e1 : l.getD p 0 = t := by simp [hp]
  have e2 : l.getD (bst rk l) 0 = u := by
    show l.getD (bsN rk l l.length) 0 = u
    simp [hu]
  have key : p = bst rk l := by
    rw [e1] at h1
    have h1' := h1
    rw [show bsN rk l l.length = bst rk l from rfl, e2] at h1'
    simp [ahd] at h2
    rcases Nat.lt_trichotomy p (bst rk l) with h3 | h3 | h3
    · have := h1'.2 h3; omega
    · exact h3
    · have h4 := okL_rise hg p (bst rk l) u t h3 hu hp
      omega
  refine ⟨key, ?_⟩
  rw [← key, e1]
theorem none_spec (b : Nat) (x : Chs) (hx : COk x) : Spec Try.prog 47 [.pointer (some ⟨b, 0, none⟩)] [ch b x] (fun (_ : Unit) => .bool false) (fun _ => True) (fun _ => [ch b x]) := by
  refine spec_mk (n := 12) Try.func47 rfl rfl rfl ?_
  intro Γ w0
  simp only [argE, List.cons_append, List.nil_append, Nat.zero_add, Nat.reduceAdd]
  refine ch_open fun ar cr ac cc => ?_
  refine s_take (A := own 1 encZ ar cr x.rk) (by with_reducible (repeat (first | exact Take.here | apply Take.there))) ?_
  refine own_fc fun hq1 hq2 hq3 => ?_
  have har : ar.isNone = false := by
    cases ar with
    | none => have := (hq2 rfl).1; have := hx.pos; simp_all
    | some p => rfl
  refine c_seq ?_
  refine c_plain (.q 0 (.done)) (by kernel_rfl) ?_
  refine q_assign rfl rfl rfl rfl ?_
  refine r_done ?_
  refine k_then_n ?_
  refine c_seq ?_
  refine c_plain (.q 0 (.q 1 (.q 2 (.q 3 (.q 4 (.q 5 (.q 6 (.q 7 (.q 8 (.q 9 (.done))))))))))) (by kernel_rfl) ?_
  refine q_move rfl rfl rfl rfl ?_
  refine q_eq_nil rfl rfl rfl rfl Try.underlying50 ?_
  refine s_eq 4 rfl (v' := .bool false) rfl ?_
  refine q_move rfl rfl rfl rfl ?_
  refine q_move rfl rfl rfl rfl ?_
  refine q_nil_p rfl rfl rfl rfl ?_
  refine q_field (k := 1) rfl rfl rfl rfl Try.underlying77 rfl Try.sizeOf53 rfl ?_
  refine q_load_c (j := 1) rfl rfl rfl rfl Try.isAgg53 (by with_reducible (repeat (first | exact Take.here | apply Take.there))) (by first | rfl | exact (Nat.add_zero _).symm) (by rfl) ?_
  refine q_eq_nils rfl rfl rfl rfl Try.underlying53 ?_
  refine s_eq 10 rfl (v' := .bool false) (by rw [har]) ?_
  refine q_pick_f rfl rfl rfl rfl rfl ?_
  refine q_assign rfl rfl rfl rfl ?_
  refine r_done ?_
  refine s_keep [2] (e' := [(2, _)]) rfl ?_
  refine k_then_n ?_
  refine c_ret ?_
  refine ch_fold (b := b) (d := x.d) (rk := x.rk) (chs := x.chs) (m := x.m) (by (repeat ((with_reducible apply Takes.cons); focus (first | (with_reducible (repeat (first | exact Take.here | apply Take.there)); done) | (repeat (first | exact Take.here | apply Take.there))))); exact Takes.nil) (by rfl) (by rfl) ?_
  refine ret1 rfl rfl (()) (by first | rfl | (first | rfl | (congr 1; done) | (congr 1 <;> first | rfl | omega | (simp; done) | (simp; omega)))) (by trivial) ?_
  (repeat ((with_reducible apply Takes.cons); focus (first | (with_reducible (repeat (first | exact Take.here | apply Take.there)); done) | (repeat (first | exact Take.here | apply Take.there))))); (repeat (first | exact Takes.nil | exact Takes.self | refine takes_drop2 ?_))

theorem none0_spec : Spec Try.prog 47 [.pointer none] [] (fun (_ : Unit) => .bool true) (fun _ => True) (fun _ => []) := by
  refine spec_mk (n := 12) Try.func47 rfl rfl rfl ?_
  intro Γ w0
  simp only [argE, List.cons_append, List.nil_append, Nat.zero_add, Nat.reduceAdd]
  refine c_seq ?_
  refine c_plain (.q 0 (.done)) (by kernel_rfl) ?_
  refine q_assign rfl rfl rfl rfl ?_
  refine r_done ?_
  refine k_then_n ?_
  refine c_seq ?_
  refine c_plain (.q 0 (.q 1 (.q 2 (.q 3 (.q 4 (.q 5 (.q 6 (.q 7 (.q 8 (.q 9 (.done))))))))))) (by kernel_rfl) ?_
  refine q_move rfl rfl rfl rfl ?_
  refine q_eq_nil rfl rfl rfl rfl Try.underlying50 ?_
  refine s_eq 4 rfl (v' := .bool true) rfl ?_
  refine q_move rfl rfl rfl rfl ?_
  refine q_skip rfl rfl rfl rfl ?_
  refine q_skip rfl rfl rfl rfl ?_
  refine q_skip rfl rfl rfl rfl ?_
  refine q_skip rfl rfl rfl rfl ?_
  refine q_skip rfl rfl rfl rfl ?_
  refine q_pick_t rfl rfl rfl rfl rfl ?_
  refine q_assign rfl rfl rfl rfl ?_
  refine r_done ?_
  refine s_keep [2] (e' := [(2, _)]) rfl ?_
  refine k_then_n ?_
  refine c_ret ?_
  refine ret1 rfl rfl (()) (by first | rfl | (first | rfl | (congr 1; done) | (congr 1 <;> first | rfl | omega | (simp; done) | (simp; omega)))) (by trivial) ?_
  (repeat ((with_reducible apply Takes.cons); focus (first | (with_reducible (repeat (first | exact Take.here | apply Take.there)); done) | (repeat (first | exact Take.here | apply Take.there))))); (repeat (first | exact Takes.nil | exact Takes.self | refine takes_drop2 ?_))

theorem made_spec (b : Nat) (x : Chs) (hx : COk x) : Spec Try.prog 28 [.pointer (some ⟨b, 0, none⟩)] [ch b x] (fun (_ : Unit) => .int .i64 x.m) (fun _ => True) (fun _ => [ch b x]) := by
  refine spec_mk (n := 9) Try.func28 rfl rfl rfl ?_
  intro Γ w0
  simp only [argE, List.cons_append, List.nil_append, Nat.zero_add, Nat.reduceAdd]
  refine c_seq ?_
  refine c_plain (.q 0 (.done)) (by kernel_rfl) ?_
  refine q_assign rfl rfl rfl rfl ?_
  refine r_done ?_
  refine k_then_n ?_
  refine c_seq ?_
  refine c_seq ?_
  refine c_plain (.q 0 ((.l 1 [] (.done)))) (by kernel_rfl) ?_
  refine q_move rfl rfl rfl rfl ?_
  have sp_1 := none_spec b x hx
  refine l_call rfl rfl rfl rfl rfl rfl Try.call47 (sp_1) (by (repeat ((with_reducible apply Takes.cons); focus (first | (with_reducible (repeat (first | exact Take.here | apply Take.there)); done) | (repeat (first | exact Take.here | apply Take.there))))); exact Takes.nil) ?_
  rintro ⟨⟩ -
  try simp only [List.cons_append, List.nil_append]
  refine ag_nil ?_
  refine r_done ?_
  refine k_then_n ?_
  refine c_cond_f rfl ?_
  refine c_skip ?_
  refine k_then_n ?_
  refine c_seq ?_
  refine s_take (A := ch b x) (by with_reducible (repeat (first | exact Take.here | apply Take.there))) ?_
  refine ch_open fun ar cr ac cc => ?_
  refine c_plain (.q 0 (.q 1 (.q 2 (.q 3 (.q 4 (.done)))))) (by kernel_rfl) ?_
  refine q_move rfl rfl rfl rfl ?_
  refine q_nil_p rfl rfl rfl rfl ?_
  refine q_field (k := 3) rfl rfl rfl rfl Try.underlying77 rfl Try.sizeOf3 rfl ?_
  refine q_load_c (j := 3) rfl rfl rfl rfl Try.isAgg3 (by with_reducible (repeat (first | exact Take.here | apply Take.there))) (by first | rfl | exact (Nat.add_zero _).symm) (by rfl) ?_
  refine q_assign rfl rfl rfl rfl ?_
  refine r_done ?_
  refine s_keep [2] (e' := [(2, _)]) rfl ?_
  refine k_then_n ?_
  refine c_ret ?_
  refine ch_fold (b := b) (d := x.d) (rk := x.rk) (chs := x.chs) (m := x.m) (by (repeat ((with_reducible apply Takes.cons); focus (first | (with_reducible (repeat (first | exact Take.here | apply Take.there)); done) | (repeat (first | exact Take.here | apply Take.there))))); exact Takes.nil) (by rfl) (by rfl) ?_
  refine ret1 rfl rfl (()) (by first | rfl | (first | rfl | (congr 1; done) | (congr 1 <;> first | rfl | omega | (simp; done) | (simp; omega)))) (by trivial) ?_
  (repeat ((with_reducible apply Takes.cons); focus (first | (with_reducible (repeat (first | exact Take.here | apply Take.there)); done) | (repeat (first | exact Take.here | apply Take.there))))); (repeat (first | exact Takes.nil | exact Takes.self | refine takes_drop2 ?_))

theorem ahead_spec (b : Nat) (x : Chs) (i j : Nat) (hi : i < x.rk.length) (hj : j < x.rk.length) : Spec Try.prog 50 [.pointer (some ⟨b, 0, none⟩), .int .i64 ((i : Nat) : Int), .int .i64 ((j : Nat) : Int)] [ch b x] (fun (_ : Unit) => .bool (ahd x.rk (i : Int) (j : Int))) (fun _ => True) (fun _ => [ch b x]) := by
  refine spec_mk (n := 44) Try.func50 rfl rfl rfl ?_
  intro Γ w0
  simp only [argE, List.cons_append, List.nil_append, Nat.zero_add, Nat.reduceAdd]
  refine ch_open fun ar cr ac cc => ?_
  refine c_seq ?_
  refine c_plain (.q 0 (.done)) (by kernel_rfl) ?_
  refine q_assign rfl rfl rfl rfl ?_
  refine r_done ?_
  refine k_then_n ?_
  refine c_seq ?_
  refine c_draw rfl (.q 0 (.q 1 (.q 2 (.q 3 (.q 4 (.q 5 (.q 6 (.q 7 (.q 8 (.q 9 (.q 10 (.q 11 (.q 12 (.q 13 (.q 14 (.q 15 (.q 16 (.q 17 (.q 18 (.q 19 (.q 20 (.q 21 (.q 22 (.q 23 (.q 24 (.q 25 (.q 26 (.q 27 (.q 28 (.q 29 (.q 30 (.q 31 (.q 32 (.q 33 (.q 34 (.q 35 (.q 36 (.q 37 (.done))))))))))))))))))))))))))))))))))))))) (by kernel_rfl) ?_
  refine q_move rfl rfl rfl rfl ?_
  refine q_nil_p rfl rfl rfl rfl ?_
  refine q_field (k := 1) rfl rfl rfl rfl Try.underlying77 rfl Try.sizeOf53 rfl ?_
  refine q_load_c (j := 1) rfl rfl rfl rfl Try.isAgg53 (by with_reducible (repeat (first | exact Take.here | apply Take.there))) (by first | rfl | exact (Nat.add_zero _).symm) (by rfl) ?_
  refine q_move rfl rfl rfl rfl ?_
  obtain ⟨u, hu⟩ := get_lt (l := x.rk) (i := i) (by omega)
  refine q_idxO (sz := 0) (k := i) (enc := encZ) (xs := x.rk) rfl rfl rfl rfl rfl Try.underlying53 Try.sizeOf3 hu (by first | rfl | omega) (by omega) (by with_reducible (repeat (first | exact Take.here | apply Take.there))) ?_
  intro ib12 io12 ha12 hl12 hc12
  refine q_load_O (j := 0) (k' := i) (enc := encZ) (off := io12) rfl rfl rfl rfl Try.isAgg3 ha12 encZ_len hu (by with_reducible (repeat (first | exact Take.here | apply Take.there))) (by first | rfl | exact (Nat.add_zero _).symm | omega) (by rfl) ?_
  refine q_move rfl rfl rfl rfl ?_
  refine q_nil_p rfl rfl rfl rfl ?_
  refine q_field (k := 1) rfl rfl rfl rfl Try.underlying77 rfl Try.sizeOf53 rfl ?_
  refine q_load_c (j := 1) rfl rfl rfl rfl Try.isAgg53 (by with_reducible (repeat (first | exact Take.here | apply Take.there))) (by first | rfl | exact (Nat.add_zero _).symm) (by rfl) ?_
  refine q_move rfl rfl rfl rfl ?_
  obtain ⟨v, hv⟩ := get_lt (l := x.rk) (i := j) (by omega)
  refine q_idxO (sz := 0) (k := j) (enc := encZ) (xs := x.rk) rfl rfl rfl rfl rfl Try.underlying53 Try.sizeOf3 hv (by first | rfl | omega) (by omega) (by with_reducible (repeat (first | exact Take.here | apply Take.there))) ?_
  intro ib19 io19 ha19 hl19 hc19
  refine q_load_O (j := 0) (k' := j) (enc := encZ) (off := io19) rfl rfl rfl rfl Try.isAgg3 ha19 encZ_len hv (by with_reducible (repeat (first | exact Take.here | apply Take.there))) (by first | rfl | exact (Nat.add_zero _).symm | omega) (by rfl) ?_
  refine q_int rfl rfl rfl rfl rfl (b_gtr _ _ _ _) ?_
  refine q_move rfl rfl rfl rfl ?_
  refine s_bool_p 22 rfl (fun hg => ?_) (fun hg => ?_)
  · skip
    refine q_skip rfl rfl rfl rfl ?_
    refine q_skip rfl rfl rfl rfl ?_
    refine q_skip rfl rfl rfl rfl ?_
    refine q_skip rfl rfl rfl rfl ?_
    refine q_skip rfl rfl rfl rfl ?_
    refine q_skip rfl rfl rfl rfl ?_
    refine q_skip rfl rfl rfl rfl ?_
    refine q_skip rfl rfl rfl rfl ?_
    refine q_skip rfl rfl rfl rfl ?_
    refine q_skip rfl rfl rfl rfl ?_
    refine q_skip rfl rfl rfl rfl ?_
    refine q_skip rfl rfl rfl rfl ?_
    refine q_skip rfl rfl rfl rfl ?_
    refine q_skip rfl rfl rfl rfl ?_
    refine q_skip rfl rfl rfl rfl ?_
    refine q_skip rfl rfl rfl rfl ?_
    refine q_skip rfl rfl rfl rfl ?_
    refine q_skip rfl rfl rfl rfl ?_
    refine q_skip rfl rfl rfl rfl ?_
    refine q_skip rfl rfl rfl rfl ?_
    refine q_pick_t rfl rfl rfl rfl rfl ?_
    refine q_assign rfl rfl rfl rfl ?_
    refine r_done ?_
    refine s_keep [6] (e' := [(6, _)]) rfl ?_
    refine k_then_n ?_
    refine c_ret ?_
    refine ch_fold (b := b) (d := x.d) (rk := x.rk) (chs := x.chs) (m := x.m) (by (repeat ((with_reducible apply Takes.cons); focus (first | (with_reducible (repeat (first | exact Take.here | apply Take.there)); done) | (repeat (first | exact Take.here | apply Take.there))))); exact Takes.nil) (by rfl) (by rfl) ?_
    refine ret1 rfl rfl (()) (by first | (rw [ahd, rkO_get hu, rkO_get hv]; simp_all; done) | (rw [ahd, rkO_get hu, rkO_get hv]; simp_all; omega)) (by trivial) ?_
    (repeat ((with_reducible apply Takes.cons); focus (first | (with_reducible (repeat (first | exact Take.here | apply Take.there)); done) | (repeat (first | exact Take.here | apply Take.there))))); (repeat (first | exact Takes.nil | exact Takes.self | refine takes_drop2 ?_))
  · skip
    refine q_move rfl rfl rfl rfl ?_
    refine q_nil_p rfl rfl rfl rfl ?_
    refine q_field (k := 1) rfl rfl rfl rfl Try.underlying77 rfl Try.sizeOf53 rfl ?_
    refine q_load_c (j := 1) rfl rfl rfl rfl Try.isAgg53 (by with_reducible (repeat (first | exact Take.here | apply Take.there))) (by first | rfl | exact (Nat.add_zero _).symm) (by rfl) ?_
    refine q_move rfl rfl rfl rfl ?_
    refine q_idxO (sz := 0) (k := i) (enc := encZ) (xs := x.rk) rfl rfl rfl rfl rfl Try.underlying53 Try.sizeOf3 hu (by first | rfl | omega) (by omega) (by with_reducible (repeat (first | exact Take.here | apply Take.there))) ?_
    intro ib28 io28 ha28 hl28 hc28
    refine q_load_O (j := 0) (k' := i) (enc := encZ) (off := io28) rfl rfl rfl rfl Try.isAgg3 ha28 encZ_len hu (by with_reducible (repeat (first | exact Take.here | apply Take.there))) (by first | rfl | exact (Nat.add_zero _).symm | omega) (by rfl) ?_
    refine q_move rfl rfl rfl rfl ?_
    refine q_nil_p rfl rfl rfl rfl ?_
    refine q_field (k := 1) rfl rfl rfl rfl Try.underlying77 rfl Try.sizeOf53 rfl ?_
    refine q_load_c (j := 1) rfl rfl rfl rfl Try.isAgg53 (by with_reducible (repeat (first | exact Take.here | apply Take.there))) (by first | rfl | exact (Nat.add_zero _).symm) (by rfl) ?_
    refine q_move rfl rfl rfl rfl ?_
    refine q_idxO (sz := 0) (k := j) (enc := encZ) (xs := x.rk) rfl rfl rfl rfl rfl Try.underlying53 Try.sizeOf3 hv (by first | rfl | omega) (by omega) (by with_reducible (repeat (first | exact Take.here | apply Take.there))) ?_
    intro ib35 io35 ha35 hl35 hc35
    refine q_load_O (j := 0) (k' := j) (enc := encZ) (off := io35) rfl rfl rfl rfl Try.isAgg3 ha35 encZ_len hv (by with_reducible (repeat (first | exact Take.here | apply Take.there))) (by first | rfl | exact (Nat.add_zero _).symm | omega) (by rfl) ?_
    refine q_int rfl rfl rfl rfl rfl (b_eql _ _ _ _) ?_
    refine q_move rfl rfl rfl rfl ?_
    refine s_bool_p 38 rfl (fun hg2 => ?_) (fun hg2 => ?_)
    · skip
      refine q_move rfl rfl rfl rfl ?_
      refine q_move rfl rfl rfl rfl ?_
      refine q_int rfl rfl rfl rfl rfl (b_lss _ _ _ _) ?_
      refine q_pick_t rfl rfl rfl rfl rfl ?_
      refine q_pick_f rfl rfl rfl rfl rfl ?_
      refine q_assign rfl rfl rfl rfl ?_
      refine r_done ?_
      refine s_keep [6] (e' := [(6, _)]) rfl ?_
      refine k_then_n ?_
      refine c_ret ?_
      refine ch_fold (b := b) (d := x.d) (rk := x.rk) (chs := x.chs) (m := x.m) (by (repeat ((with_reducible apply Takes.cons); focus (first | (with_reducible (repeat (first | exact Take.here | apply Take.there)); done) | (repeat (first | exact Take.here | apply Take.there))))); exact Takes.nil) (by rfl) (by rfl) ?_
      refine ret1 rfl rfl (()) (by first | (rw [ahd, rkO_get hu, rkO_get hv]; simp_all; done) | (rw [ahd, rkO_get hu, rkO_get hv]; simp_all; omega)) (by trivial) ?_
      (repeat ((with_reducible apply Takes.cons); focus (first | (with_reducible (repeat (first | exact Take.here | apply Take.there)); done) | (repeat (first | exact Take.here | apply Take.there))))); (repeat (first | exact Takes.nil | exact Takes.self | refine takes_drop2 ?_))
    · skip
      refine q_skip rfl rfl rfl rfl ?_
      refine q_skip rfl rfl rfl rfl ?_
      refine q_skip rfl rfl rfl rfl ?_
      refine q_pick_f rfl rfl rfl rfl rfl ?_
      refine q_pick_f rfl rfl rfl rfl rfl ?_
      refine q_assign rfl rfl rfl rfl ?_
      refine r_done ?_
      refine s_keep [6] (e' := [(6, _)]) rfl ?_
      refine k_then_n ?_
      refine c_ret ?_
      refine ch_fold (b := b) (d := x.d) (rk := x.rk) (chs := x.chs) (m := x.m) (by (repeat ((with_reducible apply Takes.cons); focus (first | (with_reducible (repeat (first | exact Take.here | apply Take.there)); done) | (repeat (first | exact Take.here | apply Take.there))))); exact Takes.nil) (by rfl) (by rfl) ?_
      refine ret1 rfl rfl (()) (by first | (rw [ahd, rkO_get hu, rkO_get hv]; simp_all; done) | (rw [ahd, rkO_get hu, rkO_get hv]; simp_all; omega)) (by trivial) ?_
      (repeat ((with_reducible apply Takes.cons); focus (first | (with_reducible (repeat (first | exact Take.here | apply Take.there)); done) | (repeat (first | exact Take.here | apply Take.there))))); (repeat (first | exact Takes.nil | exact Takes.self | refine takes_drop2 ?_))

theorem less_ok (b : Nat) (x : Chs) : HpI.LessOk (ahd x.rk) 50 [.pointer (some ⟨b, 0, none⟩)] [] (okT x.rk) (ch b x) where
  spec := fun p q hp hq => by
    obtain ⟨hp0, hp1⟩ := hp
    obtain ⟨hq0, hq1⟩ := hq
    obtain ⟨i, rfl⟩ := Int.eq_ofNat_of_zero_le hp0
    obtain ⟨j, rfl⟩ := Int.eq_ofNat_of_zero_le hq0
    exact ahead_spec b x i j (Int.ofNat_lt.1 hp1) (Int.ofNat_lt.1 hq1)
  call := Try.call50
  ord := ahd_ord x.rk

theorem changes_spec (b : Nat) (x : Chs) (hx : COk x) : Spec Try.prog 23 [.pointer (some ⟨b, 0, none⟩)] [ch b x] (fun (r : Option Addr × Nat) => .slice r.1 x.chs.length r.2) (fun r => True) (fun r => [ch b x, own 1 encZ r.1 r.2 x.chs]) := by
  refine spec_mk (n := 10) Try.func23 rfl rfl rfl ?_
  intro Γ w0
  simp only [argE, List.cons_append, List.nil_append, Nat.zero_add, Nat.reduceAdd]
  have h1 := hx.c
  have h2 := hx.d1
  refine c_seq ?_
  refine c_plain (.q 0 (.done)) (by kernel_rfl) ?_
  refine q_assign rfl rfl rfl rfl ?_
  refine r_done ?_
  refine k_then_n ?_
  refine c_seq ?_
  refine c_seq ?_
  refine c_plain (.q 0 ((.l 1 [] (.done)))) (by kernel_rfl) ?_
  refine q_move rfl rfl rfl rfl ?_
  have sp_1 := none_spec b x hx
  refine l_call rfl rfl rfl rfl rfl rfl Try.call47 (sp_1) (by (repeat ((with_reducible apply Takes.cons); focus (first | (with_reducible (repeat (first | exact Take.here | apply Take.there)); done) | (repeat (first | exact Take.here | apply Take.there))))); exact Takes.nil) ?_
  rintro ⟨⟩ -
  try simp only [List.cons_append, List.nil_append]
  refine ag_nil ?_
  refine r_done ?_
  refine k_then_n ?_
  refine c_cond_f rfl ?_
  refine c_skip ?_
  refine k_then_n ?_
  refine c_seq ?_
  refine s_take (A := ch b x) (by with_reducible (repeat (first | exact Take.here | apply Take.there))) ?_
  refine ch_open fun ar cr ac cc => ?_
  refine c_plain (.q 0 (.q 1 (.q 2 (.q 3 ((.l 4 [] (.q 5 (.done)))))))) (by kernel_rfl) ?_
  refine q_move rfl rfl rfl rfl ?_
  refine q_nil_p rfl rfl rfl rfl ?_
  refine q_field (k := 2) rfl rfl rfl rfl Try.underlying77 rfl Try.sizeOf53 rfl ?_
  refine q_load_c (j := 2) rfl rfl rfl rfl Try.isAgg53 (by with_reducible (repeat (first | exact Take.here | apply Take.there))) (by first | rfl | exact (Nat.add_zero _).symm) (by rfl) ?_
  refine s_take (A := own 1 encZ ac cc x.chs) (by with_reducible (repeat (first | exact Take.here | apply Take.there))) ?_
  refine own_fc fun f_2a f_2b f_2c => ?_
  have sp_3 := clonez_spec x.chs ac x.chs.length cc (own 1 encZ ac cc x.chs) (by first | rfl | assumption | omega | (simp; done) | (simp; omega)) (rds_own encZ_len (fun h => (f_2b h).1) f_2c) (by omega)
  refine l_call rfl rfl rfl rfl rfl rfl Try.call48 (sp_3) (by (repeat ((with_reducible apply Takes.cons); focus (first | (with_reducible (repeat (first | exact Take.here | apply Take.there)); done) | (repeat (first | exact Take.here | apply Take.there))))); exact Takes.nil) ?_
  rintro ⟨qa, qc⟩ -
  try simp only [List.cons_append, List.nil_append]
  refine ag_nil ?_
  refine q_assign rfl rfl rfl rfl ?_
  refine r_done ?_
  refine s_keep [2] (e' := [(2, _)]) rfl ?_
  refine k_then_n ?_
  refine c_ret ?_
  refine ch_fold (b := b) (d := x.d) (rk := x.rk) (chs := x.chs) (m := x.m) (by (repeat ((with_reducible apply Takes.cons); focus (first | (with_reducible (repeat (first | exact Take.here | apply Take.there)); done) | (repeat (first | exact Take.here | apply Take.there))))); exact Takes.nil) (by rfl) (by rfl) ?_
  refine ret1 rfl rfl ((qa, qc)) (by first | rfl | (first | rfl | (congr 1; done) | (congr 1 <;> first | rfl | omega | (simp; done) | (simp; omega)))) (by trivial) ?_
  (repeat ((with_reducible apply Takes.cons); focus (first | (with_reducible (repeat (first | exact Take.here | apply Take.there)); done) | (repeat (first | exact Take.here | apply Take.there))))); (repeat (first | exact Takes.nil | exact Takes.self | refine takes_drop2 ?_))

theorem copy_spec (b : Nat) (x : Chs) (hx : COk x) : Spec Try.prog 34 [.pointer (some ⟨b, 0, none⟩)] [ch b x] (fun (q : Nat) => .pointer (some ⟨q, 0, none⟩)) (fun q => True) (fun q => [ch b x, ch q x]) := by
  refine spec_mk (n := 25) Try.func34 rfl rfl rfl ?_
  intro Γ w0
  simp only [argE, List.cons_append, List.nil_append, Nat.zero_add, Nat.reduceAdd]
  have h1 := hx.c
  have h2 := hx.d1
  have h3 := hx.len
  refine c_seq ?_
  refine c_plain (.q 0 (.done)) (by kernel_rfl) ?_
  refine q_assign rfl rfl rfl rfl ?_
  refine r_done ?_
  refine k_then_n ?_
  refine c_seq ?_
  refine c_seq ?_
  refine c_plain (.q 0 ((.l 1 [] (.done)))) (by kernel_rfl) ?_
  refine q_move rfl rfl rfl rfl ?_
  have sp_1 := none_spec b x hx
  refine l_call rfl rfl rfl rfl rfl rfl Try.call47 (sp_1) (by (repeat ((with_reducible apply Takes.cons); focus (first | (with_reducible (repeat (first | exact Take.here | apply Take.there)); done) | (repeat (first | exact Take.here | apply Take.there))))); exact Takes.nil) ?_
  rintro ⟨⟩ -
  try simp only [List.cons_append, List.nil_append]
  refine ag_nil ?_
  refine r_done ?_
  refine k_then_n ?_
  refine c_cond_f rfl ?_
  refine c_skip ?_
  refine k_then_n ?_
  refine c_seq ?_
  refine s_take (A := ch b x) (by with_reducible (repeat (first | exact Take.here | apply Take.there))) ?_
  refine ch_open fun ar cr ac cc => ?_
  refine c_draw rfl (.q 0 (.q 1 (.q 2 (.q 3 (.q 4 (.q 5 (.q 6 (.q 7 (.q 9 (.q 10 (.q 11 (.q 12 (.q 14 (.q 15 (.q 16 (.q 17 ((.l 8 [3, 12, 17] ((.l 13 [3, 17] (.q 18 ((.l 19 [] (.q 20 (.done))))))))))))))))))))))))) (by kernel_rfl) ?_
  refine q_move rfl rfl rfl rfl ?_
  refine q_nil_p rfl rfl rfl rfl ?_
  refine q_field (k := 0) rfl rfl rfl rfl Try.underlying77 rfl Try.sizeOf3 rfl ?_
  refine q_load_c (j := 0) rfl rfl rfl rfl Try.isAgg3 (by with_reducible (repeat (first | exact Take.here | apply Take.there))) (by first | rfl | exact (Nat.add_zero _).symm) (by rfl) ?_
  refine q_move rfl rfl rfl rfl ?_
  refine q_nil_p rfl rfl rfl rfl ?_
  refine q_field (k := 1) rfl rfl rfl rfl Try.underlying77 rfl Try.sizeOf53 rfl ?_
  refine q_load_c (j := 1) rfl rfl rfl rfl Try.isAgg53 (by with_reducible (repeat (first | exact Take.here | apply Take.there))) (by first | rfl | exact (Nat.add_zero _).symm) (by rfl) ?_
  refine q_move rfl rfl rfl rfl ?_
  refine q_nil_p rfl rfl rfl rfl ?_
  refine q_field (k := 2) rfl rfl rfl rfl Try.underlying77 rfl Try.sizeOf53 rfl ?_
  refine q_load_c (j := 2) rfl rfl rfl rfl Try.isAgg53 (by with_reducible (repeat (first | exact Take.here | apply Take.there))) (by first | rfl | exact (Nat.add_zero _).symm) (by rfl) ?_
  refine q_move rfl rfl rfl rfl ?_
  refine q_nil_p rfl rfl rfl rfl ?_
  refine q_field (k := 3) rfl rfl rfl rfl Try.underlying77 rfl Try.sizeOf3 rfl ?_
  refine q_load_c (j := 3) rfl rfl rfl rfl Try.isAgg3 (by with_reducible (repeat (first | exact Take.here | apply Take.there))) (by first | rfl | exact (Nat.add_zero _).symm) (by rfl) ?_
  refine s_take (A := own 1 encZ ar cr x.rk) (by with_reducible (repeat (first | exact Take.here | apply Take.there))) ?_
  refine own_fc fun f_2a f_2b f_2c => ?_
  have sp_3 := clonez_spec x.rk ar x.rk.length cr (own 1 encZ ar cr x.rk) (by first | rfl | assumption | omega | (simp; done) | (simp; omega)) (rds_own encZ_len (fun h => (f_2b h).1) f_2c) (by omega)
  refine l_call rfl rfl rfl rfl rfl rfl Try.call48 (sp_3) (by (repeat ((with_reducible apply Takes.cons); focus (first | (with_reducible (repeat (first | exact Take.here | apply Take.there)); done) | (repeat (first | exact Take.here | apply Take.there))))); exact Takes.nil) ?_
  rintro ⟨pa, pc⟩ -
  try simp only [List.cons_append, List.nil_append]
  refine ag_load_c (q := 0) rfl rfl rfl Try.isAgg3 (by with_reducible (repeat (first | exact Take.here | apply Take.there))) (by first | rfl | exact (Nat.add_zero _).symm) (by rfl) ?_
  refine ag_load_c (q := 2) rfl rfl rfl Try.isAgg53 (by with_reducible (repeat (first | exact Take.here | apply Take.there))) (by first | rfl | exact (Nat.add_zero _).symm) (by rfl) ?_
  refine ag_load_c (q := 3) rfl rfl rfl Try.isAgg3 (by with_reducible (repeat (first | exact Take.here | apply Take.there))) (by first | rfl | exact (Nat.add_zero _).symm) (by rfl) ?_
  refine ag_nil ?_
  refine s_take (A := own 1 encZ ac cc x.chs) (by with_reducible (repeat (first | exact Take.here | apply Take.there))) ?_
  refine own_fc fun f_4a f_4b f_4c => ?_
  have sp_5 := clonez_spec x.chs ac x.chs.length cc (own 1 encZ ac cc x.chs) (by first | rfl | assumption | omega | (simp; done) | (simp; omega)) (rds_own encZ_len (fun h => (f_4b h).1) f_4c) (by omega)
  refine l_call rfl rfl rfl rfl rfl rfl Try.call48 (sp_5) (by (repeat ((with_reducible apply Takes.cons); focus (first | (with_reducible (repeat (first | exact Take.here | apply Take.there)); done) | (repeat (first | exact Take.here | apply Take.there))))); exact Takes.nil) ?_
  rintro ⟨qa, qc⟩ -
  try simp only [List.cons_append, List.nil_append]
  refine ag_load_c (q := 0) rfl rfl rfl Try.isAgg3 (by with_reducible (repeat (first | exact Take.here | apply Take.there))) (by first | rfl | exact (Nat.add_zero _).symm) (by rfl) ?_
  refine ag_load_c (q := 3) rfl rfl rfl Try.isAgg3 (by with_reducible (repeat (first | exact Take.here | apply Take.there))) (by first | rfl | exact (Nat.add_zero _).symm) (by rfl) ?_
  refine ag_nil ?_
  refine q_build rfl rfl rfl rfl (vs := [_, _, _, _]) (run_buildS Try.underlying77 Try.zeroValue77 (ps := [(0, 1), (1, 1), (2, 1), (3, 1)]) ⟨rfl, Try.sizeOf3, rfl, Try.sizeOf53, rfl, Try.sizeOf53, rfl, Try.sizeOf3, trivial⟩ rfl) ?_
  refine l_box rfl rfl rfl rfl (us := [_, _, _, _]) rfl ?_
  intro b24
  refine ag_nil ?_
  refine q_assign rfl rfl rfl rfl ?_
  refine r_done ?_
  refine s_keep [2] (e' := [(2, _)]) rfl ?_
  refine k_then_n ?_
  refine c_ret ?_
  refine ch_fold (b := b) (d := x.d) (rk := x.rk) (chs := x.chs) (m := x.m) (by (repeat ((with_reducible apply Takes.cons); focus (first | (with_reducible (repeat (first | exact Take.here | apply Take.there)); done) | (repeat (first | exact Take.here | apply Take.there))))); exact Takes.nil) (by rfl) (by rfl) ?_
  refine ch_fold (b := b24) (d := x.d) (rk := x.rk) (chs := x.chs) (m := x.m) (by (repeat ((with_reducible apply Takes.cons); focus (first | (with_reducible (repeat (first | exact Take.here | apply Take.there)); done) | (repeat (first | exact Take.here | apply Take.there))))); exact Takes.nil) (by rfl) (by rfl) ?_
  refine ret1 rfl rfl (b24) (by first | rfl | (first | rfl | (congr 1; done) | (congr 1 <;> first | rfl | omega | (simp; done) | (simp; omega)))) (by trivial) ?_
  (repeat ((with_reducible apply Takes.cons); focus (first | (with_reducible (repeat (first | exact Take.here | apply Take.there)); done) | (repeat (first | exact Take.here | apply Take.there))))); (repeat (first | exact Takes.nil | exact Takes.self | refine takes_drop2 ?_))

theorem pop_least {rk l : List Int} {its : List (Int × Nat)} {y : Int × Nat} {k : Nat} (o : OrdB (ahd rk)) (hI : HInv (ahd rk) its k) (hpm : its.Perm ([] ++ l.zipIdx 0)) (hy : its[0]? = some y) : ∀ u ∈ l, ahd rk u y.1 = false := fun u hu => by
  obtain ⟨q, hq⟩ := List.getElem?_of_mem hu
  have hm : (u, q) ∈ its := hpm.mem_iff.2 (by
    rw [List.nil_append, List.mem_zipIdx_iff_getElem?]; simpa using hq)
  have := hinv_least o hI (HpI.head0 hy) _ hm
  simp only [ltI, Bool.or_eq_false_iff] at this
  exact this.1

theorem index_spec (xs : List Int) (t : Int) (ao : Option Addr) (n c : Nat) (A : HProp) (hn : xs.length = n) (hr : RdS A ao (xs.flatMap encZ)) (hb : n ≤ 4000000000000) (hmem : t ∈ xs) : Spec Try.prog 54 [.slice ao n c, .int .i64 t] [A] (fun (p : Nat) => .int .i64 (p : Int)) (fun p => xs[p]? = some t ∧ ∀ j u, j < p → xs[j]? = some u → u ≠ t) (fun p => [A]) := by
  refine spec_mk (n := 19) Try.func54 rfl rfl rfl ?_
  intro Γ w0
  simp only [argE, List.cons_append, List.nil_append, Nat.zero_add, Nat.reduceAdd]
  refine c_seq ?_
  refine c_plain (.q 0 (.done)) (by kernel_rfl) ?_
  refine q_assign rfl rfl rfl rfl ?_
  refine r_done ?_
  refine k_then_n ?_
  refine c_seq ?_
  refine c_seq ?_
  refine c_plain (.q 0 (.q 1 (.q 2 (.done)))) (by kernel_rfl) ?_
  refine q_move rfl rfl rfl rfl ?_
  refine q_len rfl rfl rfl rfl Try.underlying53 ?_
  refine q_move rfl rfl rfl rfl ?_
  refine r_done ?_
  refine k_then_n ?_
  refine c_block ?_
  refine c_loop2 (α := Nat) (fun (i : Nat) => i ≤ n ∧ (∀ j u, j < i → xs[j]? = some u → u ≠ t)) (fun (i : Nat) => [(8, .int .i64 ((i : Nat) : Int))]) (fun (i : Nat) => []) (fun (i : Nat) => n - i) [0, 1, 7] (er := [(0, _), (1, _), (7, _)]) rfl (0) ?_ (by exact ⟨rfl, trivial⟩) (by (try dsimp only); (try simp only [Nat.add_zero, Nat.zero_add]); (repeat ((with_reducible apply Takes.cons); focus (first | (with_reducible (repeat (first | exact Take.here | apply Take.there)); done) | (repeat (first | exact Take.here | apply Take.there))))); exact Takes.nil) ?_
  · exact ⟨Nat.zero_le _, fun j u h => by omega⟩
  rintro i ⟨hle_i, hno⟩
  try simp only [List.cons_append, List.nil_append]
  refine c_seq ?_
  refine c_plain (.q 0 (.done)) (by kernel_rfl) ?_
  refine q_int rfl rfl rfl rfl rfl (b_lss _ _ _ _) ?_
  refine r_done ?_
  refine k_then_n ?_
  refine c_seq ?_
  refine c_cond_p rfl (fun hlt => ?_) (fun hlt => ?_)
  · skip
    refine c_skip ?_
    refine k_then_n ?_
    refine c_seq ?_
    refine c_block ?_
    refine c_seq ?_
    refine c_plain (.q 0 (.q 1 (.done))) (by kernel_rfl) ?_
    refine q_move rfl rfl rfl rfl ?_
    refine q_assign rfl rfl rfl rfl ?_
    refine r_done ?_
    refine k_then_n ?_
    refine c_seq ?_
    refine c_plain (.q 0 (.q 1 (.q 2 (.q 3 (.q 4 (.q 5 (.done))))))) (by kernel_rfl) ?_
    refine q_move rfl rfl rfl rfl ?_
    refine q_move rfl rfl rfl rfl ?_
    refine q_move rfl rfl rfl rfl ?_
    obtain ⟨u, hu⟩ := get_lt (l := xs) (i := i) (by omega)
    refine q_idxR (sz := 0) (k := i) rfl rfl rfl rfl rfl Try.underlying53 Try.sizeOf3 (hr) hu encZ_len (by first | rfl | omega) (by omega) ?_
    intro ib14 io14 _ hd14
    refine q_load rfl rfl rfl rfl Try.isAgg3 (by with_reducible (repeat (first | exact Take.here | apply Take.there))) (hd14 0 _ rfl) ?_
    refine q_int rfl rfl rfl rfl rfl (b_eql _ _ _ _) ?_
    refine r_done ?_
    refine s_keep [0, 1, 5, 7, 8, 16] (e' := [(0, _), (1, _), (5, _), (7, _), (8, _), (16, _)]) rfl ?_
    refine k_then_n ?_
    refine c_cond_p rfl (fun ht => ?_) (fun ht => ?_)
    · skip
      refine c_seq ?_
      refine c_plain (.q 0 (.q 1 (.done))) (by kernel_rfl) ?_
      refine q_move rfl rfl rfl rfl ?_
      refine q_assign rfl rfl rfl rfl ?_
      refine r_done ?_
      refine s_keep [4] (e' := [(4, _)]) rfl ?_
      refine k_then_n ?_
      refine c_ret ?_
      refine k_blk_ret ?_
      refine k_then_ret ?_
      refine k_then_ret ?_
      refine k_blk_ret ?_
      refine k_then_ret ?_
      refine ret1 rfl rfl (i) (by first | rfl | (first | rfl | (congr 1; done) | (congr 1 <;> first | rfl | omega | (simp; done) | (simp; omega)))) (by exact ⟨by rw [hu, ht], fun j u h h2 => hno j u h h2⟩) ?_
      (repeat ((with_reducible apply Takes.cons); focus (first | (with_reducible (repeat (first | exact Take.here | apply Take.there)); done) | (repeat (first | exact Take.here | apply Take.there))))); (repeat (first | exact Takes.nil | exact Takes.self | refine takes_drop2 ?_))
    · skip
      refine c_skip ?_
      refine k_blk_n ?_
      refine k_then_n ?_
      refine c_plain (.q 0 (.q 1 (.done))) (by kernel_rfl) ?_
      refine q_int rfl rfl rfl rfl rfl (b_add' _ (by (first | exact fits_i64 (by omega) (by omega) | exact fits_u64 (by omega) (by omega) | exact fits_u32 (by omega) (by omega) | exact fits_u8 (by omega) (by omega)))) ?_
      refine q_move rfl rfl rfl rfl ?_
      refine r_done ?_
      refine k_then_n ?_
      refine loop_next (x := i) (i + 1) ?_ ?_ ?_ ?_
      · exact ⟨by omega, fun j u h hu2 => by
            by_cases hji : j = i
            · subst hji; rw [hu] at hu2; cases hu2; exact fun e => ht e.symm
            · exact hno j u (by omega) hu2⟩
      · show n - (i + 1) < n - i; omega
      · exact ⟨rfl, rfl, rfl, rfl, trivial⟩
      · (try simp only [List.cons_append, List.nil_append]); (repeat ((with_reducible apply Takes.cons); focus (first | (with_reducible (repeat (first | exact Take.here | apply Take.there)); done) | (repeat (first | exact Take.here | apply Take.there))))); (repeat (first | exact Takes.nil | exact Takes.self | refine takes_drop2 ?_))
  · skip
    refine c_exit ?_
    refine k_then_exit ?_
    refine k_then_exit ?_
    refine k_blk_here ?_
    refine k_then_n ?_
    refine c_seq ?_
    refine c_plain (.q 0 (.done)) (by kernel_rfl) ?_
    refine q_assign rfl rfl rfl rfl ?_
    refine r_done ?_
    refine s_keep [4] (e' := [(4, _)]) rfl ?_
    refine k_then_n ?_
    refine c_ret ?_
    exfalso
    obtain ⟨j, hj⟩ := List.getElem?_of_mem hmem
    exact hno j t (by have := (List.getElem?_eq_some_iff.1 hj).1; omega) hj rfl

theorem choose_spec (b : Nat) (x : Chs) (hx : COk x) (hm : x.m ≤ 4000000000000) (l : List Int) (ao : Option Addr) (n c : Nat) (A : HProp) (hn : l.length = n) (hr : RdS A ao (l.flatMap encZ)) (hb : n ≤ 4000000000) : Spec Try.prog 26 [.pointer (some ⟨b, 0, none⟩), .slice ao n c] [ch b x, A] (fun (_ : Unit) => .tuple #[.int .u32 (chzK x l), .int .i64 (chzE x l)]) (fun _ => True) (fun _ => [ch b (chzX x l), A]) := by
  refine spec_mk (n := 105) Try.func26 rfl rfl rfl ?_
  intro Γ w0
  simp only [argE, List.cons_append, List.nil_append, Nat.zero_add, Nat.reduceAdd]
  have hc1 := hx.c
  have hc2 := hx.d1
  have hc3 := hx.len
  have hc4 := hx.m0
  have hc5 := hx.pos
  refine c_seq ?_
  refine c_plain (.q 0 (.q 1 (.done))) (by kernel_rfl) ?_
  refine q_assign rfl rfl rfl rfl ?_
  refine q_assign rfl rfl rfl rfl ?_
  refine r_done ?_
  refine k_then_n ?_
  refine c_seq ?_
  refine c_seq ?_
  refine c_plain (.q 0 ((.l 1 [] (.done)))) (by kernel_rfl) ?_
  refine q_move rfl rfl rfl rfl ?_
  have sp_1 := none_spec b x hx
  refine l_call rfl rfl rfl rfl rfl rfl Try.call47 (sp_1) (by (repeat ((with_reducible apply Takes.cons); focus (first | (with_reducible (repeat (first | exact Take.here | apply Take.there)); done) | (repeat (first | exact Take.here | apply Take.there))))); exact Takes.nil) ?_
  rintro ⟨⟩ -
  try simp only [List.cons_append, List.nil_append]
  refine ag_nil ?_
  refine r_done ?_
  refine k_then_n ?_
  refine c_cond_f rfl ?_
  refine c_skip ?_
  refine k_then_n ?_
  refine c_seq ?_
  refine c_seq ?_
  refine c_plain (.q 0 (.q 1 (.q 2 (.done)))) (by kernel_rfl) ?_
  refine q_move rfl rfl rfl rfl ?_
  refine q_len rfl rfl rfl rfl Try.underlying53 ?_
  refine q_move rfl rfl rfl rfl ?_
  refine r_done ?_
  refine s_keep [0, 1, 16, 17, 18] (e' := [(0, _), (1, _), (16, _), (17, _), (18, _)]) rfl ?_
  refine k_then_n ?_
  refine c_block ?_
  refine s_take (A := ch b x) (by with_reducible (repeat (first | exact Take.here | apply Take.there))) ?_
  refine ch_open fun ar cr ac cc => ?_
  refine c_loop2 (α := Nat) (fun (i : Nat) => i ≤ n ∧ (∀ j, j < i → okAt l x.rk.length j = true)) (fun (i : Nat) => [(18, .int .i64 ((i : Nat) : Int))]) (fun (i : Nat) => []) (fun (i : Nat) => n - i) [0, 1, 16, 17] (er := [(0, _), (1, _), (16, _), (17, _)]) rfl (0) ?_ (by exact ⟨rfl, trivial⟩) (by (try dsimp only); (try simp only [Nat.add_zero, Nat.zero_add]); (repeat ((with_reducible apply Takes.cons); focus (first | (with_reducible (repeat (first | exact Take.here | apply Take.there)); done) | (repeat (first | exact Take.here | apply Take.there))))); exact Takes.nil) ?_
  · exact ⟨Nat.zero_le _, fun j h => by omega⟩
  rintro i ⟨hle_i, hok⟩
  try simp only [List.cons_append, List.nil_append]
  refine c_seq ?_
  refine c_plain (.q 0 (.done)) (by kernel_rfl) ?_
  refine q_int rfl rfl rfl rfl rfl (b_lss _ _ _ _) ?_
  refine r_done ?_
  refine k_then_n ?_
  refine c_seq ?_
  refine c_cond_p rfl (fun hlt => ?_) (fun hlt => ?_)
  · skip
    refine c_skip ?_
    refine k_then_n ?_
    refine c_seq ?_
    refine c_block ?_
    refine c_seq ?_
    refine c_plain (.q 0 (.q 1 (.q 2 (.q 3 (.q 4 (.done)))))) (by kernel_rfl) ?_
    refine q_move rfl rfl rfl rfl ?_
    obtain ⟨u, hu⟩ := get_lt (l := l) (i := i) (by omega)
    refine q_idxR (sz := 0) (k := i) rfl rfl rfl rfl rfl Try.underlying53 Try.sizeOf3 (hr) hu encZ_len (by first | rfl | omega) (by omega) ?_
    intro ib21 io21 _ hd21
    refine q_load rfl rfl rfl rfl Try.isAgg3 (by with_reducible (repeat (first | exact Take.here | apply Take.there))) (hd21 0 _ rfl) ?_
    refine q_assign rfl rfl rfl rfl ?_
    refine q_assign rfl rfl rfl rfl ?_
    refine r_done ?_
    refine s_keep [0, 1, 6, 7, 16, 17, 18] (e' := [(0, _), (1, _), (6, _), (7, _), (16, _), (17, _), (18, _)]) rfl ?_
    refine k_then_n ?_
    refine c_seq ?_
    refine c_plain (.q 0 (.q 1 (.q 2 (.q 3 (.q 4 (.q 5 (.q 6 (.q 7 (.q 8 (.q 9 (.q 10 (.q 11 (.q 12 (.q 13 (.q 14 (.q 15 (.q 16 (.q 17 (.q 18 (.q 19 (.q 20 (.q 21 (.q 22 (.q 23 (.done))))))))))))))))))))))))) (by kernel_rfl) ?_
    refine q_move rfl rfl rfl rfl ?_
    refine q_int rfl rfl rfl rfl rfl (b_lss _ _ _ _) ?_
    refine q_move rfl rfl rfl rfl ?_
    refine s_bool_p 25 rfl (fun hg => ?_) (fun hg => ?_)
    · skip
      refine q_skip rfl rfl rfl rfl ?_
      refine q_skip rfl rfl rfl rfl ?_
      refine q_skip rfl rfl rfl rfl ?_
      refine q_skip rfl rfl rfl rfl ?_
      refine q_skip rfl rfl rfl rfl ?_
      refine q_skip rfl rfl rfl rfl ?_
      refine q_skip rfl rfl rfl rfl ?_
      refine q_pick_t rfl rfl rfl rfl rfl ?_
      refine q_move rfl rfl rfl rfl ?_
      refine q_skip rfl rfl rfl rfl ?_
      refine q_skip rfl rfl rfl rfl ?_
      refine q_skip rfl rfl rfl rfl ?_
      refine q_skip rfl rfl rfl rfl ?_
      refine q_skip rfl rfl rfl rfl ?_
      refine q_skip rfl rfl rfl rfl ?_
      refine q_skip rfl rfl rfl rfl ?_
      refine q_skip rfl rfl rfl rfl ?_
      refine q_skip rfl rfl rfl rfl ?_
      refine q_skip rfl rfl rfl rfl ?_
      refine q_skip rfl rfl rfl rfl ?_
      refine q_pick_t rfl rfl rfl rfl rfl ?_
      refine r_done ?_
      refine s_keep [0, 1, 16, 17, 18, 26, 27, 28, 29, 30, 31, 32, 35, 36, 37, 38, 39, 40, 41, 42, 43, 44, 45, 46] (e' := [(0, _), (1, _), (16, _), (17, _), (18, _), (26, _), (27, _), (28, _), (29, _), (30, _), (31, _), (32, _), (35, _), (36, _), (37, _), (38, _), (39, _), (40, _), (41, _), (42, _), (43, _), (44, _), (45, _), (46, _)]) rfl ?_
      refine k_then_n ?_
      refine c_cond_t rfl ?_
      refine c_seq ?_
      refine c_plain (.q 0 (.q 1 (.done))) (by kernel_rfl) ?_
      refine q_assign rfl rfl rfl rfl ?_
      refine q_assign rfl rfl rfl rfl ?_
      refine r_done ?_
      refine s_keep [4, 5] (e' := [(4, _), (5, _)]) rfl ?_
      refine k_then_n ?_
      refine c_ret ?_
      refine k_blk_ret ?_
      refine k_then_ret ?_
      refine k_then_ret ?_
      refine k_blk_ret ?_
      refine k_then_ret ?_
      have hng : ¬ goodL x l = true := by
        have hb_ : okL l x.rk.length = false := okL_not hu (by simp only [okAt, hu]; first | (simp_all; done) | (simp_all; omega) | (rw [hv]; simp_all; done) | (rw [hv]; simp_all; omega))
        simp [goodL, hb_]
      refine ch_fold (b := b) (d := x.d) (rk := x.rk) (chs := x.chs) (m := x.m) (by (repeat ((with_reducible apply Takes.cons); focus (first | (with_reducible (repeat (first | exact Take.here | apply Take.there)); done) | (repeat (first | exact Take.here | apply Take.there))))); exact Takes.nil) (by rfl) (by rfl) ?_
      rw [show ch b (Chs.mk x.d x.rk x.chs x.m) = ch b (chzX x l) from by rw [chzX, if_neg hng]]
      refine ret2 rfl rfl rfl (()) (by rw [chzE, chzK, if_neg hng, if_neg hng]) (by trivial) ?_
      (repeat ((with_reducible apply Takes.cons); focus (first | (with_reducible (repeat (first | exact Take.here | apply Take.there)); done) | (repeat (first | exact Take.here | apply Take.there))))); (repeat (first | exact Takes.nil | exact Takes.self | refine takes_drop2 ?_))
    · skip
      refine q_move rfl rfl rfl rfl ?_
      refine q_move rfl rfl rfl rfl ?_
      refine q_nil_p rfl rfl rfl rfl ?_
      refine q_field (k := 1) rfl rfl rfl rfl Try.underlying77 rfl Try.sizeOf53 rfl ?_
      refine q_load_c (j := 1) rfl rfl rfl rfl Try.isAgg53 (by with_reducible (repeat (first | exact Take.here | apply Take.there))) (by first | rfl | exact (Nat.add_zero _).symm) (by rfl) ?_
      refine q_len rfl rfl rfl rfl Try.underlying53 ?_
      refine q_int rfl rfl rfl rfl rfl (b_geq _ _ _ _) ?_
      refine q_pick_f rfl rfl rfl rfl rfl ?_
      refine q_move rfl rfl rfl rfl ?_
      refine s_bool_p 34 rfl (fun hg2 => ?_) (fun hg2 => ?_)
      · skip
        refine q_skip rfl rfl rfl rfl ?_
        refine q_skip rfl rfl rfl rfl ?_
        refine q_skip rfl rfl rfl rfl ?_
        refine q_skip rfl rfl rfl rfl ?_
        refine q_skip rfl rfl rfl rfl ?_
        refine q_skip rfl rfl rfl rfl ?_
        refine q_skip rfl rfl rfl rfl ?_
        refine q_skip rfl rfl rfl rfl ?_
        refine q_skip rfl rfl rfl rfl ?_
        refine q_skip rfl rfl rfl rfl ?_
        refine q_skip rfl rfl rfl rfl ?_
        refine q_pick_t rfl rfl rfl rfl rfl ?_
        refine r_done ?_
        refine s_keep [0, 1, 16, 17, 18, 26, 27, 28, 29, 30, 31, 32, 35, 36, 37, 38, 39, 40, 41, 42, 43, 44, 45, 46] (e' := [(0, _), (1, _), (16, _), (17, _), (18, _), (26, _), (27, _), (28, _), (29, _), (30, _), (31, _), (32, _), (35, _), (36, _), (37, _), (38, _), (39, _), (40, _), (41, _), (42, _), (43, _), (44, _), (45, _), (46, _)]) rfl ?_
        refine k_then_n ?_
        refine c_cond_t rfl ?_
        refine c_seq ?_
        refine c_plain (.q 0 (.q 1 (.done))) (by kernel_rfl) ?_
        refine q_assign rfl rfl rfl rfl ?_
        refine q_assign rfl rfl rfl rfl ?_
        refine r_done ?_
        refine s_keep [4, 5] (e' := [(4, _), (5, _)]) rfl ?_
        refine k_then_n ?_
        refine c_ret ?_
        refine k_blk_ret ?_
        refine k_then_ret ?_
        refine k_then_ret ?_
        refine k_blk_ret ?_
        refine k_then_ret ?_
        have hng : ¬ goodL x l = true := by
          have hb_ : okL l x.rk.length = false := okL_not hu (by simp only [okAt, hu]; first | (simp_all; done) | (simp_all; omega) | (rw [hv]; simp_all; done) | (rw [hv]; simp_all; omega))
          simp [goodL, hb_]
        refine ch_fold (b := b) (d := x.d) (rk := x.rk) (chs := x.chs) (m := x.m) (by (repeat ((with_reducible apply Takes.cons); focus (first | (with_reducible (repeat (first | exact Take.here | apply Take.there)); done) | (repeat (first | exact Take.here | apply Take.there))))); exact Takes.nil) (by rfl) (by rfl) ?_
        rw [show ch b (Chs.mk x.d x.rk x.chs x.m) = ch b (chzX x l) from by rw [chzX, if_neg hng]]
        refine ret2 rfl rfl rfl (()) (by rw [chzE, chzK, if_neg hng, if_neg hng]) (by trivial) ?_
        (repeat ((with_reducible apply Takes.cons); focus (first | (with_reducible (repeat (first | exact Take.here | apply Take.there)); done) | (repeat (first | exact Take.here | apply Take.there))))); (repeat (first | exact Takes.nil | exact Takes.self | refine takes_drop2 ?_))
      · skip
        refine q_move rfl rfl rfl rfl ?_
        refine q_int rfl rfl rfl rfl rfl (b_gtr _ _ _ _) ?_
        refine q_move rfl rfl rfl rfl ?_
        refine s_bool_p 37 rfl (fun hg3 => ?_) (fun hg3 => ?_)
        · skip
          refine q_move rfl rfl rfl rfl ?_
          refine q_move rfl rfl rfl rfl ?_
          refine q_move rfl rfl rfl rfl ?_
          refine q_int rfl rfl rfl rfl rfl (b_sub' _ (by (first | exact fits_i64 (by omega) (by omega) | exact fits_u64 (by omega) (by omega) | exact fits_u32 (by omega) (by omega) | exact fits_u8 (by omega) (by omega)))) ?_
          obtain ⟨v, hv⟩ := get_lt (l := l) (i := i - 1) (by omega)
          refine q_idxR (sz := 0) (k := i - 1) rfl rfl rfl rfl rfl Try.underlying53 Try.sizeOf3 (hr) hv encZ_len (by first | rfl | omega) (by omega) ?_
          intro ib42 io42 _ hd42
          refine q_load rfl rfl rfl rfl Try.isAgg3 (by with_reducible (repeat (first | exact Take.here | apply Take.there))) (hd42 0 _ rfl) ?_
          refine q_int rfl rfl rfl rfl rfl (b_leq _ _ _ _) ?_
          refine q_pick_t rfl rfl rfl rfl rfl ?_
          refine q_pick_f rfl rfl rfl rfl rfl ?_
          refine r_done ?_
          refine s_keep [0, 1, 16, 17, 18, 26, 27, 28, 29, 30, 31, 32, 35, 36, 37, 38, 39, 40, 41, 42, 43, 44, 45, 46] (e' := [(0, _), (1, _), (16, _), (17, _), (18, _), (26, _), (27, _), (28, _), (29, _), (30, _), (31, _), (32, _), (35, _), (36, _), (37, _), (38, _), (39, _), (40, _), (41, _), (42, _), (43, _), (44, _), (45, _), (46, _)]) rfl ?_
          refine k_then_n ?_
          refine c_cond_p rfl (fun hg4 => ?_) (fun hg4 => ?_)
          · skip
            refine c_seq ?_
            refine c_plain (.q 0 (.q 1 (.done))) (by kernel_rfl) ?_
            refine q_assign rfl rfl rfl rfl ?_
            refine q_assign rfl rfl rfl rfl ?_
            refine r_done ?_
            refine s_keep [4, 5] (e' := [(4, _), (5, _)]) rfl ?_
            refine k_then_n ?_
            refine c_ret ?_
            refine k_blk_ret ?_
            refine k_then_ret ?_
            refine k_then_ret ?_
            refine k_blk_ret ?_
            refine k_then_ret ?_
            have hng : ¬ goodL x l = true := by
              have hb_ : okL l x.rk.length = false := okL_not hu (by simp only [okAt, hu]; first | (simp_all; done) | (simp_all; omega) | (rw [hv]; simp_all; done) | (rw [hv]; simp_all; omega))
              simp [goodL, hb_]
            refine ch_fold (b := b) (d := x.d) (rk := x.rk) (chs := x.chs) (m := x.m) (by (repeat ((with_reducible apply Takes.cons); focus (first | (with_reducible (repeat (first | exact Take.here | apply Take.there)); done) | (repeat (first | exact Take.here | apply Take.there))))); exact Takes.nil) (by rfl) (by rfl) ?_
            rw [show ch b (Chs.mk x.d x.rk x.chs x.m) = ch b (chzX x l) from by rw [chzX, if_neg hng]]
            refine ret2 rfl rfl rfl (()) (by rw [chzE, chzK, if_neg hng, if_neg hng]) (by trivial) ?_
            (repeat ((with_reducible apply Takes.cons); focus (first | (with_reducible (repeat (first | exact Take.here | apply Take.there)); done) | (repeat (first | exact Take.here | apply Take.there))))); (repeat (first | exact Takes.nil | exact Takes.self | refine takes_drop2 ?_))
          · skip
            have hoki : okAt l x.rk.length i = true := by
              simp only [okAt, hu]; first | (simp_all; done) | (simp_all; omega) | (rw [hv]; simp_all; done) | (rw [hv]; simp_all; omega)
            refine c_skip ?_
            refine k_blk_n ?_
            refine k_then_n ?_
            refine c_plain (.q 0 (.q 1 (.done))) (by kernel_rfl) ?_
            refine q_int rfl rfl rfl rfl rfl (b_add' _ (by (first | exact fits_i64 (by omega) (by omega) | exact fits_u64 (by omega) (by omega) | exact fits_u32 (by omega) (by omega) | exact fits_u8 (by omega) (by omega)))) ?_
            refine q_move rfl rfl rfl rfl ?_
            refine r_done ?_
            refine k_then_n ?_
            refine loop_next (x := i) (i + 1) ?_ ?_ ?_ ?_
            · exact ⟨by omega, fun j hj => by
                  by_cases hji : j = i
                  · subst hji; exact hoki
                  · exact hok j (by omega)⟩
            · show n - (i + 1) < n - i; omega
            · exact ⟨rfl, rfl, rfl, rfl, rfl, trivial⟩
            · (try simp only [List.cons_append, List.nil_append]); (repeat ((with_reducible apply Takes.cons); focus (first | (with_reducible (repeat (first | exact Take.here | apply Take.there)); done) | (repeat (first | exact Take.here | apply Take.there))))); (repeat (first | exact Takes.nil | exact Takes.self | refine takes_drop2 ?_))
        · skip
          refine q_skip rfl rfl rfl rfl ?_
          refine q_skip rfl rfl rfl rfl ?_
          refine q_skip rfl rfl rfl rfl ?_
          refine q_skip rfl rfl rfl rfl ?_
          refine q_skip rfl rfl rfl rfl ?_
          refine q_skip rfl rfl rfl rfl ?_
          refine q_skip rfl rfl rfl rfl ?_
          refine q_pick_f rfl rfl rfl rfl rfl ?_
          refine q_pick_f rfl rfl rfl rfl rfl ?_
          refine r_done ?_
          refine s_keep [0, 1, 16, 17, 18, 26, 27, 28, 29, 30, 31, 32, 35, 36, 37, 38, 39, 40, 41, 42, 43, 44, 45, 46] (e' := [(0, _), (1, _), (16, _), (17, _), (18, _), (26, _), (27, _), (28, _), (29, _), (30, _), (31, _), (32, _), (35, _), (36, _), (37, _), (38, _), (39, _), (40, _), (41, _), (42, _), (43, _), (44, _), (45, _), (46, _)]) rfl ?_
          refine k_then_n ?_
          refine c_cond_f rfl ?_
          have hoki : okAt l x.rk.length i = true := by
            simp only [okAt, hu]; first | (simp_all; done) | (simp_all; omega) | (rw [hv]; simp_all; done) | (rw [hv]; simp_all; omega)
          refine c_skip ?_
          refine k_blk_n ?_
          refine k_then_n ?_
          refine c_plain (.q 0 (.q 1 (.done))) (by kernel_rfl) ?_
          refine q_int rfl rfl rfl rfl rfl (b_add' _ (by (first | exact fits_i64 (by omega) (by omega) | exact fits_u64 (by omega) (by omega) | exact fits_u32 (by omega) (by omega) | exact fits_u8 (by omega) (by omega)))) ?_
          refine q_move rfl rfl rfl rfl ?_
          refine r_done ?_
          refine k_then_n ?_
          refine loop_next (x := i) (i + 1) ?_ ?_ ?_ ?_
          · exact ⟨by omega, fun j hj => by
                by_cases hji : j = i
                · subst hji; exact hoki
                · exact hok j (by omega)⟩
          · show n - (i + 1) < n - i; omega
          · exact ⟨rfl, rfl, rfl, rfl, rfl, trivial⟩
          · (try simp only [List.cons_append, List.nil_append]); (repeat ((with_reducible apply Takes.cons); focus (first | (with_reducible (repeat (first | exact Take.here | apply Take.there)); done) | (repeat (first | exact Take.here | apply Take.there))))); (repeat (first | exact Takes.nil | exact Takes.self | refine takes_drop2 ?_))
  · skip
    refine c_exit ?_
    refine k_then_exit ?_
    refine k_then_exit ?_
    refine k_blk_here ?_
    refine k_then_n ?_
    refine c_seq ?_
    obtain rfl : i = n := by omega
    have hgl : okL l x.rk.length = true := okL_of fun j hj => hok j (by omega)
    refine ch_fold (b := b) (d := x.d) (rk := x.rk) (chs := x.chs) (m := x.m) (by (repeat ((with_reducible apply Takes.cons); focus (first | (with_reducible (repeat (first | exact Take.here | apply Take.there)); done) | (repeat (first | exact Take.here | apply Take.there))))); exact Takes.nil) (by rfl) (by rfl) ?_
    refine c_plain (.q 0 (.q 1 ((.l 2 [] (.q 3 (.q 4 (.q 5 (.q 6 (.q 7 (.done)))))))))) (by kernel_rfl) ?_
    refine q_move rfl rfl rfl rfl ?_
    refine q_func rfl rfl rfl rfl rfl ?_
    have sp_2 := HpI.new_spec (lk := 50) (fi := [.pointer (some ⟨b, 0, none⟩)]) (ca := [])
    refine l_call rfl rfl rfl rfl rfl rfl Try.call51 (sp_2) (by (repeat ((with_reducible apply Takes.cons); focus (first | (with_reducible (repeat (first | exact Take.here | apply Take.there)); done) | (repeat (first | exact Take.here | apply Take.there))))); exact Takes.nil) ?_
    rintro hb_ -
    try simp only [List.cons_append, List.nil_append]
    refine ag_nil ?_
    refine q_move rfl rfl rfl rfl ?_
    refine q_extract rfl rfl rfl rfl rfl ?_
    refine q_extract rfl rfl rfl rfl rfl ?_
    refine q_assign rfl rfl rfl rfl ?_
    refine q_assign rfl rfl rfl rfl ?_
    refine r_done ?_
    refine s_keep [0, 1, 8] (e' := [(0, _), (1, _), (8, _)]) rfl ?_
    refine k_then_n ?_
    refine c_seq ?_
    refine c_plain (.q 0 (.q 1 ((.l 2 [] (.done))))) (by kernel_rfl) ?_
    refine q_move rfl rfl rfl rfl ?_
    refine q_move rfl rfl rfl rfl ?_
    have sp_3 := HpI.push_spec (less_ok b x) hb_ 0 [] 0 l ao i c A hr hn HpI.hinv0 (by simp; omega) (by omega) (fun _ h => by cases h) (fun v hv => by obtain ⟨q, hq⟩ := List.getElem?_of_mem hv; have := okL_at hgl hq; exact ⟨this.1, this.2.1⟩)
    refine l_call rfl rfl rfl rfl rfl rfl Try.call52 (sp_3) (by (repeat ((with_reducible apply Takes.cons); focus (first | (with_reducible (repeat (first | exact Take.here | apply Take.there)); done) | (repeat (first | exact Take.here | apply Take.there))))); exact Takes.nil) ?_
    rintro its ⟨hI, hpm⟩
    try simp only [List.cons_append, List.nil_append]
    refine ag_nil ?_
    refine r_done ?_
    have hil := hpm.length_eq
    rw [List.length_append, List.length_zipIdx] at hil
    simp only [List.length_nil, Nat.zero_add] at hil
    have hoki : ∀ y ∈ its, okT x.rk y.1 := fun y hy => by
      have h2 := HpI.mem_zip (l := l) (y := y) (by simpa using hpm.mem_iff.1 hy)
      obtain ⟨q, hq⟩ := List.getElem?_of_mem h2
      have := okL_at hgl hq; exact ⟨this.1, this.2.1⟩
    refine k_then_n ?_
    refine c_seq ?_
    refine c_plain (.q 0 ((.l 1 [] (.q 2 (.q 3 (.q 4 (.q 5 (.q 6 (.done))))))))) (by kernel_rfl) ?_
    refine q_move rfl rfl rfl rfl ?_
    refine l_call rfl rfl rfl rfl rfl rfl Try.call53 (HpI.pop_spec (less_ok b x) hb_ 0 its _ hI (by omega) hoki) (by (repeat ((with_reducible apply Takes.cons); focus (first | (with_reducible (repeat (first | exact Take.here | apply Take.there)); done) | (repeat (first | exact Take.here | apply Take.there))))); exact Takes.nil) ?_
    rintro its2 ⟨hI2, hp2, -⟩
    try simp only [List.cons_append, List.nil_append]
    refine ag_nil ?_
    refine q_move rfl rfl rfl rfl ?_
    refine q_extract rfl rfl rfl rfl rfl ?_
    refine q_extract rfl rfl rfl rfl rfl ?_
    refine q_assign rfl rfl rfl rfl ?_
    refine q_assign rfl rfl rfl rfl ?_
    refine r_done ?_
    refine s_keep [0, 1, 10, 11] (e' := [(0, _), (1, _), (10, _), (11, _)]) rfl ?_
    refine k_then_n ?_
    refine c_seq ?_
    refine c_seq ?_
    refine c_plain (.q 0 (.q 1 (.done))) (by kernel_rfl) ?_
    refine q_move rfl rfl rfl rfl ?_
    refine q_not rfl rfl rfl rfl ?_
    refine r_done ?_
    refine k_then_n ?_
    refine c_cond rfl (fun hk => ?_) (fun hk => ?_)
    · skip
      try simp only [Bool.and_eq_true, Bool.or_eq_true, Bool.not_eq_true', Bool.not_eq_false', Bool.and_eq_false_iff, Bool.or_eq_false_iff, decide_eq_true_eq, decide_eq_false_iff_not] at hk
      obtain rfl : its = [] := by
        cases its with
        | nil => rfl
        | cons a q => cases hk
      obtain rfl : l = [] := List.eq_nil_of_length_eq_zero (by simp at hil; omega)
      have hng : ¬ goodL x [] = true := by simp [goodL]
      refine c_seq ?_
      refine c_plain (.q 0 (.q 1 (.done))) (by kernel_rfl) ?_
      refine q_assign rfl rfl rfl rfl ?_
      refine q_assign rfl rfl rfl rfl ?_
      refine r_done ?_
      refine s_keep [4, 5] (e' := [(4, _), (5, _)]) rfl ?_
      refine k_then_n ?_
      refine c_ret ?_
      refine k_then_ret ?_
      rw [show ch b x = ch b (chzX x []) from by rw [chzX, if_neg hng]]
      refine ret2 rfl rfl rfl (()) (by rw [chzE, chzK, if_neg hng, if_neg hng]) (by trivial) ?_
      (repeat ((with_reducible apply Takes.cons); focus (first | (with_reducible (repeat (first | exact Take.here | apply Take.there)); done) | (repeat (first | exact Take.here | apply Take.there))))); (repeat (first | exact Takes.nil | exact Takes.self | refine takes_drop2 ?_))
    · skip
      try simp only [Bool.and_eq_true, Bool.or_eq_true, Bool.not_eq_true', Bool.not_eq_false', Bool.and_eq_false_iff, Bool.or_eq_false_iff, decide_eq_true_eq, decide_eq_false_iff_not] at hk
      obtain ⟨y, hy⟩ : ∃ y, its[0]? = some y := by
        cases its with
        | nil => cases hk
        | cons a q => exact ⟨a, rfl⟩
      refine s_eq 10 rfl (v' := .int .i64 y.1) (by rw [HpI.pk_some hy]; rfl) ?_
      have hym : y.1 ∈ l := HpI.mem_zip (by simpa using hpm.mem_iff.1 (List.mem_of_getElem? hy))
      obtain ⟨p, hp⟩ := List.getElem?_of_mem hym
      have hleast : ∀ u ∈ l, ahd x.rk u y.1 = false := pop_least (ahd_ord x.rk) hI hpm hy
      obtain ⟨hpb, hbt⟩ := pop_best hgl hp hleast
      have hgd : goodL x l = true := by
        cases l with
        | nil => simp at hp
        | cons a q => simpa [goodL] using hgl
      have hyb := okL_at hgl hp
      generalize hty : y.1 = ty at *
      refine s_take (A := ch b x) (by with_reducible (repeat (first | exact Take.here | apply Take.there))) ?_
      refine ch_open fun ar cr ac cc => ?_
      refine c_skip ?_
      refine k_then_n ?_
      refine c_seq ?_
      refine c_plain (.q 0 (.q 1 (.q 2 (.q 3 (.q 4 (.q 5 (.q 6 ((.l 7 [] (.done)))))))))) (by kernel_rfl) ?_
      refine q_move rfl rfl rfl rfl ?_
      refine q_nil_p rfl rfl rfl rfl ?_
      refine q_field (k := 3) rfl rfl rfl rfl Try.underlying77 rfl Try.sizeOf3 rfl ?_
      refine q_load_c (j := 3) rfl rfl rfl rfl Try.isAgg3 (by with_reducible (repeat (first | exact Take.here | apply Take.there))) (by first | rfl | exact (Nat.add_zero _).symm) (by rfl) ?_
      refine q_int rfl rfl rfl rfl rfl (b_add' _ (by (first | exact fits_i64 (by omega) (by omega) | exact fits_u64 (by omega) (by omega) | exact fits_u32 (by omega) (by omega) | exact fits_u8 (by omega) (by omega)))) ?_
      refine q_nil_p rfl rfl rfl rfl ?_
      refine q_field (k := 3) rfl rfl rfl rfl Try.underlying77 rfl Try.sizeOf3 rfl ?_
      refine l_store (j := 3) rfl rfl rfl rfl Try.sizeOf3 (us := [_]) rfl rfl rfl (by with_reducible (repeat (first | exact Take.here | apply Take.there))) (by first | rfl | exact (Nat.add_zero _).symm) (by first | decide | (simp; done) | omega) ?_
      simp only [setL, List.set]
      refine ag_nil ?_
      refine r_done ?_
      refine s_keep [0, 1, 10] (e' := [(0, _), (1, _), (10, _)]) rfl ?_
      refine k_then_n ?_
      refine c_seq ?_
      refine c_seq ?_
      refine c_plain (.q 0 (.q 1 (.q 2 (.q 3 (.q 4 (.q 5 (.done))))))) (by kernel_rfl) ?_
      refine q_move rfl rfl rfl rfl ?_
      refine q_nil_p rfl rfl rfl rfl ?_
      refine q_field (k := 2) rfl rfl rfl rfl Try.underlying77 rfl Try.sizeOf53 rfl ?_
      refine q_load_c (j := 2) rfl rfl rfl rfl Try.isAgg53 (by with_reducible (repeat (first | exact Take.here | apply Take.there))) (by first | rfl | exact (Nat.add_zero _).symm) (by rfl) ?_
      refine q_len rfl rfl rfl rfl Try.underlying53 ?_
      refine q_move rfl rfl rfl rfl ?_
      refine r_done ?_
      refine k_then_n ?_
      refine c_block ?_
      refine c_loop2 (α := Nat × List Int) (fun (x_ : Nat × List Int) => match x_ with | (k, rk) => k ≤ x.chs.length ∧ (rk = chg x.d x.chs (x.m + 1) ty x.rk k)) (fun (x_ : Nat × List Int) => match x_ with | (k, rk) => [(76, .int .i64 ((k : Nat) : Int))]) (fun (x_ : Nat × List Int) => match x_ with | (k, rk) => [cells b 0 [.int .i64 x.d, .slice ar x.rk.length cr, .slice ac x.chs.length cc, .int .i64 (x.m + 1)], own 1 encZ ar cr rk, own 1 encZ ac cc x.chs]) (fun (x_ : Nat × List Int) => match x_ with | (k, rk) => x.chs.length - k) [0, 1, 10, 74, 75] (er := [(0, _), (1, _), (10, _), (74, _), (75, _)]) rfl (0, x.rk) ?_ (by exact ⟨rfl, trivial⟩) (by (try dsimp only); (try simp only [Nat.add_zero, Nat.zero_add]); (repeat ((with_reducible apply Takes.cons); focus (first | (with_reducible (repeat (first | exact Take.here | apply Take.there)); done) | (repeat (first | exact Take.here | apply Take.there))))); exact Takes.nil) ?_
      · exact ⟨Nat.zero_le _, rfl⟩
      rintro ⟨k, rk⟩ ⟨hle_k, hrk⟩
      try simp only [List.cons_append, List.nil_append]
      have hrl := chg_len x.d x.chs (x.m + 1) ty x.rk k
      rw [← hrk] at hrl
      refine c_seq ?_
      refine c_plain (.q 0 (.done)) (by kernel_rfl) ?_
      refine q_int rfl rfl rfl rfl rfl (b_lss _ _ _ _) ?_
      refine r_done ?_
      refine k_then_n ?_
      refine c_seq ?_
      refine c_cond_p rfl (fun hlk => ?_) (fun hlk => ?_)
      · skip
        refine c_skip ?_
        refine k_then_n ?_
        refine c_seq ?_
        refine c_block ?_
        refine c_seq ?_
        refine c_plain (.q 0 (.q 1 (.q 2 (.q 3 (.q 4 (.done)))))) (by kernel_rfl) ?_
        refine q_move rfl rfl rfl rfl ?_
        obtain ⟨sv, hsv⟩ := get_lt (l := x.chs) (i := k) (by omega)
        refine q_idxO (sz := 0) (k := k) (enc := encZ) (xs := x.chs) rfl rfl rfl rfl rfl Try.underlying53 Try.sizeOf3 hsv (by first | rfl | omega) (by omega) (by with_reducible (repeat (first | exact Take.here | apply Take.there))) ?_
        intro ib79 io79 ha79 hl79 hc79
        refine q_load_O (j := 0) (k' := k) (enc := encZ) (off := io79) rfl rfl rfl rfl Try.isAgg3 ha79 encZ_len hsv (by with_reducible (repeat (first | exact Take.here | apply Take.there))) (by first | rfl | exact (Nat.add_zero _).symm | omega) (by rfl) ?_
        refine q_assign rfl rfl rfl rfl ?_
        refine q_assign rfl rfl rfl rfl ?_
        refine r_done ?_
        refine s_keep [0, 1, 10, 12, 13, 74, 75, 76] (e' := [(0, _), (1, _), (10, _), (12, _), (13, _), (74, _), (75, _), (76, _)]) rfl ?_
        refine k_then_n ?_
        refine c_seq ?_
        refine c_plain (.q 0 (.q 1 (.q 2 (.q 3 (.q 4 (.q 5 (.done))))))) (by kernel_rfl) ?_
        refine q_move rfl rfl rfl rfl ?_
        refine q_move rfl rfl rfl rfl ?_
        refine q_nil_p rfl rfl rfl rfl ?_
        refine q_field (k := 3) rfl rfl rfl rfl Try.underlying77 rfl Try.sizeOf3 rfl ?_
        refine q_load_c (j := 3) rfl rfl rfl rfl Try.isAgg3 (by with_reducible (repeat (first | exact Take.here | apply Take.there))) (by first | rfl | exact (Nat.add_zero _).symm) (by rfl) ?_
        refine q_int rfl rfl rfl rfl rfl (b_eql _ _ _ _) ?_
        refine r_done ?_
        refine s_keep [0, 1, 10, 12, 74, 75, 76, 86] (e' := [(0, _), (1, _), (10, _), (12, _), (74, _), (75, _), (76, _), (86, _)]) rfl ?_
        refine k_then_n ?_
        refine c_cond_p rfl (fun hs => ?_) (fun hs => ?_)
        · skip
          obtain ⟨w_, hw_⟩ := get_lt (l := rk) (i := ty.toNat) (by omega)
          refine c_draw rfl (.q 0 (.q 1 (.q 2 (.q 3 (.q 4 (.q 5 (.q 6 (.q 7 (.q 8 (.q 9 (.q 10 (.q 11 (.q 12 ((.l 13 [] (.done)))))))))))))))) (by kernel_rfl) ?_
          refine q_move rfl rfl rfl rfl ?_
          refine q_nil_p rfl rfl rfl rfl ?_
          refine q_field (k := 1) rfl rfl rfl rfl Try.underlying77 rfl Try.sizeOf53 rfl ?_
          refine q_load_c (j := 1) rfl rfl rfl rfl Try.isAgg53 (by with_reducible (repeat (first | exact Take.here | apply Take.there))) (by first | rfl | exact (Nat.add_zero _).symm) (by rfl) ?_
          refine q_move rfl rfl rfl rfl ?_
          refine q_move rfl rfl rfl rfl ?_
          refine q_nil_p rfl rfl rfl rfl ?_
          refine q_field (k := 0) rfl rfl rfl rfl Try.underlying77 rfl Try.sizeOf3 rfl ?_
          refine q_load_c (j := 0) rfl rfl rfl rfl Try.isAgg3 (by with_reducible (repeat (first | exact Take.here | apply Take.there))) (by first | rfl | exact (Nat.add_zero _).symm) (by rfl) ?_
          refine q_move rfl rfl rfl rfl ?_
          refine q_int rfl rfl rfl rfl rfl (b_sub' _ (by (first | exact fits_i64 (by omega) (by omega) | exact fits_u64 (by omega) (by omega) | exact fits_u32 (by omega) (by omega) | exact fits_u8 (by omega) (by omega)))) ?_
          refine q_int rfl rfl rfl rfl rfl (b_sub' _ (by (first | exact fits_i64 (by omega) (by omega) | exact fits_u64 (by omega) (by omega) | exact fits_u32 (by omega) (by omega) | exact fits_u8 (by omega) (by omega)))) ?_
          refine q_idxO (sz := 0) (k := ty.toNat) (enc := encZ) (xs := rk) rfl rfl rfl rfl rfl Try.underlying53 Try.sizeOf3 hw_ (by first | rfl | omega) (by omega) (by with_reducible (repeat (first | exact Take.here | apply Take.there))) ?_
          intro ib99 io99 ha99 hl99 hc99
          refine l_store_O (j := 0) (k := ty.toNat) (q := ((x.d - ((k : Nat) : Int)) - 1)) (enc := encZ) (off := io99) rfl rfl rfl rfl Try.sizeOf3 (us := [_]) rfl rfl rfl ha99 encZ_len hw_ (by with_reducible (repeat (first | exact Take.here | apply Take.there))) (by first | rfl | exact (Nat.add_zero _).symm | omega) (by first | decide | exact Nat.le_of_ble_eq_true rfl) (by rfl) ?_
          refine ag_nil ?_
          refine r_done ?_
          refine s_keep [0, 1, 10, 74, 75, 76] (e' := [(0, _), (1, _), (10, _), (74, _), (75, _), (76, _)]) rfl ?_
          refine k_blk_n ?_
          refine k_then_n ?_
          refine c_plain (.q 0 (.q 1 (.done))) (by kernel_rfl) ?_
          refine q_int rfl rfl rfl rfl rfl (b_add' _ (by (first | exact fits_i64 (by omega) (by omega) | exact fits_u64 (by omega) (by omega) | exact fits_u32 (by omega) (by omega) | exact fits_u8 (by omega) (by omega)))) ?_
          refine q_move rfl rfl rfl rfl ?_
          refine r_done ?_
          refine k_then_n ?_
          rw [show rk.set ty.toNat (x.d - (k : Int) - 1) = chg x.d x.chs (x.m + 1) ty x.rk (k + 1) from by rw [hrk, chg_t hsv hs]]
          refine loop_next (x := (k, rk)) ((k + 1, chg x.d x.chs (x.m + 1) ty x.rk (k + 1))) ?_ ?_ ?_ ?_
          · try dsimp only
            exact ⟨by omega, rfl⟩
          · show x.chs.length - (k + 1) < x.chs.length - k; omega
          · exact ⟨rfl, rfl, rfl, rfl, rfl, rfl, trivial⟩
          · (try simp only [List.cons_append, List.nil_append]); (repeat ((with_reducible apply Takes.cons); focus (first | (with_reducible (repeat (first | exact Take.here | apply Take.there)); done) | (repeat (first | exact Take.here | apply Take.there))))); (repeat (first | exact Takes.nil | exact Takes.self | refine takes_drop2 ?_))
        · skip
          refine c_skip ?_
          refine k_blk_n ?_
          refine k_then_n ?_
          refine c_plain (.q 0 (.q 1 (.done))) (by kernel_rfl) ?_
          refine q_int rfl rfl rfl rfl rfl (b_add' _ (by (first | exact fits_i64 (by omega) (by omega) | exact fits_u64 (by omega) (by omega) | exact fits_u32 (by omega) (by omega) | exact fits_u8 (by omega) (by omega)))) ?_
          refine q_move rfl rfl rfl rfl ?_
          refine r_done ?_
          refine k_then_n ?_
          rw [show own 1 encZ ar cr rk = own 1 encZ ar cr (chg x.d x.chs (x.m + 1) ty x.rk (k + 1)) from by rw [hrk, chg_f hsv hs]]
          refine loop_next (x := (k, rk)) ((k + 1, chg x.d x.chs (x.m + 1) ty x.rk (k + 1))) ?_ ?_ ?_ ?_
          · try dsimp only
            exact ⟨by omega, rfl⟩
          · show x.chs.length - (k + 1) < x.chs.length - k; omega
          · exact ⟨rfl, rfl, rfl, rfl, rfl, rfl, trivial⟩
          · (try simp only [List.cons_append, List.nil_append]); (repeat ((with_reducible apply Takes.cons); focus (first | (with_reducible (repeat (first | exact Take.here | apply Take.there)); done) | (repeat (first | exact Take.here | apply Take.there))))); (repeat (first | exact Takes.nil | exact Takes.self | refine takes_drop2 ?_))
      · skip
        refine c_exit ?_
        refine k_then_exit ?_
        refine k_then_exit ?_
        refine k_blk_here ?_
        refine k_then_n ?_
        refine c_seq ?_
        refine c_plain (.q 0 (.q 1 ((.l 2 [] (.q 3 (.q 4 (.q 5 (.done)))))))) (by kernel_rfl) ?_
        refine q_move rfl rfl rfl rfl ?_
        refine q_move rfl rfl rfl rfl ?_
        have sp_4 := index_spec l ty ao i c A hn hr (by omega) hym
        refine l_call rfl rfl rfl rfl rfl rfl Try.call54 (sp_4) (by (repeat ((with_reducible apply Takes.cons); focus (first | (with_reducible (repeat (first | exact Take.here | apply Take.there)); done) | (repeat (first | exact Take.here | apply Take.there))))); exact Takes.nil) ?_
        rintro p2 ⟨hp2a, hp2b⟩
        try simp only [List.cons_append, List.nil_append]
        refine ag_nil ?_
        have hp2l := (List.getElem?_eq_some_iff.1 hp2a).1
        obtain rfl : p2 = p := by
          rcases Nat.lt_trichotomy p2 p with h | h | h
          · have := okL_rise hgl p p2 ty ty h hp2a hp; omega
          · exact h
          · exact absurd rfl (hp2b p ty h hp)
        refine q_conv' rfl rfl rfl rfl Try.underlying25 Try.underlying3 (by (first | exact fits_i64 (by omega) (by omega) | exact fits_u64 (by omega) (by omega) | exact fits_u32 (by omega) (by omega) | exact fits_u8 (by omega) (by omega))) ?_
        refine q_assign rfl rfl rfl rfl ?_
        refine q_assign rfl rfl rfl rfl ?_
        refine r_done ?_
        refine s_keep [4, 5] (e' := [(4, _), (5, _)]) rfl ?_
        refine k_then_n ?_
        refine c_ret ?_
        obtain rfl : k = x.chs.length := by omega
        refine ch_fold (b := b) (d := x.d) (rk := rk) (chs := x.chs) (m := (x.m + 1)) (by (repeat ((with_reducible apply Takes.cons); focus (first | (with_reducible (repeat (first | exact Take.here | apply Take.there)); done) | (repeat (first | exact Take.here | apply Take.there))))); exact Takes.nil) (by omega) (by rfl) ?_
        rw [show ch b (Chs.mk x.d rk x.chs (x.m + 1)) = ch b (chzX x l) from by rw [chzX, if_pos hgd, hbt, hrk]]
        refine ret2 rfl rfl rfl (()) (by rw [chzE, chzK, if_pos hgd, if_pos hgd, ← hpb]) (by trivial) ?_
        (repeat ((with_reducible apply Takes.cons); focus (first | (with_reducible (repeat (first | exact Take.here | apply Take.there)); done) | (repeat (first | exact Take.here | apply Take.there))))); (repeat (first | exact Takes.nil | exact Takes.self | refine takes_drop2 ?_))
end Go.Ab.Sc
