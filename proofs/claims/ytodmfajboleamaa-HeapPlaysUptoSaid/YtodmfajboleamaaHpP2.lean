/- HeapPlays: all of a heap, drained or told; things put in by both. -/
import Derived.Test.YtodmfajboleamaaHpP
import Derived.Test.YtodmfajboleamaaEngJ
set_option linter.unusedVariables false
set_option linter.unusedSimpArgs false
set_option maxRecDepth 100000
namespace Go.Ab.HpT
open Go Go.Proofs Go.Ab
theorem callF_conseq {P : Program} {fv : Value} {args : List Value} {Δ Δ2 : List HProp} {α β : Type} {v : α → Value} {φ : α → Prop} {Δ' : α → List HProp} {v2 : β → Value} {φ2 : β → Prop} {Δ2' : β → List HProp} (Θ : List HProp)
    (h : CallF P fv args Δ v φ Δ') (k : ∀ Γ hp, Sat (Δ2 ++ Γ) hp → Sat (Δ ++ (Θ ++ Γ)) hp) (k' : ∀ x, φ x → ∃ y : β, v x = v2 y ∧ φ2 y ∧ ∀ Γ hp, Sat (Δ' x ++ (Θ ++ Γ)) hp → Sat (Δ2' y ++ Γ) hp) : CallF P fv args Δ2 v2 φ2 Δ2' := fun Γ w s => by
  have key : ∀ u w', (∃ x, u = v x ∧ φ x ∧ Sat (Δ' x ++ (Θ ++ Γ)) (lh w') ∧ Amb w w') → ∃ y, u = v2 y ∧ φ2 y ∧ Sat (Δ2' y ++ Γ) (lh w') ∧ Amb w w' := by
    rintro u w' ⟨x, e, hx, s', a⟩
    obtain ⟨y, e2, hy, k2⟩ := k' x hx
    exact ⟨y, e.trans e2, hy, k2 Γ _ s', a⟩
  rcases h (Θ ++ Γ) w (k Γ _ s) with ⟨f, fi, ca, e, hc, hk⟩ | ⟨l, e, fn, tmps, asg, bo, hy, hr⟩
  · exact .inl ⟨f, fi, ca, e, hc, hk.mono fun en w' ⟨u, e1, hu⟩ => ⟨u, e1, key u w' hu⟩⟩
  · exact .inr ⟨l, e, fn, tmps, asg, bo, hy, hr.mono fun en w' ⟨u, e1, hu⟩ => ⟨u, e1, key u w' hu⟩⟩
theorem exists_min : ∀ l : List Th, l ≠ [] → ∃ x ∈ l, ∀ y ∈ l, x.1 ≤ y.1
  | [], h => absurd rfl h
  | [a], _ => ⟨a, by simp, fun y hy => by simp at hy; rw [hy]; exact Int.le_refl _⟩
  | a :: b :: l, _ => by
    obtain ⟨x, hx, h⟩ := exists_min (b :: l) (by simp)
    by_cases ha : a.1 ≤ x.1
    · exact ⟨a, by simp, fun y hy => by
        rcases List.mem_cons.1 hy with rfl | hy
        · exact Int.le_refl _
        · exact Int.le_trans ha (h y hy)⟩
    · exact ⟨x, List.mem_cons_of_mem _ hx, fun y hy => by
        rcases List.mem_cons.1 hy with rfl | hy
        · omega
        · exact h y hy⟩
theorem mI_lt {l : List Th} (h : l ≠ []) : mI l < l.length := by
  obtain ⟨x, hx, hm⟩ := exists_min l h
  exact List.findIdx_lt_length.2 ⟨x, hx, List.all_eq_true.2 fun y hy => by simpa using hm y hy⟩
theorem pkL_ok {l : List Th} (h : (pkL l).2 = true) : ∃ x, l[mI l]? = some x ∧ pkL l = (x, true) := by
  unfold pkL at h
  cases e : l[mI l]? with
  | none => rw [e] at h; cases h
  | some x => exact ⟨x, rfl, pkL_at e⟩
theorem pkL_no {l : List Th} (h : (pkL l).2 = false) : l = [] := by
  apply Classical.byContradiction
  intro hn
  obtain ⟨x, hx⟩ := get_lt (mI_lt hn)
  rw [pkL_at hx] at h; cases h
theorem fs_nil {Lz : List (Th × Nat)} (h : fs Lz = []) : Lz = [] := by simpa [fs] using h
theorem fs_len (Lz : List (Th × Nat)) : (fs Lz).length = Lz.length := by simp [fs]
/-- The list in order: the first of the least, again and again. -/
def srtL : Nat → List Th → List Th
  | 0, _ => []
  | n + 1, l => match l[mI l]? with
    | none => []
    | some x => x :: srtL n (l.eraseIdx (mI l))
abbrev sl (l : List Th) : List Th := srtL l.length l
theorem er_len {α : Type} {l : List α} {i : Nat} (h : i < l.length) : (l.eraseIdx i).length = l.length - 1 := by rw [List.length_eraseIdx, if_pos h]
theorem sl_cons {l : List Th} {x : Th} (h : l[mI l]? = some x) : sl l = x :: sl (l.eraseIdx (mI l)) := by
  have hl : mI l < l.length := (List.getElem?_eq_some_iff.1 h).1
  obtain ⟨n, hn⟩ : ∃ n, l.length = n + 1 := ⟨l.length - 1, by omega⟩
  have h2 : (l.eraseIdx (mI l)).length = n := by rw [er_len hl]; omega
  show srtL l.length l = x :: srtL (l.eraseIdx (mI l)).length (l.eraseIdx (mI l))
  rw [hn, h2]
  show (match l[mI l]? with | none => [] | some x => x :: srtL n (l.eraseIdx (mI l))) = _
  rw [h]
theorem sl_len : ∀ (n : Nat) (l : List Th), l.length = n → (sl l).length = n
  | 0, l, h => by rw [List.eq_nil_of_length_eq_zero h]; rfl
  | n + 1, l, h => by
    obtain ⟨x, hx⟩ := get_lt (mI_lt (l := l) (by intro e; rw [e] at h; cases h))
    rw [sl_cons hx, List.length_cons, sl_len n _ (by rw [er_len (List.getElem?_eq_some_iff.1 hx).1]; omega)]
theorem top_of {Lz : List (Th × Nat)} {x : Th × Nat} (hz : Rz Lz) (hx : x ∈ Lz) (hle : ∀ y ∈ Lz, ltI kl y x = false) : Lz[mI (fs Lz)]? = some x := by
  obtain ⟨i, hi⟩ := List.getElem?_of_mem hx
  have hil : i < Lz.length := (List.getElem?_eq_some_iff.1 hi).1
  have he : Lz[i] = x := (List.getElem?_eq_some_iff.1 hi).2
  have key : ∀ y ∈ Lz, ¬ y.1.1 < x.1.1 ∧ (y.2 < x.2 → x.1.1 < y.1.1) := fun y hy => by
    have := hle y hy
    simp only [ltI, kl, Bool.or_eq_false_iff, Bool.and_eq_false_iff, Bool.not_eq_false', decide_eq_false_iff_not, decide_eq_true_eq] at this
    omega
  have hm : mI (fs Lz) = i := by
    unfold mI
    rw [List.findIdx_eq (by simpa [fs] using hil)]
    refine ⟨?_, fun j hj => ?_⟩
    · rw [List.all_eq_true]
      intro y hy
      obtain ⟨z, hz1, rfl⟩ := List.mem_map.1 hy
      have := (key z hz1).1
      simp [fs, he]; omega
    · have hjl : j < Lz.length := by omega
      have h1 : Lz[j].2 < x.2 := by
        have := List.pairwise_iff_getElem.1 hz j i hjl hil hj
        rw [he] at this; exact this
      have h2 := (key _ (List.getElem_mem hjl)).2 h1
      have hjf : j < (fs Lz).length := by simpa [fs] using hjl
      cases ha : ((fs Lz).all fun y => decide (((fs Lz)[j]'hjf).1 ≤ y.1)) with
      | false => rfl
      | true =>
        have := List.all_eq_true.1 ha x.1 (List.mem_map.2 ⟨x, List.mem_of_getElem? hi, rfl⟩)
        simp [fs] at this; omega
  rw [hm]; exact hi
theorem srt_sl : ∀ (s Lz : List (Th × Nat)), Rz Lz → Srt kl Lz s → s.map (·.1) = sl (fs Lz)
  | [], Lz, _, h => by obtain rfl := List.Perm.nil_eq h.1; rfl
  | x :: s, Lz, hz, h => by
    have hp := List.pairwise_cons.1 h.2
    have hx : x ∈ Lz := h.1.mem_iff.1 (by simp)
    have htop := top_of hz hx fun y hy => by
      rcases List.mem_cons.1 (h.1.mem_iff.2 hy) with rfl | hy
      · exact kl_ok.ord.item.irr _
      · exact kl_ok.ord.item.asym _ _ (hp.1 y hy)
    have h1 : (fs Lz)[mI (fs Lz)]? = some x.1 := by rw [fs, List.getElem?_map]; rw [fs] at htop; rw [htop]; rfl
    rw [sl_cons h1, ← fs_erase, List.map_cons]
    congr 1
    exact srt_sl s _ (rz_erase hz _) ⟨(h.1.trans (perm_erase Lz _ x htop).symm).cons_inv, hp.2⟩
theorem rz_zip (L : List Th) : Rz L.zipIdx := by
  have := (rz_push (Lz := []) (m := 0) List.Pairwise.nil (fun p h => by cases h) L).1
  simpa using this
theorem srt_zip {L : List Th} {s : List (Th × Nat)} (h : Srt kl L.zipIdx s) : s.map (·.1) = sl L := by
  rw [srt_sl s _ (rz_zip L) h]
  show sl (L.zipIdx.map (·.1)) = _
  rw [zip_fst]
theorem hpz_open {w0 : World} {ds : List Deferred} {n : Nat} {e : Env} {Γ : List HProp} {X : Act → World → Prop} {b : Nat} {Lz : List (Th × Nat)} {made M : Nat} (k : ∀ its ao cap, HInv kl its M → its.Perm Lz → Le (St w0 ds n e (cells b 0 [lf 10 [] [], .slice ao its.length cap, .int .u64 (made : Int)] :: own 3 encI ao cap its :: Γ)) X) : Le (St w0 ds n e (hpz b Lz made M :: Γ)) X := fun a w s => by
  obtain ⟨its, s1⟩ := s.heap.ex
  obtain ⟨⟨h1, h2⟩, s2⟩ := s1.pure_and
  exact hp_open (fun ao cap => k its ao cap h1 h2) a w ⟨s.defers, s.size, s.env, s2, s.amb⟩
theorem hpz_fold {w0 : World} {ds : List Deferred} {n : Nat} {e : Env} {Γ Γ' : List HProp} {X : Act → World → Prop} {b : Nat} {Lz : List (Th × Nat)} {made M m : Nat} {its : List (Th × Nat)} {ao : Option Addr} {cap : Nat} (tk : Takes Γ [cells b 0 [lf 10 [] [], .slice ao m cap, .int .u64 (made : Int)], own 3 encI ao cap its] Γ') (hm : m = its.length) (hI : HInv kl its M) (hp : its.Perm Lz)
    (k : Le (St w0 ds n e (hpz b Lz made M :: Γ')) X) : Le (St w0 ds n e Γ) X :=
  hp_fold tk hm (s_heap (fun _ s => hpz_of hI hp s) k)
theorem znone_spec (b : Nat) (Lz : List (Th × Nat)) (made M : Nat) : Spec Try.prog 33 [.pointer (some ⟨b, 0, none⟩)] [hpz b Lz made M] (fun (_ : Unit) => .bool false) (fun _ => True) (fun _ => [hpz b Lz made M]) := by
  intro Γ w s
  obtain ⟨its, s⟩ := s.ex
  obtain ⟨⟨hI, hp⟩, s⟩ := s.pure_and
  refine (none_spec (lk := 10) (fi := []) (ca := []) b 0 its made Γ w s).mono ?_
  rintro e w' ⟨l, rfl, -, s', am⟩
  exact ⟨(), rfl, trivial, hpz_of hI hp s', am⟩
theorem zdrain1_spec {σ : Type} (b bx : Nat) (yf : Value) (JL : Option Code → HProp) (J : σ → HProp) (I : List (Th × Nat) → Nat → Nat → σ → Prop) (Fin : List (Th × Nat) → Nat → Nat → σ → Code → Prop) (μ : List (Th × Nat) → Nat → σ → Nat)
    (hI : ∀ Lz m M s, I Lz m M s → Rz Lz ∧ Lz.length ≤ 4000000000000)
    (hy : ∀ Lz m M s x, I Lz m M s → (fs Lz)[mI (fs Lz)]? = some x → CallF Try.prog yf [vT x] [JL none, J s, hpz b (Lz.eraseIdx (mI (fs Lz))) m M] (fun (r : (List (Th × Nat) × Nat × Nat) × σ × Option Code) => .bool r.2.2.isNone)
      (fun r => (r.2.2 = none → I r.1.1 r.1.2.1 r.1.2.2 r.2.1 ∧ μ r.1.1 r.1.2.1 r.2.1 < μ Lz m s) ∧ (∀ c, r.2.2 = some c → Fin r.1.1 r.1.2.1 r.1.2.2 r.2.1 c)) (fun r => [JL r.2.2, J r.2.1, hpz b r.1.1 r.1.2.1 r.1.2.2]))
    (L0 : List (Th × Nat)) (m0 M0 : Nat) (s0 : σ) (h0 : I L0 m0 M0 s0) : Spec Try.prog 50 [yf, .pointer (some ⟨bx, 0, none⟩)] [JL none, J s0, hpz b L0 m0 M0, cells bx 0 [.pointer (some ⟨b, 0, none⟩)]] (fun (r : (List (Th × Nat) × Nat × Nat) × σ × Option Code) => .tuple #[]) (fun r => (r.1.1 = [] ∧ r.2.2 = none ∧ I r.1.1 r.1.2.1 r.1.2.2 r.2.1) ∨ ∃ c, r.2.2 = some c ∧ Fin r.1.1 r.1.2.1 r.1.2.2 r.2.1 c) (fun r => [JL r.2.2, J r.2.1, hpz b r.1.1 r.1.2.1 r.1.2.2, cells bx 0 [.pointer (some ⟨b, 0, none⟩)]]) := by
  refine spec_mk (n := 18) Try.func50 rfl rfl rfl ?_
  intro Γ w0
  simp only [argE, List.cons_append, List.nil_append, Nat.zero_add, Nat.reduceAdd]
  refine c_block ?_
  refine c_loop2 (α := List (Th × Nat) × Nat × Nat × σ) (fun (x_ : List (Th × Nat) × Nat × Nat × σ) => match x_ with | (Lz, mm, MM, s) => I Lz mm MM s) (fun (x_ : List (Th × Nat) × Nat × Nat × σ) => match x_ with | (Lz, mm, MM, s) => []) (fun (x_ : List (Th × Nat) × Nat × Nat × σ) => match x_ with | (Lz, mm, MM, s) => [JL none, J s, hpz b Lz mm MM]) (fun (x_ : List (Th × Nat) × Nat × Nat × σ) => match x_ with | (Lz, mm, MM, s) => μ Lz mm s) [0, 1] (er := [(0, _), (1, _)]) rfl (L0, m0, M0, s0) ?_ (by exact trivial) (by (repeat ((with_reducible apply Takes.cons); focus (first | (with_reducible (repeat (first | exact Take.here | apply Take.there)); done) | (repeat (first | exact Take.here | apply Take.there))))); exact Takes.nil) ?_
  · exact h0
  rintro ⟨Lz, mm, MM, s⟩ hIs
  try simp only [List.cons_append, List.nil_append]
  obtain ⟨hz, hzl⟩ := hI Lz mm MM s hIs
  refine c_block ?_
  refine c_seq ?_
  refine c_plain (.q 0 ((.l 1 [] (.q 2 (.q 3 (.q 4 ((.l 5 [] ((.l 6 [] (.q 7 (.done)))))))))))) (by kernel_rfl) ?_
  refine q_load_c (j := 0) rfl rfl rfl rfl Try.isAgg23 (by with_reducible (repeat (first | exact Take.here | apply Take.there))) (by first | rfl | exact (Nat.add_zero _).symm) (by rfl) ?_
  have sp_1 := zpop_spec b Lz mm MM hz hzl
  refine l_call rfl rfl rfl rfl rfl rfl Try.call12 (sp_1) (by (repeat ((with_reducible apply Takes.cons); focus (first | (with_reducible (repeat (first | exact Take.here | apply Take.there)); done) | (repeat (first | exact Take.here | apply Take.there))))); exact Takes.nil) ?_
  rintro ⟨⟩ -
  try simp only [List.cons_append, List.nil_append]
  refine ag_nil ?_
  refine q_move rfl rfl rfl rfl ?_
  refine q_extract rfl rfl rfl rfl rfl ?_
  refine q_extract rfl rfl rfl rfl rfl ?_
  refine l_alloc rfl rfl rfl Try.zeroValue28 (zs := [.int .i64 0, .int .i64 0]) rfl ?_
  intro b3
  refine ag_nil ?_
  refine l_store (j := 0) rfl rfl rfl rfl Try.sizeOf28 (us := [_, _]) rfl rfl rfl (by with_reducible (repeat (first | exact Take.here | apply Take.there))) (by first | rfl | exact (Nat.add_zero _).symm) (by first | decide | (simp; done) | omega) ?_
  simp only [setL, List.set]
  refine ag_nil ?_
  refine q_assign rfl rfl rfl rfl ?_
  refine r_done ?_
  refine s_keep [0, 1, 3, 4] (e' := [(0, _), (1, _), (3, _), (4, _)]) rfl ?_
  refine k_then_n ?_
  refine c_seq ?_
  refine c_plain (.q 0 (.q 1 (.q 2 (.q 3 (.q 4 ((.l 5 [] (.q 6 (.q 7 (.done)))))))))) (by kernel_rfl) ?_
  refine q_move rfl rfl rfl rfl ?_
  refine q_not rfl rfl rfl rfl ?_
  refine q_move rfl rfl rfl rfl ?_
  refine s_bool 12 rfl (fun hok => ?_) (fun hok => ?_)
  · skip
    try simp only [Bool.and_eq_true, Bool.or_eq_true, Bool.not_eq_true', Bool.not_eq_false', Bool.and_eq_false_iff, Bool.or_eq_false_iff, decide_eq_true_eq, decide_eq_false_iff_not] at hok
    have hnil := fs_nil (pkL_no (by simpa using hok))
    subst hnil
    refine q_skip rfl rfl rfl rfl ?_
    refine q_skip rfl rfl rfl rfl ?_
    refine l_skip rfl rfl rfl rfl ?_
    refine q_skip rfl rfl rfl rfl ?_
    refine q_pick_t rfl rfl rfl rfl rfl ?_
    refine r_done ?_
    refine s_keep [0, 1, 13, 14, 15, 16, 17] (e' := [(0, _), (1, _), (13, _), (14, _), (15, _), (16, _), (17, _)]) rfl ?_
    refine k_then_n ?_
    refine c_cond_t rfl ?_
    refine c_ret ?_
    refine k_blk_ret ?_
    refine k_then_ret ?_
    refine k_blk_ret ?_
    refine ret0 rfl ((([], mm, MM), s, none)) (by first | rfl | (first | rfl | (congr 1; done) | (congr 1 <;> first | rfl | omega | (simp; done) | (simp; omega)))) (by exact .inl ⟨rfl, rfl, hIs⟩) ?_
    (repeat ((with_reducible apply Takes.cons); focus (first | (with_reducible (repeat (first | exact Take.here | apply Take.there)); done) | (repeat (first | exact Take.here | apply Take.there))))); (repeat (first | exact Takes.nil | exact Takes.self | refine takes_drop2 ?_))
  · skip
    try simp only [Bool.and_eq_true, Bool.or_eq_true, Bool.not_eq_true', Bool.not_eq_false', Bool.and_eq_false_iff, Bool.or_eq_false_iff, decide_eq_true_eq, decide_eq_false_iff_not] at hok
    obtain ⟨x, hx, hpk⟩ := pkL_ok (by simpa using hok)
    have hmil : mI (fs Lz) < Lz.length := by rw [← fs_len]; exact (List.getElem?_eq_some_iff.1 hx).1
    have hel := er_len hmil
    refine q_move rfl rfl rfl rfl ?_
    refine q_loadN_c rfl rfl rfl rfl Try.isAgg28 Try.sizeOf28 (by with_reducible (repeat (first | exact Take.here | apply Take.there))) 0 (us := [_, _]) (by first | rfl | exact (Nat.add_zero _).symm) rfl rfl ?_
    refine s_eq 14 rfl (v' := .agg #[.int .i64 x.1, .int .i64 x.2]) (by rw [hpk]) ?_
    refine l_callF rfl rfl rfl rfl rfl (hy Lz mm MM s x hIs hx) (by (repeat ((with_reducible apply Takes.cons); focus (first | (with_reducible (repeat (first | exact Take.here | apply Take.there)); done) | (repeat (first | exact Take.here | apply Take.there))))); exact Takes.nil) ?_
    rintro ⟨⟨L2, m2, M2⟩, s2, p⟩ hr2
    try simp only [List.cons_append, List.nil_append]
    refine ag_nil ?_
    refine q_not rfl rfl rfl rfl ?_
    refine q_pick_f rfl rfl rfl rfl rfl ?_
    refine r_done ?_
    refine s_keep [0, 1, 13, 14, 15, 16, 17] (e' := [(0, _), (1, _), (13, _), (14, _), (15, _), (16, _), (17, _)]) rfl ?_
    refine k_then_n ?_
    refine c_cond rfl (fun hp => ?_) (fun hp => ?_)
    · skip
      try simp only [Bool.and_eq_true, Bool.or_eq_true, Bool.not_eq_true', Bool.not_eq_false', Bool.and_eq_false_iff, Bool.or_eq_false_iff, decide_eq_true_eq, decide_eq_false_iff_not] at hp
      obtain ⟨c_, rfl⟩ : ∃ c, p = some c := by
        cases p with
        | none => simp at hp
        | some c => exact ⟨c, rfl⟩
      refine c_ret ?_
      refine k_blk_ret ?_
      refine k_then_ret ?_
      refine k_blk_ret ?_
      refine ret0 rfl (((L2, m2, M2), s2, some c_)) (by first | rfl | (first | rfl | (congr 1; done) | (congr 1 <;> first | rfl | omega | (simp; done) | (simp; omega)))) (by exact .inr ⟨c_, rfl, hr2.2 c_ rfl⟩) ?_
      (repeat ((with_reducible apply Takes.cons); focus (first | (with_reducible (repeat (first | exact Take.here | apply Take.there)); done) | (repeat (first | exact Take.here | apply Take.there))))); (repeat (first | exact Takes.nil | exact Takes.self | refine takes_drop2 ?_))
    · skip
      try simp only [Bool.and_eq_true, Bool.or_eq_true, Bool.not_eq_true', Bool.not_eq_false', Bool.and_eq_false_iff, Bool.or_eq_false_iff, decide_eq_true_eq, decide_eq_false_iff_not] at hp
      obtain rfl : p = none := by
        cases p with
        | none => rfl
        | some c => simp at hp
      refine c_skip ?_
      refine k_blk_n ?_
      refine k_then_n ?_
      refine loop_next (x := (Lz, mm, MM, s)) ((L2, m2, M2, s2)) ?_ ?_ ?_ ?_
      · try dsimp only
        exact (hr2.1 rfl).1
      · exact (hr2.1 rfl).2
      · exact ⟨rfl, rfl, trivial⟩
      · (try simp only [List.cons_append, List.nil_append]); (repeat ((with_reducible apply Takes.cons); focus (first | (with_reducible (repeat (first | exact Take.here | apply Take.there)); done) | (repeat (first | exact Take.here | apply Take.there))))); (repeat (first | exact Takes.nil | exact Takes.self | refine takes_drop2 ?_))

theorem all_spec (b : Nat) : Spec Try.prog 48 [.pointer (some ⟨b, 0, none⟩)] [] (fun (r : Nat) => .func (.func 51) #[] #[.pointer (some ⟨r, 0, none⟩)]) (fun r => True) (fun r => [cells r 0 [.pointer (some ⟨b, 0, none⟩)]]) := by
  refine spec_mk (n := 4) Try.func48 rfl rfl rfl ?_
  intro Γ w0
  simp only [argE, List.cons_append, List.nil_append, Nat.zero_add, Nat.reduceAdd]
  refine c_seq ?_
  refine c_plain ((.l 0 [] (.q 1 (.done)))) (by kernel_rfl) ?_
  refine l_box rfl rfl rfl rfl (us := [_]) rfl ?_
  intro b1
  refine ag_nil ?_
  refine q_assign rfl rfl rfl rfl ?_
  refine r_done ?_
  refine k_then_n ?_
  refine c_seq ?_
  refine c_plain (.q 0 (.q 1 (.done))) (by kernel_rfl) ?_
  refine q_func rfl rfl rfl rfl rfl ?_
  refine q_assign rfl rfl rfl rfl ?_
  refine r_done ?_
  refine k_then_n ?_
  refine c_ret ?_
  refine ret1 rfl rfl (b1) (by first | rfl | (first | rfl | (congr 1; done) | (congr 1 <;> first | rfl | omega | (simp; done) | (simp; omega)))) (by trivial) ?_
  (repeat ((with_reducible apply Takes.cons); focus (first | (with_reducible (repeat (first | exact Take.here | apply Take.there)); done) | (repeat (first | exact Take.here | apply Take.there))))); (repeat (first | exact Takes.nil | exact Takes.self | refine takes_drop2 ?_))

theorem clonei_spec (xs : List (Th × Nat)) (ao : Option Addr) (n c : Nat) (A : HProp) (hn : xs.length = n) (hr : RdS A ao (xs.flatMap encI)) (hb : xs.length ≤ 4000000000) : Spec Try.prog 52 [.slice ao n c] [A] (fun (r : Option Addr × Nat) => .slice r.1 n r.2) (fun r => True) (fun r => [A, own 3 encI r.1 r.2 xs]) := by
  refine spec_mk (n := 8) Try.func52 rfl rfl rfl ?_
  intro Γ w0
  simp only [argE, List.cons_append, List.nil_append, Nat.zero_add, Nat.reduceAdd]
  refine c_seq ?_
  refine c_plain (.q 0 (.done)) (by kernel_rfl) ?_
  refine q_assign rfl rfl rfl rfl ?_
  refine r_done ?_
  refine k_then_n ?_
  refine c_seq ?_
  refine c_seq ?_
  refine c_plain (.q 0 (.q 1 (.done))) (by kernel_rfl) ?_
  refine q_move rfl rfl rfl rfl ?_
  refine q_eq_nils rfl rfl rfl rfl Try.underlying68 ?_
  refine r_done ?_
  refine k_then_n ?_
  refine c_cond rfl (fun hno => ?_) (fun hno => ?_)
  · skip
    try simp only [Bool.and_eq_true, Bool.or_eq_true, Bool.not_eq_true', Bool.not_eq_false', Bool.and_eq_false_iff, Bool.or_eq_false_iff, decide_eq_true_eq, decide_eq_false_iff_not] at hno
    have hx := rds_nil hr encI_len (by simpa using hno)
    subst hx
    obtain rfl : n = 0 := by simpa using hn.symm
    refine s_heap (fun _ h => own_nil (sz := 3) (enc := encI) h) ?_
    refine c_seq ?_
    refine c_plain (.q 0 (.done)) (by kernel_rfl) ?_
    refine q_assign rfl rfl rfl rfl ?_
    refine r_done ?_
    refine k_then_n ?_
    refine c_ret ?_
    refine k_then_ret ?_
    refine ret1 rfl rfl ((none, 0)) (by first | rfl | (first | rfl | (congr 1; done) | (congr 1 <;> first | rfl | omega | (simp; done) | (simp; omega)))) (by trivial) ?_
    (repeat ((with_reducible apply Takes.cons); focus (first | (with_reducible (repeat (first | exact Take.here | apply Take.there)); done) | (repeat (first | exact Take.here | apply Take.there))))); (repeat (first | exact Takes.nil | exact Takes.self | refine takes_drop2 ?_))
  · skip
    try simp only [Bool.and_eq_true, Bool.or_eq_true, Bool.not_eq_true', Bool.not_eq_false', Bool.and_eq_false_iff, Bool.or_eq_false_iff, decide_eq_true_eq, decide_eq_false_iff_not] at hno
    refine c_skip ?_
    refine k_then_n ?_
    refine c_seq ?_
    refine c_plain ((.l 0 [] (.q 1 ((.l 2 [] (.q 3 (.done))))))) (by kernel_rfl) ?_
    refine l_buildSlice0 rfl rfl rfl rfl Try.underlying68 Try.sizeOf74 ?_
    intro b5
    refine ag_nil ?_
    refine q_move rfl rfl rfl rfl ?_
    refine s_take (A := cells b5 0 []) (by with_reducible (repeat (first | exact Take.here | apply Take.there))) ?_
    refine s_heap (fun _ h => own_mk (sz := 3) (enc := encI) (xs := []) (sp := []) (cap := 0) (Nat.le_refl _) rfl h) ?_
    refine l_append (sz := 3) (enc := encI) (xs := []) rfl rfl rfl rfl rfl Try.underlying68 Try.typeInfo74 rfl rfl rfl (by decide) (by with_reducible (repeat (first | exact Take.here | apply Take.there))) (by with_reducible (repeat (first | exact Take.here | apply Take.there))) (by first | rfl | omega | (simp; done) | (simp; omega)) (ys := xs) (hr) (by rfl) (by exact hn) (encI_len) (encI_one) (by omega) (by show _ * 24 ≤ _; omega) ?_
    intro ao7 cp7
    try simp only [List.nil_append]
    refine ag_nil ?_
    refine q_assign rfl rfl rfl rfl ?_
    refine r_done ?_
    refine s_keep [2] (e' := [(2, _)]) rfl ?_
    refine k_then_n ?_
    refine c_ret ?_
    refine ret1 rfl rfl ((ao7, cp7)) (by rw [Nat.zero_add]) (by trivial) ?_
    (repeat ((with_reducible apply Takes.cons); focus (first | (with_reducible (repeat (first | exact Take.here | apply Take.there)); done) | (repeat (first | exact Take.here | apply Take.there))))); (repeat (first | exact Takes.nil | exact Takes.self | refine takes_drop2 ?_))

theorem all_round {σ : Type} {b b2 mm MM : Nat} {Lz : List (Th × Nat)} {yf : Value} {JL : Option Code → HProp} {J : σ → HProp} {I : Nat → σ → Prop} {Fin : σ → Code → Prop}
    (hy : ∀ i x s, (sl (fs Lz))[i]? = some x → I i s → CallF Try.prog yf [vT x] [JL none, J s, hpz b Lz mm MM] (fun (r : σ × Option Code) => .bool r.2.isNone) (fun r => (r.2 = none → I (i + 1) r.1) ∧ (∀ c, r.2 = some c → Fin r.1 c)) (fun r => [JL r.2, J r.1, hpz b Lz mm MM])) :
    ∀ Lq m M s x, (fun Lq _ M2 s => M2 = MM ∧ Rz Lq ∧ Lq.length ≤ Lz.length ∧ ∃ i, i ≤ (sl (fs Lz)).length ∧ sl (fs Lq) = (sl (fs Lz)).drop i ∧ I i s) Lq m M s → (fs Lq)[mI (fs Lq)]? = some x → CallF Try.prog yf [vT x] [JL none, (fun s => Bun [J s, hpz b Lz mm MM]) s, hpz b2 (Lq.eraseIdx (mI (fs Lq))) m M] (fun (r : (List (Th × Nat) × Nat × Nat) × σ × Option Code) => .bool r.2.2.isNone)
      (fun r => (r.2.2 = none → (fun Lq _ M2 s => M2 = MM ∧ Rz Lq ∧ Lq.length ≤ Lz.length ∧ ∃ i, i ≤ (sl (fs Lz)).length ∧ sl (fs Lq) = (sl (fs Lz)).drop i ∧ I i s) r.1.1 r.1.2.1 r.1.2.2 r.2.1 ∧ r.1.1.length < Lq.length) ∧ (∀ c, r.2.2 = some c → Fin r.2.1 c)) (fun r => [JL r.2.2, (fun s => Bun [J s, hpz b Lz mm MM]) r.2.1, hpz b2 r.1.1 r.1.2.1 r.1.2.2]) := by
  rintro Lq m M s x ⟨rfl, hz, hl, i, hi, hsl, hI⟩ hx
  have hmil : mI (fs Lq) < Lq.length := by rw [← fs_len]; exact (List.getElem?_eq_some_iff.1 hx).1
  have hel := er_len hmil
  rw [sl_cons hx] at hsl
  have hxi : (sl (fs Lz))[i]? = some x := by
    have : ((sl (fs Lz)).drop i)[0]? = some x := by rw [← hsl]; rfl
    rwa [List.getElem?_drop, Nat.add_zero] at this
  have hil : i < (sl (fs Lz)).length := (List.getElem?_eq_some_iff.1 hxi).1
  have hnext : sl ((fs Lq).eraseIdx (mI (fs Lq))) = (sl (fs Lz)).drop (i + 1) := by
    have := congrArg List.tail hsl
    rw [List.tail_cons, List.tail_drop] at this
    exact this
  refine callF_conseq [hpz b2 (Lq.eraseIdx (mI (fs Lq))) m M] (hy i x s hxi hI) (fun Γ hp s1 => ?_) (fun y hyy => ⟨((Lq.eraseIdx (mI (fs Lq)), m, M), y.1, y.2), rfl, ⟨fun h => ⟨⟨rfl, rz_erase hz _, by show (Lq.eraseIdx _).length ≤ _; omega, i + 1, by omega, by rw [fs_erase]; exact hnext, hyy.1 h⟩, by show (Lq.eraseIdx _).length < _; omega⟩, hyy.2⟩, fun Γ hp s1 => ?_⟩)
  · have s2 := (Take.there Take.here : Take _ _ _) _ s1
    have s3 := Bun.unfold (Γ := [J s, hpz b Lz mm M]) s2
    exact (by (repeat ((with_reducible apply Takes.cons); focus (first | (with_reducible (repeat (first | exact Take.here | apply Take.there)); done) | (repeat (first | exact Take.here | apply Take.there))))); exact Takes.nil : Takes _ [JL none, J s, hpz b Lz mm M, hpz b2 (Lq.eraseIdx (mI (fs Lq))) m M] _) _ s3
  · have s2 := (by (repeat ((with_reducible apply Takes.cons); focus (first | (with_reducible (repeat (first | exact Take.here | apply Take.there)); done) | (repeat (first | exact Take.here | apply Take.there))))); exact Takes.nil : Takes _ [J y.1, hpz b Lz mm M] _) _ s1
    have s3 := Bun.fold (Γ := [J y.1, hpz b Lz mm M]) s2
    exact (by (repeat ((with_reducible apply Takes.cons); focus (first | (with_reducible (repeat (first | exact Take.here | apply Take.there)); done) | (repeat (first | exact Take.here | apply Take.there))))); exact Takes.nil : Takes _ [JL y.2, Bun [J y.1, hpz b Lz mm M], hpz b2 (Lq.eraseIdx (mI (fs Lq))) m M] _) _ s3

theorem all_end {σ : Type} {MM : Nat} {Lz Lr : List (Th × Nat)} {I : Nat → σ → Prop} {Fin : σ → Code → Prop} {mr Mr : Nat} {sr : σ} {pr : Option Code}
    (h : (Lr = [] ∧ pr = none ∧ (fun Lq _ M2 s => M2 = MM ∧ Rz Lq ∧ Lq.length ≤ Lz.length ∧ ∃ i, i ≤ (sl (fs Lz)).length ∧ sl (fs Lq) = (sl (fs Lz)).drop i ∧ I i s) Lr mr Mr sr) ∨ ∃ c, pr = some c ∧ Fin sr c) : (pr = none ∧ I (sl (fs Lz)).length sr) ∨ ∃ c, pr = some c ∧ Fin sr c := by
  rcases h with ⟨h1, h2, h3, h4, h5, i, h6, h7, h8⟩ | h1
  · left
    subst h1
    have h9 := congrArg List.length h7
    rw [List.length_drop] at h9
    have h10 : (sl (fs ([] : List (Th × Nat)))).length = 0 := rfl
    rw [h10] at h9
    have h11 : i = (sl (fs Lz)).length := by omega
    exact ⟨h2, h11 ▸ h8⟩
  · exact .inr h1

theorem all1_spec {σ : Type} (b bx mm MM : Nat) (Lz : List (Th × Nat)) (hzz : Rz Lz) (hzl : Lz.length ≤ 100000000) (yf : Value) (JL : Option Code → HProp) (J : σ → HProp) (I : Nat → σ → Prop) (Fin : σ → Code → Prop)
    (hy : ∀ i x s, (sl (fs Lz))[i]? = some x → I i s → CallF Try.prog yf [vT x] [JL none, J s, hpz b Lz mm MM] (fun (r : σ × Option Code) => .bool r.2.isNone) (fun r => (r.2 = none → I (i + 1) r.1) ∧ (∀ c, r.2 = some c → Fin r.1 c)) (fun r => [JL r.2, J r.1, hpz b Lz mm MM]))
    (s0 : σ) (h0 : I 0 s0) : Spec Try.prog 51 [yf, .pointer (some ⟨bx, 0, none⟩)] [JL none, J s0, hpz b Lz mm MM, cells bx 0 [.pointer (some ⟨b, 0, none⟩)]] (fun (r : σ × Option Code) => .tuple #[]) (fun r => (r.2 = none ∧ I (sl (fs Lz)).length r.1) ∨ ∃ c, r.2 = some c ∧ Fin r.1 c) (fun r => [JL r.2, J r.1, hpz b Lz mm MM, cells bx 0 [.pointer (some ⟨b, 0, none⟩)]]) := by
  refine spec_mk (n := 19) Try.func51 rfl rfl rfl ?_
  intro Γ w0
  simp only [argE, List.cons_append, List.nil_append, Nat.zero_add, Nat.reduceAdd]
  refine c_seq ?_
  refine c_seq ?_
  refine c_plain (.q 0 ((.l 1 [] (.done)))) (by kernel_rfl) ?_
  refine q_load_c (j := 0) rfl rfl rfl rfl Try.isAgg23 (by with_reducible (repeat (first | exact Take.here | apply Take.there))) (by first | rfl | exact (Nat.add_zero _).symm) (by rfl) ?_
  have sp_1 := znone_spec b Lz mm MM
  refine l_call rfl rfl rfl rfl rfl rfl Try.call33 (sp_1) (by (repeat ((with_reducible apply Takes.cons); focus (first | (with_reducible (repeat (first | exact Take.here | apply Take.there)); done) | (repeat (first | exact Take.here | apply Take.there))))); exact Takes.nil) ?_
  rintro ⟨⟩ -
  try simp only [List.cons_append, List.nil_append]
  refine ag_nil ?_
  refine r_done ?_
  refine k_then_n ?_
  refine c_cond_f rfl ?_
  refine c_skip ?_
  refine k_then_n ?_
  refine s_take (A := hpz b Lz mm MM) (by with_reducible (repeat (first | exact Take.here | apply Take.there))) ?_
  refine hpz_open fun its ia ic hIv hPm => ?_
  have hpl := hPm.length_eq
  refine s_take (A := own 3 encI ia ic its) (by with_reducible (repeat (first | exact Take.here | apply Take.there))) ?_
  refine own_fc fun io1 io2 io3 => ?_
  refine c_draw rfl (.q 0 (.q 1 (.q 2 (.q 3 (.q 4 (.q 5 (.q 6 (.q 7 (.q 12 ((.l 8 [0, 3] (.q 9 ((.l 10 [] ((.l 11 [] ((.l 13 [] (.done))))))))))))))))))) (by kernel_rfl) ?_
  refine q_load_c (j := 0) rfl rfl rfl rfl Try.isAgg23 (by with_reducible (repeat (first | exact Take.here | apply Take.there))) (by first | rfl | exact (Nat.add_zero _).symm) (by rfl) ?_
  refine q_nil_p rfl rfl rfl rfl ?_
  refine q_field (k := 0) rfl rfl rfl rfl Try.underlying71 rfl Try.sizeOf29 rfl ?_
  refine q_load_c (j := 0) rfl rfl rfl rfl Try.isAgg29 (by with_reducible (repeat (first | exact Take.here | apply Take.there))) (by first | rfl | exact (Nat.add_zero _).symm) (by rfl) ?_
  refine q_load_c (j := 0) rfl rfl rfl rfl Try.isAgg23 (by with_reducible (repeat (first | exact Take.here | apply Take.there))) (by first | rfl | exact (Nat.add_zero _).symm) (by rfl) ?_
  refine q_nil_p rfl rfl rfl rfl ?_
  refine q_field (k := 1) rfl rfl rfl rfl Try.underlying71 rfl Try.sizeOf68 rfl ?_
  refine q_load_c (j := 1) rfl rfl rfl rfl Try.isAgg68 (by with_reducible (repeat (first | exact Take.here | apply Take.there))) (by first | rfl | exact (Nat.add_zero _).symm) (by rfl) ?_
  refine q_move rfl rfl rfl rfl ?_
  have sp_2 := clonei_spec its ia its.length ic (own 3 encI ia ic its) rfl (rds_own encI_len (fun h => (io2 h).1) io3) (by omega)
  refine l_call rfl rfl rfl rfl rfl rfl Try.call52 (sp_2) (by (repeat ((with_reducible apply Takes.cons); focus (first | (with_reducible (repeat (first | exact Take.here | apply Take.there)); done) | (repeat (first | exact Take.here | apply Take.there))))); exact Takes.nil) ?_
  rintro ⟨ja, jc⟩ -
  try simp only [List.cons_append, List.nil_append]
  refine ag_load_c (q := 0) rfl rfl rfl Try.isAgg23 (by with_reducible (repeat (first | exact Take.here | apply Take.there))) (by first | rfl | exact (Nat.add_zero _).symm) (by rfl) ?_
  refine ag_load_c (q := 0) rfl rfl rfl Try.isAgg29 (by with_reducible (repeat (first | exact Take.here | apply Take.there))) (by first | rfl | exact (Nat.add_zero _).symm) (by rfl) ?_
  refine ag_nil ?_
  refine q_build rfl rfl rfl rfl (vs := [_, _, _]) (run_buildS Try.underlying71 Try.zeroValue71 (ps := [(0, 1), (1, 1), (2, 1)]) ⟨rfl, Try.sizeOf29, rfl, Try.sizeOf68, rfl, Try.sizeOf69, trivial⟩ rfl) ?_
  refine l_box rfl rfl rfl rfl (us := [_, _, _]) rfl ?_
  intro b15
  refine ag_nil ?_
  refine hpz_fold (b := b) (Lz := Lz) (made := mm) (M := MM) (by (repeat ((with_reducible apply Takes.cons); focus (first | (with_reducible (repeat (first | exact Take.here | apply Take.there)); done) | (repeat (first | exact Take.here | apply Take.there))))); exact Takes.nil) (by rfl) hIv hPm ?_
  refine hpz_fold (b := b15) (Lz := Lz) (made := 0) (M := MM) (by (repeat ((with_reducible apply Takes.cons); focus (first | (with_reducible (repeat (first | exact Take.here | apply Take.there)); done) | (repeat (first | exact Take.here | apply Take.there))))); exact Takes.nil) (by rfl) hIv hPm ?_
  have sp_3 := drain_spec (some ⟨b15, 0, none⟩)
  refine l_call rfl rfl rfl rfl rfl rfl Try.call44 (sp_3) (by (repeat ((with_reducible apply Takes.cons); focus (first | (with_reducible (repeat (first | exact Take.here | apply Take.there)); done) | (repeat (first | exact Take.here | apply Take.there))))); exact Takes.nil) ?_
  rintro bd -
  try simp only [List.cons_append, List.nil_append]
  refine ag_nil ?_
  refine s_heap (fun _ h => Bun.fold ((by (repeat ((with_reducible apply Takes.cons); focus (first | (with_reducible (repeat (first | exact Take.here | apply Take.there)); done) | (repeat (first | exact Take.here | apply Take.there))))); exact Takes.nil : Takes _ [J s0, hpz b Lz mm MM] _) _ h)) ?_
  have sp_4 := zdrain1_spec b15 bd yf JL (fun s => Bun [J s, hpz b Lz mm MM]) (fun Lq _ M2 s => M2 = MM ∧ Rz Lq ∧ Lq.length ≤ Lz.length ∧ ∃ i, i ≤ (sl (fs Lz)).length ∧ sl (fs Lq) = (sl (fs Lz)).drop i ∧ I i s) (fun _ _ _ s c => Fin s c) (fun Lq _ _ => Lq.length) (fun Lq m M s h => ⟨h.2.1, Nat.le_trans h.2.2.1 (by omega)⟩) (all_round hy) Lz 0 MM s0 ⟨rfl, hzz, Nat.le_refl _, 0, Nat.zero_le _, (by rw [List.drop_zero]), h0⟩
  refine l_call rfl rfl rfl rfl rfl rfl Try.call50 (sp_4) (by (repeat ((with_reducible apply Takes.cons); focus (first | (with_reducible (repeat (first | exact Take.here | apply Take.there)); done) | (repeat (first | exact Take.here | apply Take.there))))); exact Takes.nil) ?_
  rintro ⟨⟨Lr, mr, Mr⟩, sr, pr⟩ hres
  try simp only [List.cons_append, List.nil_append]
  refine ag_nil ?_
  refine r_done ?_
  refine s_keep [] (e' := []) rfl ?_
  refine ret_end ?_
  refine s_take (A := Bun [J sr, hpz b Lz mm MM]) (by with_reducible (repeat (first | exact Take.here | apply Take.there))) ?_
  refine s_bun ?_
  try simp only [List.cons_append, List.nil_append]
  refine ret0 rfl ((sr, pr)) (by first | rfl | (first | rfl | (congr 1; done) | (congr 1 <;> first | rfl | omega | (simp; done) | (simp; omega)))) (by exact all_end (mr := 0) (Mr := Mr) hres) ?_
  (repeat ((with_reducible apply Takes.cons); focus (first | (with_reducible (repeat (first | exact Take.here | apply Take.there)); done) | (repeat (first | exact Take.here | apply Take.there))))); (repeat (first | exact Takes.nil | exact Takes.self | refine takes_drop2 ?_))
end Go.Ab.HpT
