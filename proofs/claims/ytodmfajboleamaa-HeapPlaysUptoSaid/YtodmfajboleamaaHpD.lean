/- Heaps of things: Drain, Merge, Sort, Least, All. -/
import Derived.Test.YtodmfajboleamaaHpS
import Derived.Test.YtodmfajboleamaaEngJ
set_option linter.unusedVariables false
set_option linter.unusedSimpArgs false
set_option maxRecDepth 100000
namespace Go.Ab.HpT
open Go Go.Proofs Go.Ab
variable {lt : Th → Th → Bool} {lk : FuncId} {fi ca : List Value}
theorem drain_spec (ao : Option Addr) : Spec Try.prog 44 [.pointer ao] [] (fun bx => .func (.func 50) #[] #[.pointer (some ⟨bx, 0, none⟩)]) (fun _ => True) (fun bx => [cells bx 0 [.pointer ao]]) := by
  refine spec_mk (n := 4) Try.func44 rfl rfl rfl ?_
  intro Γ w0
  simp only [argE, List.cons_append, List.nil_append, Nat.zero_add, Nat.reduceAdd]
  refine c_seq ?_
  refine c_plain ((.l 0 [] (.q 1 (.done)))) (by kernel_rfl) ?_
  refine l_box rfl rfl rfl rfl (us := [_]) rfl ?_
  intro bx
  refine ag_nil ?_
  refine q_assign rfl rfl rfl rfl ?_
  refine r_done ?_
  refine k_then_n ?_
  refine c_seq ?_
  refine c_plain (.q 0 (.q 1 (.done))) (by kernel_rfl) ?_
  refine q_func rfl rfl rfl rfl rfl ?_
  refine q_assign rfl rfl rfl rfl ?_
  refine r_done ?_
  refine k_then_n ?_
  refine c_ret ?_
  refine ret1 rfl rfl (bx) (by rfl) (by trivial) ?_
  (repeat (with_reducible apply Takes.cons; focus (with_reducible (repeat (first | exact Take.here | apply Take.there))))); (repeat (first | exact Takes.nil | exact Takes.self | refine takes_drop2 ?_))

theorem drain1_spec {σ : Type} (h : LessOk lt lk fi ca) (b o bx : Nat) (yf : Value) (JL : Option Code → HProp) (J : σ → HProp) (I : List (Th × Nat) → Nat → σ → Prop) (Fin : List (Th × Nat) → Nat → σ → Code → Prop) (μ : List (Th × Nat) → Nat → σ → Nat)
    (hI : ∀ l m s, I l m s → HInv lt l m ∧ l.length ≤ 4000000000000)
    (hy : ∀ l m s x l', I l m s → l[0]? = some x → (x :: l').Perm l → HInv lt l' m → CallF Try.prog yf [vT x.1] [JL none, J s, hp b o (lf lk fi ca) l' m] (fun (r : List (Th × Nat) × Nat × σ × Option Code) => .bool r.2.2.2.isNone)
      (fun r => (r.2.2.2 = none → I r.1 r.2.1 r.2.2.1 ∧ μ r.1 r.2.1 r.2.2.1 < μ l m s) ∧ (∀ c, r.2.2.2 = some c → Fin r.1 r.2.1 r.2.2.1 c)) (fun r => [JL r.2.2.2, J r.2.2.1, hp b o (lf lk fi ca) r.1 r.2.1]))
    (l0 : List (Th × Nat)) (m0 : Nat) (s0 : σ) (h0 : I l0 m0 s0) :
    Spec Try.prog 50 [yf, .pointer (some ⟨bx, 0, none⟩)] [JL none, J s0, hp b o (lf lk fi ca) l0 m0, cells bx 0 [.pointer (some ⟨b, o, none⟩)]] (fun (_ : List (Th × Nat) × Nat × σ × Option Code) => .tuple #[])
      (fun r => (r.1 = [] ∧ r.2.2.2 = none ∧ I r.1 r.2.1 r.2.2.1) ∨ ∃ c, r.2.2.2 = some c ∧ Fin r.1 r.2.1 r.2.2.1 c) (fun r => [JL r.2.2.2, J r.2.2.1, hp b o (lf lk fi ca) r.1 r.2.1, cells bx 0 [.pointer (some ⟨b, o, none⟩)]]) := by
  refine spec_mk (n := 18) Try.func50 rfl rfl rfl ?_
  intro Γ w0
  simp only [argE, List.cons_append, List.nil_append, Nat.zero_add, Nat.reduceAdd]
  refine c_block ?_
  refine c_loop2 (α := List (Th × Nat) × Nat × σ) (fun (x_ : List (Th × Nat) × Nat × σ) => match x_ with | (l, m, s) => I l m s) (fun (x_ : List (Th × Nat) × Nat × σ) => match x_ with | (l, m, s) => []) (fun (x_ : List (Th × Nat) × Nat × σ) => match x_ with | (l, m, s) => [JL none, J s, hp b o (lf lk fi ca) l m]) (fun (x_ : List (Th × Nat) × Nat × σ) => match x_ with | (l, m, s) => μ l m s) [0, 1] (er := [(0, _), (1, _)]) rfl ((l0, m0, s0)) ?_ (by exact trivial) (by (try simp only [Nat.add_zero, Nat.zero_add]); (repeat (with_reducible apply Takes.cons; focus (with_reducible (repeat (first | exact Take.here | apply Take.there))))); exact Takes.nil) ?_
  · exact h0
  rintro ⟨l, m, s⟩ hIs
  try simp only [List.cons_append, List.nil_append]
  obtain ⟨hL, hll⟩ := hI l m s hIs
  refine c_block ?_
  refine c_seq ?_
  refine c_plain (.q 0 ((.l 1 [] (.q 2 (.q 3 (.q 4 ((.l 5 [] ((.l 6 [] (.q 7 (.done)))))))))))) (by kernel_rfl) ?_
  refine q_load_c rfl rfl rfl rfl Try.isAgg23 (by with_reducible (repeat (first | exact Take.here | apply Take.there))) (by first | rfl | exact (Nat.add_zero _).symm) (by rfl) ?_
  refine l_call rfl rfl rfl rfl rfl rfl Try.call12 (pop_spec h _ _ l m hL hll) (by (repeat (with_reducible apply Takes.cons; focus (with_reducible (repeat (first | exact Take.here | apply Take.there))))); exact Takes.nil) ?_
  rintro l' ⟨hL', hp', hn'⟩
  try simp only [List.cons_append, List.nil_append]
  refine ag_nil ?_
  refine q_move rfl rfl rfl rfl ?_
  refine q_extract rfl rfl rfl rfl rfl ?_
  refine q_extract rfl rfl rfl rfl rfl ?_
  refine l_alloc rfl rfl rfl Try.zeroValue28 (zs := [.int .i64 0, .int .i64 0]) rfl ?_
  intro v3
  refine ag_nil ?_
  refine l_store rfl rfl rfl rfl Try.sizeOf28 (us := [_, _]) rfl rfl rfl (by with_reducible (repeat (first | exact Take.here | apply Take.there))) (by first | rfl | exact (Nat.add_zero _).symm) (by first | decide | (simp; done) | omega) ?_
  simp only [setL, List.set]
  refine ag_nil ?_
  refine q_assign rfl rfl rfl rfl ?_
  refine r_done ?_
  refine s_keep [0, 1, 3, 4] (e' := [(0, _), (1, _), (3, _), (4, _)]) rfl ?_
  refine k_then_n ?_
  refine c_seq ?_
  refine c_plain (.q 0 (.q 1 (.q 2 (.q 3 (.q 4 ((.l 5 [] (.q 6 (.q 7 (.done)))))))))) (by kernel_rfl) ?_
  refine q_move rfl rfl rfl rfl ?_
  refine q_not rfl rfl rfl rfl ?_
  refine q_move rfl rfl rfl rfl ?_
  refine s_bool 12 rfl (fun hk => ?_) (fun hk => ?_)
  · skip
    obtain rfl : l = [] := by
      cases l with
      | nil => rfl
      | cons a q => cases hk
    obtain rfl := hn' rfl
    refine q_skip rfl rfl rfl rfl ?_
    refine q_skip rfl rfl rfl rfl ?_
    refine l_skip rfl rfl rfl rfl ?_
    refine q_skip rfl rfl rfl rfl ?_
    first | refine q_pick_t rfl rfl rfl rfl rfl ?_ | refine q_pick_f rfl rfl rfl rfl rfl ?_
    refine r_done ?_
    refine s_keep [0, 1, 13, 14, 15, 16, 17] (e' := [(0, _), (1, _), (13, _), (14, _), (15, _), (16, _), (17, _)]) rfl ?_
    refine k_then_n ?_
    refine c_cond_t rfl ?_
    refine c_ret ?_
    refine k_blk_ret ?_
    refine k_then_ret ?_
    refine k_blk_ret ?_
    refine ret0 rfl (([], m, s, none)) (by rfl) (by exact .inl ⟨rfl, rfl, hIs⟩) ?_
    (repeat (with_reducible apply Takes.cons; focus (with_reducible (repeat (first | exact Take.here | apply Take.there))))); (repeat (first | exact Takes.nil | exact Takes.self | refine takes_drop2 ?_))
  · skip
    obtain ⟨x, hx⟩ : ∃ x, l[0]? = some x := by
      cases l with
      | nil => cases hk
      | cons a q => exact ⟨a, rfl⟩
    rw [pk_some hx]
    refine q_move rfl rfl rfl rfl ?_
    refine q_loadN_c rfl rfl rfl rfl Try.isAgg28 Try.sizeOf28 (by with_reducible (repeat (first | exact Take.here | apply Take.there))) 0 (us := [_, _]) (by first | rfl | exact (Nat.add_zero _).symm) rfl rfl ?_
    refine l_callF rfl rfl rfl rfl rfl (hy l m s x l' hIs hx (hp' x (head0 hx)) hL') (by (repeat (with_reducible apply Takes.cons; focus (with_reducible (repeat (first | exact Take.here | apply Take.there))))); exact Takes.nil) ?_
    rintro ⟨l2, m2, s2, p⟩ hr
    try simp only [List.cons_append, List.nil_append]
    refine ag_nil ?_
    refine q_not rfl rfl rfl rfl ?_
    first | refine q_pick_t rfl rfl rfl rfl rfl ?_ | refine q_pick_f rfl rfl rfl rfl rfl ?_
    refine r_done ?_
    refine s_keep [0, 1, 13, 14, 15, 16, 17] (e' := [(0, _), (1, _), (13, _), (14, _), (15, _), (16, _), (17, _)]) rfl ?_
    refine k_then_n ?_
    refine c_cond rfl (fun hq => ?_) (fun hq => ?_)
    · skip
      obtain ⟨c, rfl⟩ : ∃ c, p = some c := by
        cases p with
        | none => cases hq
        | some c => exact ⟨c, rfl⟩
      refine c_ret ?_
      refine k_blk_ret ?_
      refine k_then_ret ?_
      refine k_blk_ret ?_
      refine ret0 rfl ((l2, m2, s2, some c)) (by rfl) (by exact .inr ⟨c, rfl, hr.2 c rfl⟩) ?_
      (repeat (with_reducible apply Takes.cons; focus (with_reducible (repeat (first | exact Take.here | apply Take.there))))); (repeat (first | exact Takes.nil | exact Takes.self | refine takes_drop2 ?_))
    · skip
      obtain rfl : p = none := by
        cases p with
        | none => rfl
        | some c => cases hq
      refine c_skip ?_
      refine k_blk_n ?_
      refine k_then_n ?_
      refine loop_next (x := (l, m, s)) ((l2, m2, s2)) ?_ ?_ ?_ ?_
      · exact (hr.1 rfl).1
      · exact (hr.1 rfl).2
      · exact ⟨rfl, rfl, trivial⟩
      · (try simp only [List.cons_append, List.nil_append]); (repeat (with_reducible apply Takes.cons; focus (with_reducible (repeat (first | exact Take.here | apply Take.there))))); (repeat (first | exact Takes.nil | exact Takes.self | refine takes_drop2 ?_))

/-- Lists that lie somewhere: where, how much room, what. -/
abbrev Lst := Option Addr × Nat × List Th
def encS (x : Lst) : List Value := [.slice x.1 x.2.2.length x.2.1]
theorem encS_len : ∀ x, (encS x).length = 1 := fun _ => rfl
theorem encT_one : ∀ x, (encT x).all Value.oneCell' = true := fun _ => rfl
/-- All that the lists hold. -/
def cat (L : List Lst) : List Th := L.flatMap (·.2.2)
theorem cat_next {L : List Lst} {i : Nat} {x : Lst} (hx : L[i]? = some x) : cat (L.take (i + 1)) = cat (L.take i) ++ x.2.2 := by
  unfold cat
  rw [List.take_add_one, hx]; simp
theorem cat_le (L : List Lst) (i : Nat) : (cat (L.take i)).length ≤ (cat L).length := by
  unfold cat
  conv => rhs; rw [← List.take_append_drop i L, List.flatMap_append, List.length_append]
  omega
/-- A variable that holds a list of its own. -/
def ob (v : Nat) (s : Option Addr × Nat × List (Th × Nat)) : HProp := fun h => Sat [cells v 0 [.slice s.1 s.2.2.length s.2.1], own 2 encT s.1 s.2.1 (s.2.2.map (·.1))] h
/-- In order. -/
def Srt (lt : Th → Th → Bool) (all out : List (Th × Nat)) : Prop := out.Perm all ∧ out.Pairwise (fun a b => ltI lt a b = true)
structure MI (lt : Th → Th → Bool) (all : List (Th × Nat)) (M : Nat) (l : List (Th × Nat)) (m : Nat) (out : List (Th × Nat)) : Prop where
  inv : HInv lt l m
  made : m = M
  perm : (out ++ l).Perm all
  srt : out.Pairwise (fun a b => ltI lt a b = true)
  le : ∀ a ∈ out, ∀ b ∈ l, ltI lt a b = true
theorem ltI_of {lt : Th → Th → Bool} {x y : Th × Nat} (h : ltI lt y x = false) (hn : x.2 ≠ y.2) : ltI lt x y = true := by
  simp only [ltI, Bool.or_eq_false_iff, Bool.and_eq_false_iff, Bool.not_eq_false', decide_eq_false_iff_not] at h
  simp only [ltI, Bool.or_eq_true, Bool.and_eq_true, Bool.not_eq_true', decide_eq_true_eq]
  rcases h with ⟨h1, h2 | h2⟩
  · exact .inl h2
  · exact .inr ⟨h1, by omega⟩
theorem mi_next {lt : Th → Th → Bool} (o : OrdB lt) {all : List (Th × Nat)} {M m : Nat} {l l' out : List (Th × Nat)} {x : Th × Nat} (h : MI lt all M l m out) (hx : l[0]? = some x) (p : (x :: l').Perm l) (hL' : HInv lt l' m) : MI lt all M l' m (out ++ [x]) := by
  have hxm : x ∈ l := List.mem_of_getElem? hx
  refine ⟨hL', h.made, ?_, ?_, ?_⟩
  · rw [List.append_assoc]
    exact (List.Perm.append_left out p).trans h.perm
  · rw [List.pairwise_append]
    refine ⟨h.srt, List.pairwise_singleton _ _, fun a ha b hb => ?_⟩
    simp at hb; subst hb
    exact h.le a ha _ hxm
  · intro a ha b hb
    have hbl : b ∈ l := p.mem_iff.1 (List.mem_cons_of_mem _ hb)
    rcases List.mem_append.1 ha with ha | ha
    · exact h.le a ha b hbl
    · simp at ha; subst ha
      have hn := (p.map (·.2)).nodup_iff.2 h.inv.nodup
      exact ltI_of (hinv_least o h.inv (head0 hx) b hbl) (fun e => (List.nodup_cons.1 hn).1 (by show a.2 ∈ _; rw [e]; exact List.mem_map_of_mem hb))
section
variable {w0 : World} {ds : List Deferred} {n : Nat} {e : Env} {Γ : List HProp} {X : Act → World → Prop}
theorem ob_open {v : Nat} {s : Option Addr × Nat × List (Th × Nat)} (k : Le (St w0 ds n e (cells v 0 [.slice s.1 s.2.2.length s.2.1] :: own 2 encT s.1 s.2.1 (s.2.2.map (·.1)) :: Γ)) X) : Le (St w0 ds n e (ob v s :: Γ)) X :=
  s_heap (fun _ h => Bun.unfold h) k
theorem ob_fold {Γ' : List HProp} {v : Nat} {ao : Option Addr} {cap : Nat} {out : List (Th × Nat)} {m : Nat} {xs : List Th} (tk : Takes Γ [cells v 0 [.slice ao m cap], own 2 encT ao cap xs] Γ') (hm : m = out.length) (hx : xs = out.map (·.1)) (k : Le (St w0 ds n e (ob v (ao, cap, out) :: Γ')) X) : Le (St w0 ds n e Γ) X := by
  subst hm hx
  exact s_heap (fun _ h => Bun.fold (tk _ h)) k
end

theorem merge_spec (h : LessOk lt lk fi ca) (L : List Lst) (bo : Option Addr) (m c : Nat) (A B : HProp) (hr : RdS A bo (L.flatMap encS)) (hm : L.length = m) (hc : ∀ x ∈ L, RdS B x.1 (x.2.2.flatMap encT)) (hb : (cat L).length ≤ 4000000000000) (hb2 : m ≤ 4000000000000) :
    Spec Try.prog 28 [lf lk fi ca, .slice bo m c] [A, B] (fun (r : Option Addr × Nat × List (Th × Nat)) => .slice r.1 r.2.2.length r.2.1) (fun r => Srt lt ((cat L).zipIdx) r.2.2) (fun r => [A, B, own 2 encT r.1 r.2.1 (r.2.2.map (·.1))]) := by
  refine spec_mkM (n := 34) Try.func28 rfl rfl rfl ?_
  intro Γ w0
  simp only [argE, List.cons_append, List.nil_append, Nat.zero_add, Nat.reduceAdd]
  refine c_seq ?_
  refine c_plain (.q 0 (.done)) (by kernel_rfl) ?_
  refine q_assign rfl rfl rfl rfl ?_
  refine r_done ?_
  refine k_then_n ?_
  refine c_seq ?_
  refine c_plain (.q 0 ((.l 1 [] (.q 2 (.q 3 (.q 4 (.q 5 (.q 6 (.done))))))))) (by kernel_rfl) ?_
  refine q_move rfl rfl rfl rfl ?_
  refine l_call rfl rfl rfl rfl rfl rfl Try.call9 (new_spec) (by (repeat (with_reducible apply Takes.cons; focus (with_reducible (repeat (first | exact Take.here | apply Take.there))))); exact Takes.nil) ?_
  rintro b -
  try simp only [List.cons_append, List.nil_append]
  refine ag_nil ?_
  refine q_move rfl rfl rfl rfl ?_
  refine q_extract rfl rfl rfl rfl rfl ?_
  refine q_extract rfl rfl rfl rfl rfl ?_
  refine q_assign rfl rfl rfl rfl ?_
  refine q_assign rfl rfl rfl rfl ?_
  refine r_done ?_
  refine s_keep [1, 5] (e' := [(1, _), (5, _)]) rfl ?_
  refine k_then_n ?_
  refine c_seq ?_
  refine c_seq ?_
  refine c_plain (.q 0 (.q 1 (.q 2 (.done)))) (by kernel_rfl) ?_
  refine q_move rfl rfl rfl rfl ?_
  refine q_len rfl rfl rfl rfl Try.underlying56 ?_
  refine q_move rfl rfl rfl rfl ?_
  refine r_done ?_
  refine k_then_n ?_
  refine c_block ?_
  refine s_eq 18 rfl (v' := .int .i64 ((0 : Nat) : Int)) rfl ?_
  refine c_loop2 (α := Nat × List (Th × Nat) × Nat) (fun (x_ : Nat × List (Th × Nat) × Nat) => match x_ with | (i, l, k) => i ≤ m ∧ HInv lt l k ∧ l.Perm ((cat (L.take i)).zipIdx) ∧ k = (cat (L.take i)).length) (fun (x_ : Nat × List (Th × Nat) × Nat) => match x_ with | (i, l, k) => [(18, .int .i64 ((i : Nat) : Int))]) (fun (x_ : Nat × List (Th × Nat) × Nat) => match x_ with | (i, l, k) => [hp b 0 (lf lk fi ca) l k]) (fun (x_ : Nat × List (Th × Nat) × Nat) => match x_ with | (i, l, k) => m - i) [5, 16, 17] (er := [(5, _), (16, _), (17, _)]) rfl ((0, [], 0)) ?_ (by exact ⟨rfl, trivial⟩) (by (repeat (with_reducible apply Takes.cons; focus (with_reducible (repeat (first | exact Take.here | apply Take.there))))); exact Takes.nil) ?_
  · exact ⟨by omega, hinv0, List.Perm.refl _, rfl⟩
  rintro ⟨i, l, k⟩ ⟨hi, hL, hpm, hk⟩
  try simp only [List.cons_append, List.nil_append]
  have hlen := hpm.length_eq
  rw [List.length_zipIdx] at hlen
  refine c_seq ?_
  refine c_plain (.q 0 (.done)) (by kernel_rfl) ?_
  refine q_int rfl rfl rfl rfl rfl (b_lss _ _ _ _) ?_
  refine r_done ?_
  refine k_then_n ?_
  refine c_seq ?_
  refine c_cond_p rfl (fun hlt => ?_) (fun hlt => ?_)
  · skip
    obtain ⟨x, hx⟩ := get_lt (l := L) (i := i) (by omega)
    obtain ⟨vb, vo, rfl, hrn⟩ := rds_get hr encS_len hx
    have htk := cat_next hx
    have hle := cat_le L (i + 1)
    rw [htk, List.length_append] at hle
    refine c_skip ?_
    refine k_then_n ?_
    refine c_seq ?_
    refine c_block ?_
    refine c_seq ?_
    refine c_plain (.q 0 (.q 1 (.q 2 (.done)))) (by kernel_rfl) ?_
    refine q_idx1 rfl rfl rfl rfl rfl Try.underlying56 Try.sizeOf49 (k := i) (by first | rfl | omega) (by omega) (by exact ⟨_, _, rfl⟩) ?_
    intro ib1 io2 hx; cases hx
    refine q_load rfl rfl rfl rfl Try.isAgg49 (by with_reducible (repeat (first | exact Take.here | apply Take.there))) (rd_flat1 hrn encS_len hx rfl) ?_
    refine q_assign rfl rfl rfl rfl ?_
    refine r_done ?_
    refine k_then_n ?_
    refine c_plain (.q 0 (.q 1 ((.l 2 [] (.done))))) (by kernel_rfl) ?_
    refine q_move rfl rfl rfl rfl ?_
    refine q_move rfl rfl rfl rfl ?_
    refine l_call rfl rfl rfl rfl rfl rfl Try.call11 (push_spec h b 0 l _ x.2.2 x.1 x.2.2.length x.2.1 B (hc x (List.mem_of_getElem? hx)) rfl hL (by omega) (by omega)) (by (repeat (with_reducible apply Takes.cons; focus (with_reducible (repeat (first | exact Take.here | apply Take.there))))); exact Takes.nil) ?_
    rintro l2 ⟨hL2, hp2⟩
    try simp only [List.cons_append, List.nil_append]
    refine ag_nil ?_
    refine r_done ?_
    refine s_keep [5, 16, 17, 18] (e' := [(5, _), (16, _), (17, _), (18, _)]) rfl ?_
    refine k_blk_n ?_
    refine k_then_n ?_
    refine c_plain (.q 0 (.q 1 (.done))) (by kernel_rfl) ?_
    refine q_int rfl rfl rfl rfl rfl (b_add' _ (by (first | exact fits_i64 (by omega) (by omega) | exact fits_u64 (by omega) (by omega) | exact fits_u32 (by omega) (by omega) | exact fits_u8 (by omega) (by omega)))) ?_
    refine q_move rfl rfl rfl rfl ?_
    refine r_done ?_
    refine k_then_n ?_
    refine loop_next (x := (i, l, k)) ((i + 1, l2, k + x.2.2.length)) ?_ ?_ ?_ ?_
    · exact ⟨by omega, hL2, by rw [htk, List.zipIdx_append]; exact hp2.trans (List.Perm.append hpm (by rw [hk]; simp)), by rw [htk, List.length_append, hk]⟩
    · show _ < _; omega
    · exact ⟨rfl, rfl, rfl, rfl, trivial⟩
    · (try simp only [List.cons_append, List.nil_append]); (repeat (with_reducible apply Takes.cons; focus (with_reducible (repeat (first | exact Take.here | apply Take.there))))); (repeat (first | exact Takes.nil | exact Takes.self | refine takes_drop2 ?_))
  · skip
    obtain rfl : i = m := by omega
    rw [List.take_of_length_le (by omega)] at hpm hk
    subst hk
    refine c_exit ?_
    refine k_then_exit ?_
    refine k_then_exit ?_
    refine k_blk_here ?_
    refine k_then_n ?_
    refine c_seq ?_
    refine c_plain ((.l 0 [] (.done))) (by kernel_rfl) ?_
    refine l_alloc rfl rfl rfl Try.zeroValue49 (zs := [.slice none 0 0]) rfl ?_
    intro v9
    refine ag_nil ?_
    refine r_done ?_
    refine s_keep [5, 9] (e' := [(5, _), (9, _)]) rfl ?_
    refine k_then_n ?_
    refine c_seq ?_
    refine c_seq ?_
    refine c_plain (.q 0 ((.l 1 [] (.done)))) (by kernel_rfl) ?_
    refine q_move rfl rfl rfl rfl ?_
    refine l_call rfl rfl rfl rfl rfl rfl Try.call44 (drain_spec _) (by (repeat (with_reducible apply Takes.cons; focus (with_reducible (repeat (first | exact Take.here | apply Take.there))))); exact Takes.nil) ?_
    rintro bx -
    try simp only [List.cons_append, List.nil_append]
    refine ag_nil ?_
    refine r_done ?_
    refine k_then_n ?_
    refine c_block ?_
    refine s_heap (fun _ h => own_nil (sz := 2) (enc := encT) h) ?_
    refine ob_fold (v := v9) (ao := none) (cap := 0) (out := []) (by (repeat (with_reducible apply Takes.cons; focus (with_reducible (repeat (first | exact Take.here | apply Take.there))))); exact Takes.nil) (by rfl) (by rfl) ?_
    refine c_rangeF _ rfl Try.call50 (fun lp => drain1_spec h b 0 bx (yv lp) (LoopJ lp _ _ _ _ _) (ob v9) (fun l' m' s' => MI lt ((cat L).zipIdx) (cat L).length l' m' s'.2.2) (fun _ _ _ _ => False) (fun l' _ _ => l'.length) (fun l' m' s' hM => ⟨hM.inv, by have := hM.perm.length_eq; rw [List.length_append, List.length_zipIdx] at this; omega⟩) (fun l' m' s' x l2' hM hx hp2 hL2 => callF_yield rfl (by decide) (by decide) (fun Γ w0 => ?_)) l _ (none, 0, []) ⟨hL, rfl, hpm, List.Pairwise.nil, fun a ha => by cases ha⟩) (by (repeat (with_reducible apply Takes.cons; focus (with_reducible (repeat (first | exact Take.here | apply Take.there))))); exact Takes.nil) ?_
    · skip
      try simp only [zipE, List.cons_append, List.nil_append]
      have hlen2 := hM.perm.length_eq
      rw [List.length_append, List.length_zipIdx] at hlen2
      have hlen3 := hp2.length_eq
      rw [List.length_cons] at hlen3
      refine c_plain ((.l 0 [] ((.l 1 [] (.done))))) (by kernel_rfl) ?_
      refine l_alloc rfl rfl rfl Try.zeroValue28 (zs := [.int .i64 0, .int .i64 0]) rfl ?_
      intro v10
      refine ag_nil ?_
      refine l_store rfl rfl rfl rfl Try.sizeOf28 (us := [_, _]) rfl rfl rfl (by with_reducible (repeat (first | exact Take.here | apply Take.there))) (by first | rfl | exact (Nat.add_zero _).symm) (by first | decide | (simp; done) | omega) ?_
      simp only [setL, List.set]
      refine ag_nil ?_
      refine r_done ?_
      refine k_then_n ?_
      refine k_begin (by with_reducible (repeat (first | exact Take.here | apply Take.there))) ?_
      refine c_block ?_
      refine s_take (A := ob v9 s') (by with_reducible (repeat (first | exact Take.here | apply Take.there))) ?_
      refine ob_open ?_
      refine c_plain (.q 0 (.q 1 ((.l 2 [] ((.l 3 [] ((.l 4 [] (.done))))))))) (by kernel_rfl) ?_
      refine q_load_c rfl rfl rfl rfl Try.isAgg49 (by with_reducible (repeat (first | exact Take.here | apply Take.there))) (by first | rfl | exact (Nat.add_zero _).symm) (by rfl) ?_
      refine q_loadN_c rfl rfl rfl rfl Try.isAgg28 Try.sizeOf28 (by with_reducible (repeat (first | exact Take.here | apply Take.there))) 0 (us := [_, _]) (by first | rfl | exact (Nat.add_zero _).symm) rfl rfl ?_
      refine l_buildSlice rfl rfl rfl rfl (run_build1 (us := [_, _]) Try.underlying49 Try.sizeOf28 rfl Try.zeroValue28 rfl rfl rfl) ?_
      intro vb
      refine ag_nil ?_
      refine l_append (sz := 2) rfl rfl rfl rfl rfl Try.underlying49 Try.typeInfo28 rfl rfl rfl (by decide) (by with_reducible (repeat (first | exact Take.here | apply Take.there))) (by with_reducible (repeat (first | exact Take.here | apply Take.there))) (by simp) (ys := [x.1]) (rds_some rdn_cells) (by rfl) (by rfl) (encT_len) (encT_one) (by omega) (by show _ * 16 ≤ _; omega) ?_
      intro ao2 cap2
      refine ag_nil ?_
      refine l_store rfl rfl rfl rfl Try.sizeOf49 (us := [_]) rfl rfl rfl (by with_reducible (repeat (first | exact Take.here | apply Take.there))) (by first | rfl | exact (Nat.add_zero _).symm) (by first | decide | (simp; done) | omega) ?_
      simp only [setL, List.set]
      refine ag_nil ?_
      refine r_done ?_
      refine s_keep [] (e' := []) rfl ?_
      refine k_blk_n ?_
      refine ob_fold (v := v9) (ao := ao2) (cap := cap2) (out := s'.2.2 ++ [x]) (by (repeat (with_reducible apply Takes.cons; focus (with_reducible (repeat (first | exact Take.here | apply Take.there))))); exact Takes.nil) (by simp) (by simp) ?_
      refine rr_n ((l2', m', (ao2, cap2, s'.2.2 ++ [x]), none)) (by rfl) (by exact ⟨fun _ => ⟨mi_next h.ord hM hx hp2 hL2, by show l2'.length < l'.length; omega⟩, fun c hc => by cases hc⟩) (by with_reducible (repeat (first | exact Take.here | apply Take.there))) ?_
      (try simp only [List.cons_append, List.nil_append]); (repeat (with_reducible apply Takes.cons; focus (with_reducible (repeat (first | exact Take.here | apply Take.there))))); (repeat (first | exact Takes.nil | exact Takes.self | refine takes_drop2 ?_))
    rintro ⟨l3, m3, s3, p3⟩ (⟨h1, h2, h3⟩ | ⟨c, h1, h2⟩) blk8
    try simp only [List.cons_append, List.nil_append]
    · skip
      simp only at h1 h2 h3
      subst h1 h2
      show Le _ _
      try simp only [List.cons_append, List.nil_append]
      refine k_blk_n ?_
      refine k_then_n ?_
      refine c_seq ?_
      refine s_take (A := ob v9 s3) (by with_reducible (repeat (first | exact Take.here | apply Take.there))) ?_
      refine ob_open ?_
      refine c_plain (.q 0 (.q 1 (.done))) (by kernel_rfl) ?_
      refine q_load_c rfl rfl rfl rfl Try.isAgg49 (by with_reducible (repeat (first | exact Take.here | apply Take.there))) (by first | rfl | exact (Nat.add_zero _).symm) (by rfl) ?_
      refine q_assign rfl rfl rfl rfl ?_
      refine r_done ?_
      refine s_keep [4] (e' := [(4, _)]) rfl ?_
      refine k_then_n ?_
      refine c_ret ?_
      refine rm_ret ?_
      refine rm_mark (blk := blk8) (by with_reducible (repeat (first | exact Take.here | apply Take.there))) ?_
      refine rm_done (us := [_]) rfl ⟨rv_tmp rfl, trivial⟩ ((s3.1, s3.2.1, s3.2.2)) (by simp [tup]) (by exact ⟨by simpa using h3.perm, h3.srt⟩) ?_
      (repeat (with_reducible apply Takes.cons; focus (with_reducible (repeat (first | exact Take.here | apply Take.there))))); (repeat (first | exact Takes.nil | exact Takes.self | refine takes_drop2 ?_))
    · skip
      exact h2.elim
end Go.Ab.HpT
