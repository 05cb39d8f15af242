/- Heaps of things (package heap): what each of its functions does. -/
import Derived.Test.YtodmfajboleamaaHeapA
import Derived.Test.YtodmfajboleamaaEngI
import Derived.Test.YtodmfajboleamaaProg
set_option linter.unusedVariables false
set_option linter.unusedSimpArgs false
set_option maxRecDepth 100000
namespace Go.Ab.HpT
open Go Go.Proofs Go.Ab

abbrev Th := Int × Int
def vT (x : Th) : Value := .agg #[.int .i64 x.1, .int .i64 x.2]
def encT (x : Th) : List Value := [.int .i64 x.1, .int .i64 x.2]
def encI (x : Th × Nat) : List Value := [.int .i64 x.1.1, .int .i64 x.1.2, .int .u64 (x.2 : Int)]
theorem encT_len : ∀ x, (encT x).length = 2 := fun _ => rfl
theorem encI_len : ∀ x, (encI x).length = 3 := fun _ => rfl
theorem encI_one : ∀ x, (encI x).all Value.oneCell' = true := fun _ => rfl
/-- A heap at ⟨b, o⟩. -/
def hp (b o : Nat) (lf : Value) (its : List (Th × Nat)) (made : Nat) : HProp := fun h => ∃ ao cap, Sat [cells b o [lf, .slice ao its.length cap, .int .u64 (made : Int)], own 3 encI ao cap its] h
section
variable {w0 : World} {ds : List Deferred} {n : Nat} {e : Env} {Γ : List HProp} {X : Act → World → Prop}
theorem hp_open {b o : Nat} {lf : Value} {its : List (Th × Nat)} {made : Nat} (k : ∀ ao cap, Le (St w0 ds n e (cells b o [lf, .slice ao its.length cap, .int .u64 (made : Int)] :: own 3 encI ao cap its :: Γ)) X) : Le (St w0 ds n e (hp b o lf its made :: Γ)) X :=
  s_ex (A := fun ao h => ∃ cap, Sat [cells b o [lf, .slice ao its.length cap, .int .u64 (made : Int)], own 3 encI ao cap its] h) fun ao =>
    s_ex (A := fun cap h => Sat [cells b o [lf, .slice ao its.length cap, .int .u64 (made : Int)], own 3 encI ao cap its] h) fun cap => s_bun (k ao cap)
theorem hp_fold {Γ' : List HProp} {b o : Nat} {lf : Value} {its : List (Th × Nat)} {made : Nat} {ao : Option Addr} {m cap : Nat} (tk : Takes Γ [cells b o [lf, .slice ao m cap, .int .u64 (made : Int)], own 3 encI ao cap its] Γ') (hm : m = its.length)
    (k : Le (St w0 ds n e (hp b o lf its made :: Γ')) X) : Le (St w0 ds n e Γ) X := s_heap (fun h s => by
  subst hm
  obtain ⟨h1, l1, a1, s1⟩ := Bun.fold (tk h s)
  exact ⟨h1, l1, ⟨ao, cap, a1⟩, s1⟩) k
end
variable {lt : Th → Th → Bool} {lk : FuncId} {fi ca : List Value}
/-- The order: what a call of the function value tells. -/
structure LessOk (lt : Th → Th → Bool) (lk : FuncId) (fi ca : List Value) : Prop where
  spec : ∀ x y, Spec Try.prog lk (fi ++ [vT x, vT y] ++ ca) [] (fun (_ : Unit) => .bool (lt x y)) (fun _ => True) (fun _ => [])
  call : ∀ args w, (callFunc lk args).run Try.prog w = .ok (.enter lk args) w
  ord : OrdB lt
abbrev lf (lk : FuncId) (fi ca : List Value) : Value := .func (.func lk) fi.toArray ca.toArray
theorem none_spec (b o : Nat) (its : List (Th × Nat)) (made : Nat) : Spec Try.prog 33 [.pointer (some ⟨b, o, none⟩)] [hp b o (lf lk fi ca) its made] (fun (_ : Unit) => .bool false) (fun _ => True) (fun _ => [hp b o (lf lk fi ca) its made]) := by
  refine spec_mk (n := 12) Try.func33 rfl rfl rfl ?_
  intro Γ w0
  simp only [argE, List.cons_append, List.nil_append, Nat.zero_add, Nat.reduceAdd]
  refine hp_open fun ao cap => ?_
  refine c_seq ?_
  refine c_plain (.q 0 (.done)) (by kernel_rfl) ?_
  refine q_assign rfl rfl rfl rfl ?_
  refine r_done ?_
  refine k_then_n ?_
  refine c_seq ?_
  refine c_plain (.q 0 (.q 1 (.q 2 (.q 3 (.q 4 (.q 5 (.q 6 (.q 7 (.q 8 (.q 9 (.done))))))))))) (by kernel_rfl) ?_
  refine q_move rfl rfl rfl rfl ?_
  refine q_eq_nil rfl rfl rfl rfl Try.underlying23 ?_
  refine q_move rfl rfl rfl rfl ?_
  refine q_move rfl rfl rfl rfl ?_
  refine q_nil_p rfl rfl rfl rfl ?_
  refine q_field (k := 0) rfl rfl rfl rfl Try.underlying71 rfl Try.sizeOf29 rfl ?_
  refine q_load_c rfl rfl rfl rfl Try.isAgg29 (by with_reducible (repeat (first | exact Take.here | apply Take.there))) (by first | rfl | exact (Nat.add_zero _).symm) (by rfl) ?_
  refine q_eq_nilf rfl rfl rfl rfl Try.underlying29 ?_
  first | refine q_pick_t rfl rfl rfl rfl rfl ?_ | refine q_pick_f rfl rfl rfl rfl rfl ?_
  refine q_assign rfl rfl rfl rfl ?_
  refine r_done ?_
  refine s_keep [2] (e' := [(2, _)]) rfl ?_
  refine k_then_n ?_
  refine c_ret ?_
  refine hp_fold (b := b) (o := o) (lf := lf lk fi ca) (its := its) (made := made) (by (repeat (with_reducible apply Takes.cons; focus (with_reducible (repeat (first | exact Take.here | apply Take.there))))); exact Takes.nil) (by rfl) ?_
  refine ret1 rfl rfl (()) (by rfl) (by trivial) ?_
  (repeat (with_reducible apply Takes.cons; focus (with_reducible (repeat (first | exact Take.here | apply Take.there))))); (repeat (first | exact Takes.nil | exact Takes.self | refine takes_drop2 ?_))

theorem ahead_spec (h : LessOk lt lk fi ca) (b o i j : Nat) (its : List (Th × Nat)) (made : Nat) (x y : Th × Nat) (hi : its[i]? = some x) (hj : its[j]? = some y) : Spec Try.prog 34 [.pointer (some ⟨b, o, none⟩), .int .i64 (i : Int), .int .i64 (j : Int)] [hp b o (lf lk fi ca) its made] (fun (_ : Unit) => .bool (ltI lt x y)) (fun _ => True) (fun _ => [hp b o (lf lk fi ca) its made]) := by
  refine spec_mk (n := 51) Try.func34 rfl rfl rfl ?_
  intro Γ w0
  simp only [argE, List.cons_append, List.nil_append, Nat.zero_add, Nat.reduceAdd]
  refine hp_open fun ao cap => ?_
  refine own_some (by with_reducible (repeat (first | exact Take.here | apply Take.there))) hi fun ib io hao hil hcap => ?_
  have hjl : j < its.length := (List.getElem?_eq_some_iff.1 hj).1
  subst hao
  refine c_seq ?_
  refine c_plain (.q 0 (.done)) (by kernel_rfl) ?_
  refine q_assign rfl rfl rfl rfl ?_
  refine r_done ?_
  refine k_then_n ?_
  refine c_seq ?_
  refine c_draw rfl (.q 0 (.q 1 (.q 2 (.q 3 (.q 4 (.q 5 (.q 6 (.q 7 (.q 8 (.q 9 (.q 10 (.q 11 (.q 12 (.q 13 ((.alt (.l 14 [3, 6, 10, 13] ((.l 15 [3, 6, 10, 13] ((.l 16 [10, 13] ((.l 17 [] (.done)))))))) (.l 15 [3, 6, 10, 13] ((.l 14 [3, 6, 10, 13] ((.l 16 [10, 13] ((.l 17 [] (.done)))))))))))))))))))))))) (by kernel_rfl) ?_
  refine q_move rfl rfl rfl rfl ?_
  refine q_nil_p rfl rfl rfl rfl ?_
  refine q_field (k := 1) rfl rfl rfl rfl Try.underlying71 rfl Try.sizeOf68 rfl ?_
  refine q_load_c rfl rfl rfl rfl Try.isAgg68 (by with_reducible (repeat (first | exact Take.here | apply Take.there))) (by first | rfl | exact (Nat.add_zero _).symm) (by rfl) ?_
  refine q_move rfl rfl rfl rfl ?_
  refine q_idx rfl rfl rfl rfl rfl Try.underlying68 Try.sizeOf74 (k := i) (by first | rfl | omega) (by omega) (by exact ⟨_, _, rfl⟩) ?_
  intro ib1 io2 hx; cases hx
  refine q_loadN_o rfl rfl rfl rfl Try.isAgg74 Try.sizeOf74 (by with_reducible (repeat (first | exact Take.here | apply Take.there))) (encI_len) (by first | rfl | exact (Nat.add_zero _).symm) (by exact hi) (vs := [_, _, _]) (by rfl) ?_
  refine q_move rfl rfl rfl rfl ?_
  refine q_nil_p rfl rfl rfl rfl ?_
  refine q_field (k := 1) rfl rfl rfl rfl Try.underlying71 rfl Try.sizeOf68 rfl ?_
  refine q_load_c rfl rfl rfl rfl Try.isAgg68 (by with_reducible (repeat (first | exact Take.here | apply Take.there))) (by first | rfl | exact (Nat.add_zero _).symm) (by rfl) ?_
  refine q_move rfl rfl rfl rfl ?_
  refine q_idx rfl rfl rfl rfl rfl Try.underlying68 Try.sizeOf74 (k := j) (by first | rfl | omega) (by omega) (by exact ⟨_, _, rfl⟩) ?_
  intro ib3 io4 hx; cases hx
  refine q_loadN_o rfl rfl rfl rfl Try.isAgg74 Try.sizeOf74 (by with_reducible (repeat (first | exact Take.here | apply Take.there))) (encI_len) (by first | rfl | exact (Nat.add_zero _).symm) (by exact hj) (vs := [_, _, _]) (by rfl) ?_
  refine r_alt ?_ ?_
  · skip
    refine l_alloc rfl rfl rfl Try.zeroValue74 (zs := [.int .i64 0, .int .i64 0, .int .u64 0]) rfl ?_
    intro b7
    refine ag_load_c rfl rfl rfl Try.isAgg68 (by with_reducible (repeat (first | exact Take.here | apply Take.there))) (by first | rfl | exact (Nat.add_zero _).symm) (by rfl) ?_
    refine ag_loadN_o rfl rfl rfl Try.isAgg74 Try.sizeOf74 (by with_reducible (repeat (first | exact Take.here | apply Take.there))) (encI_len) (by first | rfl | exact (Nat.add_zero _).symm) (by exact hi) (vs := [_, _, _]) (by rfl) ?_
    refine ag_load_c rfl rfl rfl Try.isAgg68 (by with_reducible (repeat (first | exact Take.here | apply Take.there))) (by first | rfl | exact (Nat.add_zero _).symm) (by rfl) ?_
    refine ag_loadN_o rfl rfl rfl Try.isAgg74 Try.sizeOf74 (by with_reducible (repeat (first | exact Take.here | apply Take.there))) (encI_len) (by first | rfl | exact (Nat.add_zero _).symm) (by exact hj) (vs := [_, _, _]) (by rfl) ?_
    refine ag_nil ?_
    refine l_alloc rfl rfl rfl Try.zeroValue74 (zs := [.int .i64 0, .int .i64 0, .int .u64 0]) rfl ?_
    intro b8
    refine ag_load_c rfl rfl rfl Try.isAgg68 (by with_reducible (repeat (first | exact Take.here | apply Take.there))) (by first | rfl | exact (Nat.add_zero _).symm) (by rfl) ?_
    refine ag_loadN_o rfl rfl rfl Try.isAgg74 Try.sizeOf74 (by with_reducible (repeat (first | exact Take.here | apply Take.there))) (encI_len) (by first | rfl | exact (Nat.add_zero _).symm) (by exact hi) (vs := [_, _, _]) (by rfl) ?_
    refine ag_load_c rfl rfl rfl Try.isAgg68 (by with_reducible (repeat (first | exact Take.here | apply Take.there))) (by first | rfl | exact (Nat.add_zero _).symm) (by rfl) ?_
    refine ag_loadN_o rfl rfl rfl Try.isAgg74 Try.sizeOf74 (by with_reducible (repeat (first | exact Take.here | apply Take.there))) (encI_len) (by first | rfl | exact (Nat.add_zero _).symm) (by exact hj) (vs := [_, _, _]) (by rfl) ?_
    refine ag_nil ?_
    refine l_store rfl rfl rfl rfl Try.sizeOf74 (us := [_, _, _]) rfl rfl rfl (by with_reducible (repeat (first | exact Take.here | apply Take.there))) (by first | rfl | exact (Nat.add_zero _).symm) (by first | decide | (simp; done) | omega) ?_
    simp only [setL, List.set]
    refine ag_load_c rfl rfl rfl Try.isAgg68 (by with_reducible (repeat (first | exact Take.here | apply Take.there))) (by first | rfl | exact (Nat.add_zero _).symm) (by rfl) ?_
    refine ag_loadN_o rfl rfl rfl Try.isAgg74 Try.sizeOf74 (by with_reducible (repeat (first | exact Take.here | apply Take.there))) (encI_len) (by first | rfl | exact (Nat.add_zero _).symm) (by exact hj) (vs := [_, _, _]) (by rfl) ?_
    refine ag_nil ?_
    refine l_store rfl rfl rfl rfl Try.sizeOf74 (us := [_, _, _]) rfl rfl rfl (by with_reducible (repeat (first | exact Take.here | apply Take.there))) (by first | rfl | exact (Nat.add_zero _).symm) (by first | decide | (simp; done) | omega) ?_
    simp only [setL, List.set]
    refine ag_nil ?_
    refine r_done ?_
    refine s_keep [0, 7, 8] (e' := [(0, _), (7, _), (8, _)]) rfl ?_
    refine k_then_n ?_
    refine c_seq ?_
    refine c_draw rfl (.q 0 (.q 1 (.q 2 (.q 3 (.q 4 (.q 5 (.q 6 (.q 7 ((.l 8 [] (.q 9 (.q 10 (.q 11 (.q 12 (.q 13 (.q 14 (.q 15 (.q 16 (.q 17 ((.l 18 [] (.q 19 (.q 20 (.q 21 (.q 22 (.q 23 (.q 24 (.q 25 (.q 26 (.q 27 (.q 28 (.done)))))))))))))))))))))))))))))))) (by kernel_rfl) ?_
    refine rt_res 6 (.bool (ltI lt x y)) ?_ ?_
    · skip
      refine q_move rfl rfl rfl rfl ?_
      refine q_nil_p rfl rfl rfl rfl ?_
      refine q_field (k := 0) rfl rfl rfl rfl Try.underlying71 rfl Try.sizeOf29 rfl ?_
      refine q_load_c rfl rfl rfl rfl Try.isAgg29 (by with_reducible (repeat (first | exact Take.here | apply Take.there))) (by first | rfl | exact (Nat.add_zero _).symm) (by rfl) ?_
      refine q_field (k := 0) rfl rfl rfl rfl Try.underlying74 rfl Try.sizeOf28 rfl ?_
      refine q_loadN_c rfl rfl rfl rfl Try.isAgg28 Try.sizeOf28 (by with_reducible (repeat (first | exact Take.here | apply Take.there))) 0 (us := [_, _]) (by first | rfl | exact (Nat.add_zero _).symm) rfl rfl ?_
      refine q_field (k := 0) rfl rfl rfl rfl Try.underlying74 rfl Try.sizeOf28 rfl ?_
      refine q_loadN_c rfl rfl rfl rfl Try.isAgg28 Try.sizeOf28 (by with_reducible (repeat (first | exact Take.here | apply Take.there))) 0 (us := [_, _]) (by first | rfl | exact (Nat.add_zero _).symm) rfl rfl ?_
      have sp7 := h.spec x.1 y.1
      refine l_call rfl rfl rfl rfl rfl rfl h.call (sp7) (by (repeat (with_reducible apply Takes.cons; focus (with_reducible (repeat (first | exact Take.here | apply Take.there))))); exact Takes.nil) ?_
      rintro ⟨⟩ -
      try simp only [List.cons_append, List.nil_append]
      refine ag_nil ?_
      refine q_move rfl rfl rfl rfl ?_
      refine s_bool 32 rfl (fun g1 => ?_) (fun g1 => ?_)
      · skip
        refine q_skip rfl rfl rfl rfl ?_
        refine q_skip rfl rfl rfl rfl ?_
        refine q_skip rfl rfl rfl rfl ?_
        refine q_skip rfl rfl rfl rfl ?_
        refine q_skip rfl rfl rfl rfl ?_
        refine q_skip rfl rfl rfl rfl ?_
        refine q_skip rfl rfl rfl rfl ?_
        refine q_skip rfl rfl rfl rfl ?_
        refine l_skip rfl rfl rfl rfl ?_
        refine q_skip rfl rfl rfl rfl ?_
        refine q_skip rfl rfl rfl rfl ?_
        refine q_skip rfl rfl rfl rfl ?_
        refine q_skip rfl rfl rfl rfl ?_
        refine q_skip rfl rfl rfl rfl ?_
        refine q_skip rfl rfl rfl rfl ?_
        refine q_skip rfl rfl rfl rfl ?_
        refine q_skip rfl rfl rfl rfl ?_
        first | refine q_pick_t rfl rfl rfl rfl rfl ?_ | refine q_pick_f rfl rfl rfl rfl rfl ?_
        refine q_assign rfl rfl rfl rfl ?_
        refine r_done ?_
        refine s_eq 6 rfl (v' := .bool (ltI lt x y)) (by simp_all [ltI]) ?_
        refine le_st (by exact ⟨rfl, rfl, rfl, rfl, trivial⟩) ?_
        (repeat (with_reducible apply Takes.cons; focus (with_reducible (repeat (first | exact Take.here | apply Take.there))))); (repeat (first | exact Takes.nil | exact Takes.self | refine takes_drop2 ?_))
      · skip
        refine q_move rfl rfl rfl rfl ?_
        refine q_nil_p rfl rfl rfl rfl ?_
        refine q_field (k := 0) rfl rfl rfl rfl Try.underlying71 rfl Try.sizeOf29 rfl ?_
        refine q_load_c rfl rfl rfl rfl Try.isAgg29 (by with_reducible (repeat (first | exact Take.here | apply Take.there))) (by first | rfl | exact (Nat.add_zero _).symm) (by rfl) ?_
        refine q_field (k := 0) rfl rfl rfl rfl Try.underlying74 rfl Try.sizeOf28 rfl ?_
        refine q_loadN_c rfl rfl rfl rfl Try.isAgg28 Try.sizeOf28 (by with_reducible (repeat (first | exact Take.here | apply Take.there))) 0 (us := [_, _]) (by first | rfl | exact (Nat.add_zero _).symm) rfl rfl ?_
        refine q_field (k := 0) rfl rfl rfl rfl Try.underlying74 rfl Try.sizeOf28 rfl ?_
        refine q_loadN_c rfl rfl rfl rfl Try.isAgg28 Try.sizeOf28 (by with_reducible (repeat (first | exact Take.here | apply Take.there))) 0 (us := [_, _]) (by first | rfl | exact (Nat.add_zero _).symm) rfl rfl ?_
        have sp8 := h.spec y.1 x.1
        refine l_call rfl rfl rfl rfl rfl rfl h.call (sp8) (by (repeat (with_reducible apply Takes.cons; focus (with_reducible (repeat (first | exact Take.here | apply Take.there))))); exact Takes.nil) ?_
        rintro ⟨⟩ -
        try simp only [List.cons_append, List.nil_append]
        refine ag_nil ?_
        refine q_not rfl rfl rfl rfl ?_
        refine q_move rfl rfl rfl rfl ?_
        refine s_bool 43 rfl (fun g2 => ?_) (fun g2 => ?_)
        · skip
          refine q_field (k := 2) rfl rfl rfl rfl Try.underlying74 rfl Try.sizeOf69 rfl ?_
          refine q_load_c rfl rfl rfl rfl Try.isAgg69 (by with_reducible (repeat (first | exact Take.here | apply Take.there))) (by first | rfl | exact (Nat.add_zero _).symm) (by rfl) ?_
          refine q_field (k := 2) rfl rfl rfl rfl Try.underlying74 rfl Try.sizeOf69 rfl ?_
          refine q_load_c rfl rfl rfl rfl Try.isAgg69 (by with_reducible (repeat (first | exact Take.here | apply Take.there))) (by first | rfl | exact (Nat.add_zero _).symm) (by rfl) ?_
          refine q_int rfl rfl rfl rfl rfl (b_lss _ _ _ _) ?_
          first | refine q_pick_t rfl rfl rfl rfl rfl ?_ | refine q_pick_f rfl rfl rfl rfl rfl ?_
          first | refine q_pick_t rfl rfl rfl rfl rfl ?_ | refine q_pick_f rfl rfl rfl rfl rfl ?_
          refine q_assign rfl rfl rfl rfl ?_
          refine r_done ?_
          refine s_eq 6 rfl (v' := .bool (ltI lt x y)) (by simp_all [ltI]) ?_
          refine le_st (by exact ⟨rfl, rfl, rfl, rfl, trivial⟩) ?_
          (repeat (with_reducible apply Takes.cons; focus (with_reducible (repeat (first | exact Take.here | apply Take.there))))); (repeat (first | exact Takes.nil | exact Takes.self | refine takes_drop2 ?_))
        · skip
          refine q_skip rfl rfl rfl rfl ?_
          refine q_skip rfl rfl rfl rfl ?_
          refine q_skip rfl rfl rfl rfl ?_
          refine q_skip rfl rfl rfl rfl ?_
          refine q_skip rfl rfl rfl rfl ?_
          first | refine q_pick_t rfl rfl rfl rfl rfl ?_ | refine q_pick_f rfl rfl rfl rfl rfl ?_
          first | refine q_pick_t rfl rfl rfl rfl rfl ?_ | refine q_pick_f rfl rfl rfl rfl rfl ?_
          refine q_assign rfl rfl rfl rfl ?_
          refine r_done ?_
          refine s_eq 6 rfl (v' := .bool (ltI lt x y)) (by simp_all [ltI]) ?_
          refine le_st (by exact ⟨rfl, rfl, rfl, rfl, trivial⟩) ?_
          (repeat (with_reducible apply Takes.cons; focus (with_reducible (repeat (first | exact Take.here | apply Take.there))))); (repeat (first | exact Takes.nil | exact Takes.self | refine takes_drop2 ?_))
    refine k_then_n ?_
    refine c_ret ?_
    refine hp_fold (b := b) (o := o) (lf := lf lk fi ca) (its := its) (made := made) (by (repeat (with_reducible apply Takes.cons; focus (with_reducible (repeat (first | exact Take.here | apply Take.there))))); exact Takes.nil) (by rfl) ?_
    refine ret1 rfl rfl (()) (by rfl) (by trivial) ?_
    (repeat (with_reducible apply Takes.cons; focus (with_reducible (repeat (first | exact Take.here | apply Take.there))))); (repeat (first | exact Takes.nil | exact Takes.self | refine takes_drop2 ?_))
  refine l_alloc rfl rfl rfl Try.zeroValue74 (zs := [.int .i64 0, .int .i64 0, .int .u64 0]) rfl ?_
  intro b8
  refine ag_load_c rfl rfl rfl Try.isAgg68 (by with_reducible (repeat (first | exact Take.here | apply Take.there))) (by first | rfl | exact (Nat.add_zero _).symm) (by rfl) ?_
  refine ag_loadN_o rfl rfl rfl Try.isAgg74 Try.sizeOf74 (by with_reducible (repeat (first | exact Take.here | apply Take.there))) (encI_len) (by first | rfl | exact (Nat.add_zero _).symm) (by exact hi) (vs := [_, _, _]) (by rfl) ?_
  refine ag_load_c rfl rfl rfl Try.isAgg68 (by with_reducible (repeat (first | exact Take.here | apply Take.there))) (by first | rfl | exact (Nat.add_zero _).symm) (by rfl) ?_
  refine ag_loadN_o rfl rfl rfl Try.isAgg74 Try.sizeOf74 (by with_reducible (repeat (first | exact Take.here | apply Take.there))) (encI_len) (by first | rfl | exact (Nat.add_zero _).symm) (by exact hj) (vs := [_, _, _]) (by rfl) ?_
  refine ag_nil ?_
  refine l_alloc rfl rfl rfl Try.zeroValue74 (zs := [.int .i64 0, .int .i64 0, .int .u64 0]) rfl ?_
  intro b7
  refine ag_load_c rfl rfl rfl Try.isAgg68 (by with_reducible (repeat (first | exact Take.here | apply Take.there))) (by first | rfl | exact (Nat.add_zero _).symm) (by rfl) ?_
  refine ag_loadN_o rfl rfl rfl Try.isAgg74 Try.sizeOf74 (by with_reducible (repeat (first | exact Take.here | apply Take.there))) (encI_len) (by first | rfl | exact (Nat.add_zero _).symm) (by exact hi) (vs := [_, _, _]) (by rfl) ?_
  refine ag_load_c rfl rfl rfl Try.isAgg68 (by with_reducible (repeat (first | exact Take.here | apply Take.there))) (by first | rfl | exact (Nat.add_zero _).symm) (by rfl) ?_
  refine ag_loadN_o rfl rfl rfl Try.isAgg74 Try.sizeOf74 (by with_reducible (repeat (first | exact Take.here | apply Take.there))) (encI_len) (by first | rfl | exact (Nat.add_zero _).symm) (by exact hj) (vs := [_, _, _]) (by rfl) ?_
  refine ag_nil ?_
  refine l_store rfl rfl rfl rfl Try.sizeOf74 (us := [_, _, _]) rfl rfl rfl (by with_reducible (repeat (first | exact Take.here | apply Take.there))) (by first | rfl | exact (Nat.add_zero _).symm) (by first | decide | (simp; done) | omega) ?_
  simp only [setL, List.set]
  refine ag_load_c rfl rfl rfl Try.isAgg68 (by with_reducible (repeat (first | exact Take.here | apply Take.there))) (by first | rfl | exact (Nat.add_zero _).symm) (by rfl) ?_
  refine ag_loadN_o rfl rfl rfl Try.isAgg74 Try.sizeOf74 (by with_reducible (repeat (first | exact Take.here | apply Take.there))) (encI_len) (by first | rfl | exact (Nat.add_zero _).symm) (by exact hj) (vs := [_, _, _]) (by rfl) ?_
  refine ag_nil ?_
  refine l_store rfl rfl rfl rfl Try.sizeOf74 (us := [_, _, _]) rfl rfl rfl (by with_reducible (repeat (first | exact Take.here | apply Take.there))) (by first | rfl | exact (Nat.add_zero _).symm) (by first | decide | (simp; done) | omega) ?_
  simp only [setL, List.set]
  refine ag_nil ?_
  refine r_done ?_
  refine s_keep [0, 7, 8] (e' := [(0, _), (7, _), (8, _)]) rfl ?_
  refine k_then_n ?_
  refine c_seq ?_
  refine c_draw rfl (.q 0 (.q 1 (.q 2 (.q 3 (.q 4 (.q 5 (.q 6 (.q 7 ((.l 8 [] (.q 9 (.q 10 (.q 11 (.q 12 (.q 13 (.q 14 (.q 15 (.q 16 (.q 17 ((.l 18 [] (.q 19 (.q 20 (.q 21 (.q 22 (.q 23 (.q 24 (.q 25 (.q 26 (.q 27 (.q 28 (.done)))))))))))))))))))))))))))))))) (by kernel_rfl) ?_
  refine rt_res 6 (.bool (ltI lt x y)) ?_ ?_
  · skip
    refine q_move rfl rfl rfl rfl ?_
    refine q_nil_p rfl rfl rfl rfl ?_
    refine q_field (k := 0) rfl rfl rfl rfl Try.underlying71 rfl Try.sizeOf29 rfl ?_
    refine q_load_c rfl rfl rfl rfl Try.isAgg29 (by with_reducible (repeat (first | exact Take.here | apply Take.there))) (by first | rfl | exact (Nat.add_zero _).symm) (by rfl) ?_
    refine q_field (k := 0) rfl rfl rfl rfl Try.underlying74 rfl Try.sizeOf28 rfl ?_
    refine q_loadN_c rfl rfl rfl rfl Try.isAgg28 Try.sizeOf28 (by with_reducible (repeat (first | exact Take.here | apply Take.there))) 0 (us := [_, _]) (by first | rfl | exact (Nat.add_zero _).symm) rfl rfl ?_
    refine q_field (k := 0) rfl rfl rfl rfl Try.underlying74 rfl Try.sizeOf28 rfl ?_
    refine q_loadN_c rfl rfl rfl rfl Try.isAgg28 Try.sizeOf28 (by with_reducible (repeat (first | exact Take.here | apply Take.there))) 0 (us := [_, _]) (by first | rfl | exact (Nat.add_zero _).symm) rfl rfl ?_
    have sp11 := h.spec x.1 y.1
    refine l_call rfl rfl rfl rfl rfl rfl h.call (sp11) (by (repeat (with_reducible apply Takes.cons; focus (with_reducible (repeat (first | exact Take.here | apply Take.there))))); exact Takes.nil) ?_
    rintro ⟨⟩ -
    try simp only [List.cons_append, List.nil_append]
    refine ag_nil ?_
    refine q_move rfl rfl rfl rfl ?_
    refine s_bool 32 rfl (fun g1 => ?_) (fun g1 => ?_)
    · skip
      refine q_skip rfl rfl rfl rfl ?_
      refine q_skip rfl rfl rfl rfl ?_
      refine q_skip rfl rfl rfl rfl ?_
      refine q_skip rfl rfl rfl rfl ?_
      refine q_skip rfl rfl rfl rfl ?_
      refine q_skip rfl rfl rfl rfl ?_
      refine q_skip rfl rfl rfl rfl ?_
      refine q_skip rfl rfl rfl rfl ?_
      refine l_skip rfl rfl rfl rfl ?_
      refine q_skip rfl rfl rfl rfl ?_
      refine q_skip rfl rfl rfl rfl ?_
      refine q_skip rfl rfl rfl rfl ?_
      refine q_skip rfl rfl rfl rfl ?_
      refine q_skip rfl rfl rfl rfl ?_
      refine q_skip rfl rfl rfl rfl ?_
      refine q_skip rfl rfl rfl rfl ?_
      refine q_skip rfl rfl rfl rfl ?_
      first | refine q_pick_t rfl rfl rfl rfl rfl ?_ | refine q_pick_f rfl rfl rfl rfl rfl ?_
      refine q_assign rfl rfl rfl rfl ?_
      refine r_done ?_
      refine s_eq 6 rfl (v' := .bool (ltI lt x y)) (by simp_all [ltI]) ?_
      refine le_st (by exact ⟨rfl, rfl, rfl, rfl, trivial⟩) ?_
      (repeat (with_reducible apply Takes.cons; focus (with_reducible (repeat (first | exact Take.here | apply Take.there))))); (repeat (first | exact Takes.nil | exact Takes.self | refine takes_drop2 ?_))
    · skip
      refine q_move rfl rfl rfl rfl ?_
      refine q_nil_p rfl rfl rfl rfl ?_
      refine q_field (k := 0) rfl rfl rfl rfl Try.underlying71 rfl Try.sizeOf29 rfl ?_
      refine q_load_c rfl rfl rfl rfl Try.isAgg29 (by with_reducible (repeat (first | exact Take.here | apply Take.there))) (by first | rfl | exact (Nat.add_zero _).symm) (by rfl) ?_
      refine q_field (k := 0) rfl rfl rfl rfl Try.underlying74 rfl Try.sizeOf28 rfl ?_
      refine q_loadN_c rfl rfl rfl rfl Try.isAgg28 Try.sizeOf28 (by with_reducible (repeat (first | exact Take.here | apply Take.there))) 0 (us := [_, _]) (by first | rfl | exact (Nat.add_zero _).symm) rfl rfl ?_
      refine q_field (k := 0) rfl rfl rfl rfl Try.underlying74 rfl Try.sizeOf28 rfl ?_
      refine q_loadN_c rfl rfl rfl rfl Try.isAgg28 Try.sizeOf28 (by with_reducible (repeat (first | exact Take.here | apply Take.there))) 0 (us := [_, _]) (by first | rfl | exact (Nat.add_zero _).symm) rfl rfl ?_
      have sp12 := h.spec y.1 x.1
      refine l_call rfl rfl rfl rfl rfl rfl h.call (sp12) (by (repeat (with_reducible apply Takes.cons; focus (with_reducible (repeat (first | exact Take.here | apply Take.there))))); exact Takes.nil) ?_
      rintro ⟨⟩ -
      try simp only [List.cons_append, List.nil_append]
      refine ag_nil ?_
      refine q_not rfl rfl rfl rfl ?_
      refine q_move rfl rfl rfl rfl ?_
      refine s_bool 43 rfl (fun g2 => ?_) (fun g2 => ?_)
      · skip
        refine q_field (k := 2) rfl rfl rfl rfl Try.underlying74 rfl Try.sizeOf69 rfl ?_
        refine q_load_c rfl rfl rfl rfl Try.isAgg69 (by with_reducible (repeat (first | exact Take.here | apply Take.there))) (by first | rfl | exact (Nat.add_zero _).symm) (by rfl) ?_
        refine q_field (k := 2) rfl rfl rfl rfl Try.underlying74 rfl Try.sizeOf69 rfl ?_
        refine q_load_c rfl rfl rfl rfl Try.isAgg69 (by with_reducible (repeat (first | exact Take.here | apply Take.there))) (by first | rfl | exact (Nat.add_zero _).symm) (by rfl) ?_
        refine q_int rfl rfl rfl rfl rfl (b_lss _ _ _ _) ?_
        first | refine q_pick_t rfl rfl rfl rfl rfl ?_ | refine q_pick_f rfl rfl rfl rfl rfl ?_
        first | refine q_pick_t rfl rfl rfl rfl rfl ?_ | refine q_pick_f rfl rfl rfl rfl rfl ?_
        refine q_assign rfl rfl rfl rfl ?_
        refine r_done ?_
        refine s_eq 6 rfl (v' := .bool (ltI lt x y)) (by simp_all [ltI]) ?_
        refine le_st (by exact ⟨rfl, rfl, rfl, rfl, trivial⟩) ?_
        (repeat (with_reducible apply Takes.cons; focus (with_reducible (repeat (first | exact Take.here | apply Take.there))))); (repeat (first | exact Takes.nil | exact Takes.self | refine takes_drop2 ?_))
      · skip
        refine q_skip rfl rfl rfl rfl ?_
        refine q_skip rfl rfl rfl rfl ?_
        refine q_skip rfl rfl rfl rfl ?_
        refine q_skip rfl rfl rfl rfl ?_
        refine q_skip rfl rfl rfl rfl ?_
        first | refine q_pick_t rfl rfl rfl rfl rfl ?_ | refine q_pick_f rfl rfl rfl rfl rfl ?_
        first | refine q_pick_t rfl rfl rfl rfl rfl ?_ | refine q_pick_f rfl rfl rfl rfl rfl ?_
        refine q_assign rfl rfl rfl rfl ?_
        refine r_done ?_
        refine s_eq 6 rfl (v' := .bool (ltI lt x y)) (by simp_all [ltI]) ?_
        refine le_st (by exact ⟨rfl, rfl, rfl, rfl, trivial⟩) ?_
        (repeat (with_reducible apply Takes.cons; focus (with_reducible (repeat (first | exact Take.here | apply Take.there))))); (repeat (first | exact Takes.nil | exact Takes.self | refine takes_drop2 ?_))
  refine k_then_n ?_
  refine c_ret ?_
  refine hp_fold (b := b) (o := o) (lf := lf lk fi ca) (its := its) (made := made) (by (repeat (with_reducible apply Takes.cons; focus (with_reducible (repeat (first | exact Take.here | apply Take.there))))); exact Takes.nil) (by rfl) ?_
  refine ret1 rfl rfl (()) (by rfl) (by trivial) ?_
  (repeat (with_reducible apply Takes.cons; focus (with_reducible (repeat (first | exact Take.here | apply Take.there))))); (repeat (first | exact Takes.nil | exact Takes.self | refine takes_drop2 ?_))

theorem new_spec : Spec Try.prog 9 [lf lk fi ca] [] (fun b => .tuple #[.pointer (some ⟨b, 0, none⟩), .int .i64 0]) (fun _ => True) (fun b => [hp b 0 (lf lk fi ca) ([] : List (Th × Nat)) 0]) := by
  refine spec_mk (n := 9) Try.func9 rfl rfl rfl ?_
  intro Γ w0
  simp only [argE, List.cons_append, List.nil_append, Nat.zero_add, Nat.reduceAdd]
  refine c_seq ?_
  refine c_plain (.q 0 (.q 1 (.done))) (by kernel_rfl) ?_
  refine q_assign rfl rfl rfl rfl ?_
  refine q_assign rfl rfl rfl rfl ?_
  refine r_done ?_
  refine k_then_n ?_
  refine c_seq ?_
  refine c_seq ?_
  refine c_plain (.q 0 (.q 1 (.done))) (by kernel_rfl) ?_
  refine q_move rfl rfl rfl rfl ?_
  refine q_eq_nilf rfl rfl rfl rfl Try.underlying29 ?_
  refine r_done ?_
  refine k_then_n ?_
  refine c_cond_f rfl ?_
  refine c_skip ?_
  refine k_then_n ?_
  refine c_seq ?_
  refine c_plain (.q 0 (.q 1 ((.l 2 [] (.q 3 (.q 4 (.done))))))) (by kernel_rfl) ?_
  refine q_move rfl rfl rfl rfl ?_
  refine q_build rfl rfl rfl rfl (vs := [_, _, _]) (run_buildS Try.underlying71 Try.zeroValue71 (ps := [(0, 1), (1, 1), (2, 1)]) ⟨rfl, Try.sizeOf29, rfl, Try.sizeOf68, rfl, Try.sizeOf69, trivial⟩ rfl) ?_
  refine l_box rfl rfl rfl rfl (us := [_, _, _]) rfl ?_
  intro b
  refine ag_nil ?_
  refine q_assign rfl rfl rfl rfl ?_
  refine q_assign rfl rfl rfl rfl ?_
  refine r_done ?_
  refine s_keep [2, 3] (e' := [(2, _), (3, _)]) rfl ?_
  refine k_then_n ?_
  refine c_ret ?_
  refine s_heap (Γ' := cells b 0 [lf lk fi ca, .slice none 0 0, .int .u64 ((0 : Nat) : Int)] :: Γ) (fun _ h => h) ?_
  refine s_heap (fun _ h => own_nil (sz := 3) (enc := encI) h) ?_
  refine hp_fold (b := b) (o := 0) (lf := lf lk fi ca) (its := []) (made := 0) (by (repeat (with_reducible apply Takes.cons; focus (with_reducible (repeat (first | exact Take.here | apply Take.there))))); exact Takes.nil) (by rfl) ?_
  refine ret2 rfl rfl rfl (b) (by rfl) (by trivial) ?_
  (repeat (with_reducible apply Takes.cons; focus (with_reducible (repeat (first | exact Take.here | apply Take.there))))); (repeat (first | exact Takes.nil | exact Takes.self | refine takes_drop2 ?_))

theorem zip_take {τ : Type} {vs : List τ} {i made : Nat} {x : τ} (h : vs[i]? = some x) : (vs.take (i + 1)).zipIdx made = (vs.take i).zipIdx made ++ [(x, made + i)] := by
  have hi : i < vs.length := (List.getElem?_eq_some_iff.1 h).1
  rw [List.take_add_one, h, Option.toList_some, List.zipIdx_append, List.length_take, Nat.min_eq_left (Nat.le_of_lt hi)]
  simp
theorem swp1 {α : Type} {l : List α} {i j : Nat} {x y : α} (hi : l[i]? = some x) (hj : l[j]? = some y) (h : i ≠ j) : (l.set i y).set j x = swp l i j := (swp_eq hi hj).symm
theorem swp2 {α : Type} {l : List α} {i j : Nat} {x y : α} (hi : l[i]? = some x) (hj : l[j]? = some y) (h : i ≠ j) : (l.set j x).set i y = swp l i j := by
  rw [List.set_comm _ _ h.symm]; exact (swp_eq hi hj).symm
/-- After a sift up. -/
theorem hinv_push {lt : Th → Th → Bool} {its its' : List (Th × Nat)} {made : Nat} {x : Th} (h : HInv lt its made) (ho : HO (ltI lt) its') (p : its'.Perm (its ++ [(x, made)])) : HInv lt its' (made + 1) := by
  refine HInv.of_perm ho p ?_ ?_
  · intro y hy
    rcases List.mem_append.1 hy with hy | hy
    · have := h.below y hy; omega
    · simp at hy; subst hy; exact Nat.lt_succ_self _
  · rw [List.map_append, List.nodup_append]
    refine ⟨h.nodup, by simp, ?_⟩
    intro a ha b hb
    simp at hb
    obtain ⟨y, hy, rfl⟩ := List.mem_map.1 ha
    have := h.below y hy
    omega

theorem push_spec (h : LessOk lt lk fi ca) (b o : Nat) (its : List (Th × Nat)) (made : Nat) (vs : List Th) (bo : Option Addr) (m c : Nat) (A : HProp) (hr : RdS A bo (vs.flatMap encT)) (hm : vs.length = m) (hI : HInv lt its made) (hb : its.length + m ≤ 4000000000000) (hb2 : made + m ≤ 4000000000000) : Spec Try.prog 11 [.pointer (some ⟨b, o, none⟩), .slice bo m c] [hp b o (lf lk fi ca) its made, A] (fun (_ : List (Th × Nat)) => .int .i64 0) (fun l => HInv lt l (made + m) ∧ l.Perm (its ++ vs.zipIdx made)) (fun l => [hp b o (lf lk fi ca) l (made + m), A]) := by
  refine spec_mk (n := 88) Try.func11 rfl rfl rfl ?_
  intro Γ w0
  simp only [argE, List.cons_append, List.nil_append, Nat.zero_add, Nat.reduceAdd]
  refine c_seq ?_
  refine c_plain (.q 0 (.done)) (by kernel_rfl) ?_
  refine q_assign rfl rfl rfl rfl ?_
  refine r_done ?_
  refine k_then_n ?_
  refine c_seq ?_
  refine c_seq ?_
  refine c_plain (.q 0 ((.l 1 [] (.done)))) (by kernel_rfl) ?_
  refine q_move rfl rfl rfl rfl ?_
  refine l_call rfl rfl rfl rfl rfl rfl Try.call33 (none_spec _ _ _ _) (by (repeat (with_reducible apply Takes.cons; focus (with_reducible (repeat (first | exact Take.here | apply Take.there))))); exact Takes.nil) ?_
  rintro ⟨⟩ -
  try simp only [List.cons_append, List.nil_append]
  refine ag_nil ?_
  refine r_done ?_
  refine k_then_n ?_
  refine c_cond_f rfl ?_
  refine c_skip ?_
  refine k_then_n ?_
  refine c_seq ?_
  refine c_seq ?_
  refine c_plain (.q 0 (.q 1 (.q 2 (.done)))) (by kernel_rfl) ?_
  refine q_move rfl rfl rfl rfl ?_
  refine q_len rfl rfl rfl rfl Try.underlying49 ?_
  refine q_move rfl rfl rfl rfl ?_
  refine r_done ?_
  refine s_keep [0, 10, 11, 12] (e' := [(0, _), (10, _), (11, _), (12, _)]) rfl ?_
  refine k_then_n ?_
  refine c_block ?_
  refine s_eq 12 rfl (v' := .int .i64 ((0 : Nat) : Int)) rfl ?_
  refine c_loop2 (α := Nat × List (Th × Nat)) (fun (x_ : Nat × List (Th × Nat)) => match x_ with | (i, l) => i ≤ m ∧ HInv lt l (made + i) ∧ l.Perm (its ++ (vs.take i).zipIdx made)) (fun (x_ : Nat × List (Th × Nat)) => match x_ with | (i, l) => [(12, .int .i64 ((i : Nat) : Int))]) (fun (x_ : Nat × List (Th × Nat)) => match x_ with | (i, l) => [hp b o (lf lk fi ca) l (made + i)]) (fun (x_ : Nat × List (Th × Nat)) => match x_ with | (i, l) => m - i) [0, 10, 11] (er := [(0, _), (10, _), (11, _)]) rfl ((0, its)) ?_ (by exact ⟨rfl, trivial⟩) (by (try simp only [Nat.add_zero, Nat.zero_add]); (repeat (with_reducible apply Takes.cons; focus (with_reducible (repeat (first | exact Take.here | apply Take.there))))); exact Takes.nil) ?_
  · exact ⟨by omega, hI, by simp⟩
  rintro ⟨i, l⟩ ⟨hi, hL, hpm⟩
  try simp only [List.cons_append, List.nil_append]
  refine c_seq ?_
  refine c_plain (.q 0 (.done)) (by kernel_rfl) ?_
  refine q_int rfl rfl rfl rfl rfl (b_lss _ _ _ _) ?_
  refine r_done ?_
  refine k_then_n ?_
  refine c_seq ?_
  refine c_cond_p rfl (fun hlt => ?_) (fun hlt => ?_)
  · skip
    have hlt : i < m := by omega
    obtain ⟨x, hx⟩ := get_lt (l := vs) (i := i) (by omega)
    obtain ⟨vb, vo, rfl, hrn⟩ := rds_get hr encT_len hx
    have hll : l.length = its.length + i := by rw [hpm.length_eq, List.length_append, List.length_zipIdx, List.length_take]; omega
    refine c_skip ?_
    refine k_then_n ?_
    refine c_seq ?_
    refine c_block ?_
    refine c_seq ?_
    refine c_plain (.q 0 (.q 1 ((.l 2 [] ((.l 3 [] (.done))))))) (by kernel_rfl) ?_
    refine q_idx rfl rfl rfl rfl rfl Try.underlying49 Try.sizeOf28 (k := i) (by first | rfl | omega) (by omega) (by exact ⟨_, _, rfl⟩) ?_
    intro b1 o1 hx; cases hx
    refine q_loadN rfl rfl rfl rfl Try.isAgg28 Try.sizeOf28 (by with_reducible (repeat (first | exact Take.here | apply Take.there))) (rdn_sub hrn encT_len hx) rfl ?_
    refine l_alloc rfl rfl rfl Try.zeroValue28 (zs := [.int .i64 0, .int .i64 0]) rfl ?_
    intro vb6
    refine ag_nil ?_
    refine l_store rfl rfl rfl rfl Try.sizeOf28 (us := [_, _]) rfl rfl rfl (by with_reducible (repeat (first | exact Take.here | apply Take.there))) (by first | rfl | exact (Nat.add_zero _).symm) (by first | decide | (simp; done) | omega) ?_
    simp only [setL, List.set]
    refine ag_nil ?_
    refine r_done ?_
    refine k_then_n ?_
    refine c_seq ?_
    refine s_take (A := hp b o (lf lk fi ca) l (made + i)) (by with_reducible (repeat (first | exact Take.here | apply Take.there))) ?_
    refine hp_open fun ao cap => ?_
    refine c_draw rfl (.q 0 (.q 1 (.q 2 (.q 3 (.q 4 (.q 5 (.q 6 (.q 7 (.q 8 (.q 9 (.q 10 ((.l 11 [4] ((.l 12 [] (.q 13 (.q 14 ((.l 15 [] (.done)))))))))))))))))))) (by kernel_rfl) ?_
    refine q_move rfl rfl rfl rfl ?_
    refine q_move rfl rfl rfl rfl ?_
    refine q_nil_p rfl rfl rfl rfl ?_
    refine q_field (k := 1) rfl rfl rfl rfl Try.underlying71 rfl Try.sizeOf68 rfl ?_
    refine q_load_c rfl rfl rfl rfl Try.isAgg68 (by with_reducible (repeat (first | exact Take.here | apply Take.there))) (by first | rfl | exact (Nat.add_zero _).symm) (by rfl) ?_
    refine q_loadN_c rfl rfl rfl rfl Try.isAgg28 Try.sizeOf28 (by with_reducible (repeat (first | exact Take.here | apply Take.there))) 0 (us := [_, _]) (by first | rfl | exact (Nat.add_zero _).symm) rfl rfl ?_
    refine q_move rfl rfl rfl rfl ?_
    refine q_nil_p rfl rfl rfl rfl ?_
    refine q_field (k := 2) rfl rfl rfl rfl Try.underlying71 rfl Try.sizeOf69 rfl ?_
    refine q_load_c rfl rfl rfl rfl Try.isAgg69 (by with_reducible (repeat (first | exact Take.here | apply Take.there))) (by first | rfl | exact (Nat.add_zero _).symm) (by rfl) ?_
    refine q_build rfl rfl rfl rfl (vs := [_, _, _]) (run_buildS Try.underlying74 Try.zeroValue74 (ps := [(0, 2), (2, 1)]) ⟨rfl, Try.sizeOf28, rfl, Try.sizeOf69, trivial⟩ rfl) ?_
    refine l_buildSlice rfl rfl rfl rfl (run_build1 (us := [_, _, _]) Try.underlying68 Try.sizeOf74 rfl Try.zeroValue74 rfl rfl rfl) ?_
    intro vb7
    refine ag_load_c rfl rfl rfl Try.isAgg68 (by with_reducible (repeat (first | exact Take.here | apply Take.there))) (by first | rfl | exact (Nat.add_zero _).symm) (by rfl) ?_
    refine ag_nil ?_
    refine l_append (sz := 3) rfl rfl rfl rfl rfl Try.underlying68 Try.typeInfo74 rfl rfl rfl (by decide) (by with_reducible (repeat (first | exact Take.here | apply Take.there))) (by with_reducible (repeat (first | exact Take.here | apply Take.there))) (by rfl) (ys := [(x, made + i)]) (rds_some rdn_cells) (by rfl) (by rfl) (encI_len) (encI_one) (by omega) (by show _ * 24 ≤ _; omega) ?_
    intro ao2 cap2
    refine ag_nil ?_
    refine q_nil_p rfl rfl rfl rfl ?_
    refine q_field (k := 1) rfl rfl rfl rfl Try.underlying71 rfl Try.sizeOf68 rfl ?_
    refine l_store rfl rfl rfl rfl Try.sizeOf68 (us := [_]) rfl rfl rfl (by with_reducible (repeat (first | exact Take.here | apply Take.there))) (by first | rfl | exact (Nat.add_zero _).symm) (by first | decide | (simp; done) | omega) ?_
    simp only [setL, List.set]
    refine ag_nil ?_
    refine r_done ?_
    refine s_keep [0, 10, 11, 12] (e' := [(0, _), (10, _), (11, _), (12, _)]) rfl ?_
    refine k_then_n ?_
    refine c_seq ?_
    refine c_plain (.q 0 (.q 1 (.q 2 (.q 3 (.q 4 (.q 5 (.q 6 ((.l 7 [] (.done)))))))))) (by kernel_rfl) ?_
    refine q_move rfl rfl rfl rfl ?_
    refine q_nil_p rfl rfl rfl rfl ?_
    refine q_field (k := 2) rfl rfl rfl rfl Try.underlying71 rfl Try.sizeOf69 rfl ?_
    refine q_load_c rfl rfl rfl rfl Try.isAgg69 (by with_reducible (repeat (first | exact Take.here | apply Take.there))) (by first | rfl | exact (Nat.add_zero _).symm) (by rfl) ?_
    refine q_int rfl rfl rfl rfl rfl (b_add' _ (by (first | exact fits_i64 (by omega) (by omega) | exact fits_u64 (by omega) (by omega) | exact fits_u32 (by omega) (by omega) | exact fits_u8 (by omega) (by omega)))) ?_
    refine s_eq 35 rfl (v' := .int .u64 ((made + i + 1 : Nat) : Int)) (by congr 1) ?_
    refine q_nil_p rfl rfl rfl rfl ?_
    refine q_field (k := 2) rfl rfl rfl rfl Try.underlying71 rfl Try.sizeOf69 rfl ?_
    refine l_store rfl rfl rfl rfl Try.sizeOf69 (us := [_]) rfl rfl rfl (by with_reducible (repeat (first | exact Take.here | apply Take.there))) (by first | rfl | exact (Nat.add_zero _).symm) (by first | decide | (simp; done) | omega) ?_
    simp only [setL, List.set]
    refine ag_nil ?_
    refine r_done ?_
    refine s_keep [0, 10, 11, 12] (e' := [(0, _), (10, _), (11, _), (12, _)]) rfl ?_
    refine k_then_n ?_
    refine c_seq ?_
    refine c_plain (.q 0 (.q 1 (.q 2 (.q 3 (.q 4 (.q 5 (.q 6 (.done)))))))) (by kernel_rfl) ?_
    refine q_move rfl rfl rfl rfl ?_
    refine q_nil_p rfl rfl rfl rfl ?_
    refine q_field (k := 1) rfl rfl rfl rfl Try.underlying71 rfl Try.sizeOf68 rfl ?_
    refine q_load_c rfl rfl rfl rfl Try.isAgg68 (by with_reducible (repeat (first | exact Take.here | apply Take.there))) (by first | rfl | exact (Nat.add_zero _).symm) (by rfl) ?_
    refine q_len rfl rfl rfl rfl Try.underlying68 ?_
    refine q_int rfl rfl rfl rfl rfl (b_sub' _ (by (first | exact fits_i64 (by omega) (by omega) | exact fits_u64 (by omega) (by omega) | exact fits_u32 (by omega) (by omega) | exact fits_u8 (by omega) (by omega)))) ?_
    refine q_assign rfl rfl rfl rfl ?_
    refine r_done ?_
    refine s_keep [0, 7, 10, 11, 12] (e' := [(0, _), (7, _), (10, _), (11, _), (12, _)]) rfl ?_
    refine k_then_n ?_
    refine c_block ?_
    refine hp_fold (b := b) (o := o) (lf := lf lk fi ca) (its := (l ++ [(x, made + i)])) (made := (made + i + 1)) (by (repeat (with_reducible apply Takes.cons; focus (with_reducible (repeat (first | exact Take.here | apply Take.there))))); exact Takes.nil) (by simp) ?_
    refine s_eq 7 rfl (v' := .int .i64 ((l.length : Nat) : Int)) (by congr 1; omega) ?_
    refine c_loop2 (α := Nat × List (Th × Nat)) (fun (x_ : Nat × List (Th × Nat)) => match x_ with | (j, l2) => HOup (ltI lt) l2 j ∧ l2.Perm (l ++ [(x, made + i)]) ∧ j < l2.length) (fun (x_ : Nat × List (Th × Nat)) => match x_ with | (j, l2) => [(7, .int .i64 ((j : Nat) : Int))]) (fun (x_ : Nat × List (Th × Nat)) => match x_ with | (j, l2) => [hp b o (lf lk fi ca) l2 (made + i + 1)]) (fun (x_ : Nat × List (Th × Nat)) => match x_ with | (j, l2) => j) [0, 10, 11, 12] (er := [(0, _), (10, _), (11, _), (12, _)]) rfl ((l.length, l ++ [(x, made + i)])) ?_ (by exact ⟨rfl, trivial⟩) (by (try simp only [Nat.add_zero, Nat.zero_add]); (repeat (with_reducible apply Takes.cons; focus (with_reducible (repeat (first | exact Take.here | apply Take.there))))); exact Takes.nil) ?_
    · exact ⟨ho_up_start hL.ho, List.Perm.refl _, by simp⟩
    rintro ⟨j, l2⟩ ⟨hu, hp2, hj⟩
    try simp only [List.cons_append, List.nil_append]
    have hl2 := hp2.length_eq
    rw [List.length_append, List.length_singleton] at hl2
    refine c_seq ?_
    refine c_seq ?_
    refine c_plain (.q 0 (.q 1 (.q 2 (.q 3 (.q 4 (.q 5 (.q 6 (.q 7 ((.l 8 [] (.q 9 (.done)))))))))))) (by kernel_rfl) ?_
    refine q_move rfl rfl rfl rfl ?_
    refine q_int rfl rfl rfl rfl rfl (b_gtr _ _ _ _) ?_
    refine q_move rfl rfl rfl rfl ?_
    refine s_bool_p 46 rfl (fun hj0 => ?_) (fun hj0 => ?_)
    · skip
      obtain ⟨x1, hx1⟩ := get_lt (l := l2) (i := j) hj
      obtain ⟨y1, hy1⟩ := get_lt (l := l2) (i := (j - 1) / 2) (by omega)
      refine q_move rfl rfl rfl rfl ?_
      refine q_move rfl rfl rfl rfl ?_
      refine q_move rfl rfl rfl rfl ?_
      refine q_int rfl rfl rfl rfl rfl (b_sub' _ (by (first | exact fits_i64 (by omega) (by omega) | exact fits_u64 (by omega) (by omega) | exact fits_u32 (by omega) (by omega) | exact fits_u8 (by omega) (by omega)))) ?_
      refine q_int rfl rfl rfl rfl rfl (b_quo _ (by omega) (by omega) (by (first | exact fits_i64 (by omega) (by omega) | exact fits_u64 (by omega) (by omega) | exact fits_u32 (by omega) (by omega) | exact fits_u8 (by omega) (by omega)))) ?_
      refine s_eq 51 rfl (v' := .int .i64 (((j - 1) / 2 : Nat) : Int)) (by congr 1; omega) ?_
      refine l_call rfl rfl rfl rfl rfl rfl Try.call34 (ahead_spec h _ _ _ _ _ _ _ _ hx1 hy1) (by (repeat (with_reducible apply Takes.cons; focus (with_reducible (repeat (first | exact Take.here | apply Take.there))))); exact Takes.nil) ?_
      rintro ⟨⟩ -
      try simp only [List.cons_append, List.nil_append]
      refine ag_nil ?_
      first | refine q_pick_t rfl rfl rfl rfl rfl ?_ | refine q_pick_f rfl rfl rfl rfl rfl ?_
      refine r_done ?_
      refine k_then_n ?_
      refine c_cond rfl (fun hh => ?_) (fun hh => ?_)
      · skip
        refine c_skip ?_
        refine k_then_n ?_
        refine c_seq ?_
        refine c_block ?_
        refine s_take (A := hp b o (lf lk fi ca) l2 (made + i + 1)) (by with_reducible (repeat (first | exact Take.here | apply Take.there))) ?_
        refine hp_open fun ao cap => ?_
        refine own_some (by with_reducible (repeat (first | exact Take.here | apply Take.there))) hx1 fun ib io hao hil hcap => ?_
        subst hao
        refine c_draw rfl (.q 0 (.q 1 (.q 2 (.q 3 (.q 4 (.q 5 (.q 6 (.q 7 (.q 8 (.q 9 (.q 10 (.q 11 (.q 12 (.q 13 (.q 14 (.q 15 (.q 16 (.q 17 (.q 18 (.q 19 (.q 20 (.q 21 (.q 22 (.q 23 (.q 24 (.q 25 (.q 26 (.q 27 (.q 28 ((.l 29 [] (.q 30 ((.l 31 [] (.done))))))))))))))))))))))))))))))))))) (by kernel_rfl) ?_
        refine q_move rfl rfl rfl rfl ?_
        refine q_nil_p rfl rfl rfl rfl ?_
        refine q_field (k := 1) rfl rfl rfl rfl Try.underlying71 rfl Try.sizeOf68 rfl ?_
        refine q_load_c rfl rfl rfl rfl Try.isAgg68 (by with_reducible (repeat (first | exact Take.here | apply Take.there))) (by first | rfl | exact (Nat.add_zero _).symm) (by rfl) ?_
        refine q_move rfl rfl rfl rfl ?_
        refine q_move rfl rfl rfl rfl ?_
        refine q_nil_p rfl rfl rfl rfl ?_
        refine q_field (k := 1) rfl rfl rfl rfl Try.underlying71 rfl Try.sizeOf68 rfl ?_
        refine q_load_c rfl rfl rfl rfl Try.isAgg68 (by with_reducible (repeat (first | exact Take.here | apply Take.there))) (by first | rfl | exact (Nat.add_zero _).symm) (by rfl) ?_
        refine q_move rfl rfl rfl rfl ?_
        refine q_int rfl rfl rfl rfl rfl (b_sub' _ (by (first | exact fits_i64 (by omega) (by omega) | exact fits_u64 (by omega) (by omega) | exact fits_u32 (by omega) (by omega) | exact fits_u8 (by omega) (by omega)))) ?_
        refine q_int rfl rfl rfl rfl rfl (b_quo _ (by omega) (by omega) (by (first | exact fits_i64 (by omega) (by omega) | exact fits_u64 (by omega) (by omega) | exact fits_u32 (by omega) (by omega) | exact fits_u8 (by omega) (by omega)))) ?_
        refine q_move rfl rfl rfl rfl ?_
        refine q_nil_p rfl rfl rfl rfl ?_
        refine q_field (k := 1) rfl rfl rfl rfl Try.underlying71 rfl Try.sizeOf68 rfl ?_
        refine q_load_c rfl rfl rfl rfl Try.isAgg68 (by with_reducible (repeat (first | exact Take.here | apply Take.there))) (by first | rfl | exact (Nat.add_zero _).symm) (by rfl) ?_
        refine q_move rfl rfl rfl rfl ?_
        refine q_int rfl rfl rfl rfl rfl (b_sub' _ (by (first | exact fits_i64 (by omega) (by omega) | exact fits_u64 (by omega) (by omega) | exact fits_u32 (by omega) (by omega) | exact fits_u8 (by omega) (by omega)))) ?_
        refine q_int rfl rfl rfl rfl rfl (b_quo _ (by omega) (by omega) (by (first | exact fits_i64 (by omega) (by omega) | exact fits_u64 (by omega) (by omega) | exact fits_u32 (by omega) (by omega) | exact fits_u8 (by omega) (by omega)))) ?_
        refine q_idx rfl rfl rfl rfl rfl Try.underlying68 Try.sizeOf74 (k := (j - 1) / 2) (by first | rfl | omega) (by omega) (by exact ⟨_, _, rfl⟩) ?_
        intro ib5 io6 hx; cases hx
        refine q_loadN_o rfl rfl rfl rfl Try.isAgg74 Try.sizeOf74 (by with_reducible (repeat (first | exact Take.here | apply Take.there))) (encI_len) (by first | rfl | exact (Nat.add_zero _).symm) (by exact hy1) (vs := [_, _, _]) (by rfl) ?_
        refine q_move rfl rfl rfl rfl ?_
        refine q_nil_p rfl rfl rfl rfl ?_
        refine q_field (k := 1) rfl rfl rfl rfl Try.underlying71 rfl Try.sizeOf68 rfl ?_
        refine q_load_c rfl rfl rfl rfl Try.isAgg68 (by with_reducible (repeat (first | exact Take.here | apply Take.there))) (by first | rfl | exact (Nat.add_zero _).symm) (by rfl) ?_
        refine q_move rfl rfl rfl rfl ?_
        refine q_idx rfl rfl rfl rfl rfl Try.underlying68 Try.sizeOf74 (k := j) (by first | rfl | omega) (by omega) (by exact ⟨_, _, rfl⟩) ?_
        intro ib7 io8 hx; cases hx
        refine q_loadN_o rfl rfl rfl rfl Try.isAgg74 Try.sizeOf74 (by with_reducible (repeat (first | exact Take.here | apply Take.there))) (encI_len) (by first | rfl | exact (Nat.add_zero _).symm) (by exact hx1) (vs := [_, _, _]) (by rfl) ?_
        refine q_idx rfl rfl rfl rfl rfl Try.underlying68 Try.sizeOf74 (k := j) (by first | rfl | omega) (by omega) (by exact ⟨_, _, rfl⟩) ?_
        intro ib9 io10 hx; cases hx
        refine l_storeO rfl rfl rfl rfl Try.sizeOf74 (us := [_, _, _]) rfl rfl rfl (encI_len) (by with_reducible (repeat (first | exact Take.here | apply Take.there))) (j := 0) (by first | rfl | exact (Nat.add_zero _).symm) (by first | exact hx1 | (rw [List.getElem?_set_ne (by omega)]; exact hx1)) (by first | decide | exact Nat.le_of_ble_eq_true rfl) (q := y1) (by rfl) ?_
        refine ag_nil ?_
        refine q_idx rfl rfl rfl rfl rfl Try.underlying68 Try.sizeOf74 (k := (j - 1) / 2) (by first | rfl | omega) (by omega) (by exact ⟨_, _, rfl⟩) ?_
        intro ib11 io12 hx; cases hx
        refine l_storeO rfl rfl rfl rfl Try.sizeOf74 (us := [_, _, _]) rfl rfl rfl (encI_len) (by with_reducible (repeat (first | exact Take.here | apply Take.there))) (j := 0) (by first | rfl | exact (Nat.add_zero _).symm) (by first | exact hy1 | (rw [List.getElem?_set_ne (by omega)]; exact hy1)) (by first | decide | exact Nat.le_of_ble_eq_true rfl) (q := x1) (by rfl) ?_
        refine ag_nil ?_
        refine r_done ?_
        refine s_keep [0, 7, 10, 11, 12, 47, 48, 49, 50, 51, 52] (e' := [(0, _), (7, _), (10, _), (11, _), (12, _), (47, _), (48, _), (49, _), (50, _), (51, _), (52, _)]) rfl ?_
        refine k_blk_n ?_
        refine k_then_n ?_
        refine c_plain (.q 0 (.q 1 (.q 2 (.q 3 (.done))))) (by kernel_rfl) ?_
        refine q_move rfl rfl rfl rfl ?_
        refine q_int rfl rfl rfl rfl rfl (b_sub' _ (by (first | exact fits_i64 (by omega) (by omega) | exact fits_u64 (by omega) (by omega) | exact fits_u32 (by omega) (by omega) | exact fits_u8 (by omega) (by omega)))) ?_
        refine q_int rfl rfl rfl rfl rfl (b_quo _ (by omega) (by omega) (by (first | exact fits_i64 (by omega) (by omega) | exact fits_u64 (by omega) (by omega) | exact fits_u32 (by omega) (by omega) | exact fits_u8 (by omega) (by omega)))) ?_
        refine q_assign rfl rfl rfl rfl ?_
        refine r_done ?_
        refine k_then_n ?_
        refine s_eq 7 rfl (v' := .int .i64 (((j - 1) / 2 : Nat) : Int)) (by congr 1; omega) ?_
        simp only [swp1 hx1 hy1 (show j ≠ (j - 1) / 2 by omega), swp2 hx1 hy1 (show j ≠ (j - 1) / 2 by omega)]
        refine hp_fold (b := b) (o := o) (lf := lf lk fi ca) (its := (swp l2 j ((j - 1) / 2))) (made := (made + i + 1)) (by (repeat (with_reducible apply Takes.cons; focus (with_reducible (repeat (first | exact Take.here | apply Take.there))))); exact Takes.nil) (by rw [swp_len]) ?_
        refine loop_next (x := (j, l2)) (((j - 1) / 2, swp l2 j ((j - 1) / 2))) ?_ ?_ ?_ ?_
        · exact ⟨ho_up_next h.ord.item hu (by omega) hx1 hy1 hh, (swp_perm _ _ _).trans hp2, by rw [swp_len]; omega⟩
        · show _ < _; omega
        · exact ⟨rfl, rfl, rfl, rfl, rfl, trivial⟩
        · (try simp only [List.cons_append, List.nil_append]); (repeat (with_reducible apply Takes.cons; focus (with_reducible (repeat (first | exact Take.here | apply Take.there))))); (repeat (first | exact Takes.nil | exact Takes.self | refine takes_drop2 ?_))
      · skip
        have hd : j = 0 ∨ ∀ x y, l2[j]? = some x → l2[(j - 1) / 2]? = some y → ltI lt x y = false := .inr (fun p q h1 h2 => by rw [hx1] at h1; rw [hy1] at h2; cases h1; cases h2; exact hh)
        refine c_exit ?_
        refine k_then_exit ?_
        refine k_then_exit ?_
        refine k_blk_here ?_
        refine k_blk_n ?_
        refine k_then_n ?_
        refine c_plain (.q 0 (.q 1 (.done))) (by kernel_rfl) ?_
        refine q_int rfl rfl rfl rfl rfl (b_add' _ (by (first | exact fits_i64 (by omega) (by omega) | exact fits_u64 (by omega) (by omega) | exact fits_u32 (by omega) (by omega) | exact fits_u8 (by omega) (by omega)))) ?_
        refine q_move rfl rfl rfl rfl ?_
        refine r_done ?_
        refine s_keep [0, 10, 11, 12, 47, 48, 49, 50, 51, 52] (e' := [(0, _), (10, _), (11, _), (12, _), (47, _), (48, _), (49, _), (50, _), (51, _), (52, _)]) rfl ?_
        refine k_then_n ?_
        rw [show made + i + 1 = made + (i + 1) from rfl]
        refine loop_next (x := (i, l)) ((i + 1, l2)) ?_ ?_ ?_ ?_
        · exact ⟨by omega, hinv_push hL (ho_up_done hu hd) hp2, (hp2.trans ((List.perm_append_right_iff _).2 hpm)).trans (by rw [zip_take hx, List.append_assoc])⟩
        · show _ < _; omega
        · exact ⟨rfl, rfl, rfl, rfl, trivial⟩
        · (try simp only [List.cons_append, List.nil_append]); (repeat (with_reducible apply Takes.cons; focus (with_reducible (repeat (first | exact Take.here | apply Take.there))))); (repeat (first | exact Takes.nil | exact Takes.self | refine takes_drop2 ?_))
    · skip
      have hd : j = 0 ∨ ∀ x y, l2[j]? = some x → l2[(j - 1) / 2]? = some y → ltI lt x y = false := .inl (by omega)
      refine q_skip rfl rfl rfl rfl ?_
      refine q_skip rfl rfl rfl rfl ?_
      refine q_skip rfl rfl rfl rfl ?_
      refine q_skip rfl rfl rfl rfl ?_
      refine q_skip rfl rfl rfl rfl ?_
      refine l_skip rfl rfl rfl rfl ?_
      first | refine q_pick_t rfl rfl rfl rfl rfl ?_ | refine q_pick_f rfl rfl rfl rfl rfl ?_
      refine r_done ?_
      refine k_then_n ?_
      refine c_cond_f rfl ?_
      refine c_exit ?_
      refine k_then_exit ?_
      refine k_then_exit ?_
      refine k_blk_here ?_
      refine k_blk_n ?_
      refine k_then_n ?_
      refine c_plain (.q 0 (.q 1 (.done))) (by kernel_rfl) ?_
      refine q_int rfl rfl rfl rfl rfl (b_add' _ (by (first | exact fits_i64 (by omega) (by omega) | exact fits_u64 (by omega) (by omega) | exact fits_u32 (by omega) (by omega) | exact fits_u8 (by omega) (by omega)))) ?_
      refine q_move rfl rfl rfl rfl ?_
      refine r_done ?_
      refine s_keep [0, 10, 11, 12, 47, 48, 49, 50, 51, 52] (e' := [(0, _), (10, _), (11, _), (12, _), (47, _), (48, _), (49, _), (50, _), (51, _), (52, _)]) rfl ?_
      refine k_then_n ?_
      rw [show made + i + 1 = made + (i + 1) from rfl]
      refine loop_next (x := (i, l)) ((i + 1, l2)) ?_ ?_ ?_ ?_
      · exact ⟨by omega, hinv_push hL (ho_up_done hu hd) hp2, (hp2.trans ((List.perm_append_right_iff _).2 hpm)).trans (by rw [zip_take hx, List.append_assoc])⟩
      · show _ < _; omega
      · exact ⟨rfl, rfl, rfl, rfl, trivial⟩
      · (try simp only [List.cons_append, List.nil_append]); (repeat (with_reducible apply Takes.cons; focus (with_reducible (repeat (first | exact Take.here | apply Take.there))))); (repeat (first | exact Takes.nil | exact Takes.self | refine takes_drop2 ?_))
  · skip
    refine c_exit ?_
    refine k_then_exit ?_
    refine k_then_exit ?_
    refine k_blk_here ?_
    refine k_then_n ?_
    refine c_seq ?_
    refine c_plain (.q 0 (.done)) (by kernel_rfl) ?_
    refine q_assign rfl rfl rfl rfl ?_
    refine r_done ?_
    refine s_keep [4] (e' := [(4, _)]) rfl ?_
    refine k_then_n ?_
    refine c_ret ?_
    obtain rfl : i = m := by omega
    rw [List.take_of_length_le (by omega)] at hpm
    refine ret1 rfl rfl (l) (by rfl) (by exact ⟨hL, hpm⟩) ?_
    (repeat (with_reducible apply Takes.cons; focus (with_reducible (repeat (first | exact Take.here | apply Take.there))))); (repeat (first | exact Takes.nil | exact Takes.self | refine takes_drop2 ?_))

theorem sink_spec (h : LessOk lt lk fi ca) (b o : Nat) (its : List (Th × Nat)) (made : Nat) (hd : HOdn (ltI lt) its 0) (hb : its.length ≤ 4000000000000) : Spec Try.prog 36 [.pointer (some ⟨b, o, none⟩)] [hp b o (lf lk fi ca) its made] (fun (_ : List (Th × Nat)) => .tuple #[]) (fun l => HO (ltI lt) l ∧ l.Perm its) (fun l => [hp b o (lf lk fi ca) l made]) := by
  refine spec_mk (n := 60) Try.func36 rfl rfl rfl ?_
  intro Γ w0
  simp only [argE, List.cons_append, List.nil_append, Nat.zero_add, Nat.reduceAdd]
  refine c_seq ?_
  refine c_plain (.q 0 (.done)) (by kernel_rfl) ?_
  refine q_assign rfl rfl rfl rfl ?_
  refine r_done ?_
  refine k_then_n ?_
  refine c_block ?_
  refine s_eq 2 rfl (v' := .int .i64 ((0 : Nat) : Int)) rfl ?_
  refine c_loop2 (α := Nat × List (Th × Nat)) (fun (x_ : Nat × List (Th × Nat)) => match x_ with | (i, l) => HOdn (ltI lt) l i ∧ l.Perm its ∧ i ≤ l.length) (fun (x_ : Nat × List (Th × Nat)) => match x_ with | (i, l) => [(2, .int .i64 ((i : Nat) : Int))]) (fun (x_ : Nat × List (Th × Nat)) => match x_ with | (i, l) => [hp b o (lf lk fi ca) l made]) (fun (x_ : Nat × List (Th × Nat)) => match x_ with | (i, l) => l.length - i) [0] (er := [(0, _)]) rfl ((0, its)) ?_ (by exact ⟨rfl, trivial⟩) (by (try simp only [Nat.add_zero, Nat.zero_add]); (repeat (with_reducible apply Takes.cons; focus (with_reducible (repeat (first | exact Take.here | apply Take.there))))); exact Takes.nil) ?_
  · exact ⟨hd, List.Perm.refl _, Nat.zero_le _⟩
  rintro ⟨i, l⟩ ⟨hu, hpm, hi⟩
  try simp only [List.cons_append, List.nil_append]
  have hll := hpm.length_eq
  refine c_block ?_
  refine c_seq ?_
  refine c_plain (.q 0 (.q 1 (.done))) (by kernel_rfl) ?_
  refine q_move rfl rfl rfl rfl ?_
  refine q_assign rfl rfl rfl rfl ?_
  refine r_done ?_
  refine k_then_n ?_
  refine c_seq ?_
  refine c_seq ?_
  refine c_plain (.q 0 (.q 1 (.q 2 (.q 3 (.done))))) (by kernel_rfl) ?_
  refine q_move rfl rfl rfl rfl ?_
  refine q_int rfl rfl rfl rfl rfl (b_mul' _ (by (first | exact fits_i64 (by omega) (by omega) | exact fits_u64 (by omega) (by omega) | exact fits_u32 (by omega) (by omega) | exact fits_u8 (by omega) (by omega)))) ?_
  refine q_int rfl rfl rfl rfl rfl (b_add' _ (by (first | exact fits_i64 (by omega) (by omega) | exact fits_u64 (by omega) (by omega) | exact fits_u32 (by omega) (by omega) | exact fits_u8 (by omega) (by omega)))) ?_
  refine q_assign rfl rfl rfl rfl ?_
  refine r_done ?_
  refine s_keep [0, 2, 3, 4] (e' := [(0, _), (2, _), (3, _), (4, _)]) rfl ?_
  refine k_then_n ?_
  refine c_block ?_
  refine s_eq 4 rfl (v' := .int .i64 ((2 * i + 1 : Nat) : Int)) (by congr 1) ?_
  refine c_loop2 (α := Nat × Nat) (fun (x_ : Nat × Nat) => match x_ with | (j, k) => Best (ltI lt) l i j k ∧ 2 * i + 1 ≤ j ∧ j ≤ 2 * i + 3) (fun (x_ : Nat × Nat) => match x_ with | (j, k) => [(3, .int .i64 ((k : Nat) : Int)), (4, .int .i64 ((j : Nat) : Int))]) (fun (x_ : Nat × Nat) => match x_ with | (j, k) => [hp b o (lf lk fi ca) l made]) (fun (x_ : Nat × Nat) => match x_ with | (j, k) => 2 * i + 3 - j) [0, 2] (er := [(0, _), (2, _)]) rfl ((2 * i + 1, i)) ?_ (by exact ⟨rfl, rfl, trivial⟩) (by (try simp only [Nat.add_zero, Nat.zero_add]); (repeat (with_reducible apply Takes.cons; focus (with_reducible (repeat (first | exact Take.here | apply Take.there))))); exact Takes.nil) ?_
  · exact ⟨best_start h.ord.item l i, by omega, by omega⟩
  rintro ⟨j, k⟩ ⟨hbst, hj1, hj2⟩
  try simp only [List.cons_append, List.nil_append]
  refine c_seq ?_
  refine c_seq ?_
  refine s_take (A := hp b o (lf lk fi ca) l made) (by with_reducible (repeat (first | exact Take.here | apply Take.there))) ?_
  refine hp_open fun ao cap => ?_
  refine c_plain (.q 0 (.q 1 (.q 2 (.q 3 (.q 4 (.q 5 (.q 6 (.q 7 (.q 8 (.q 9 (.q 10 (.q 11 (.q 12 (.q 13 (.done))))))))))))))) (by kernel_rfl) ?_
  refine rt_res 22 (.bool (decide (j ≤ 2 * i + 2 ∧ j < l.length))) ?_ ?_
  · skip
    refine q_move rfl rfl rfl rfl ?_
    refine q_move rfl rfl rfl rfl ?_
    refine q_int rfl rfl rfl rfl rfl (b_mul' _ (by (first | exact fits_i64 (by omega) (by omega) | exact fits_u64 (by omega) (by omega) | exact fits_u32 (by omega) (by omega) | exact fits_u8 (by omega) (by omega)))) ?_
    refine q_int rfl rfl rfl rfl rfl (b_add' _ (by (first | exact fits_i64 (by omega) (by omega) | exact fits_u64 (by omega) (by omega) | exact fits_u32 (by omega) (by omega) | exact fits_u8 (by omega) (by omega)))) ?_
    refine q_int rfl rfl rfl rfl rfl (b_leq _ _ _ _) ?_
    refine q_move rfl rfl rfl rfl ?_
    refine s_bool_p 14 rfl (fun hj3 => ?_) (fun hj3 => ?_)
    · skip
      refine q_move rfl rfl rfl rfl ?_
      refine q_move rfl rfl rfl rfl ?_
      refine q_nil_p rfl rfl rfl rfl ?_
      refine q_field (k := 1) rfl rfl rfl rfl Try.underlying71 rfl Try.sizeOf68 rfl ?_
      refine q_load_c rfl rfl rfl rfl Try.isAgg68 (by with_reducible (repeat (first | exact Take.here | apply Take.there))) (by first | rfl | exact (Nat.add_zero _).symm) (by rfl) ?_
      refine q_len rfl rfl rfl rfl Try.underlying68 ?_
      refine q_int rfl rfl rfl rfl rfl (b_lss _ _ _ _) ?_
      first | refine q_pick_t rfl rfl rfl rfl rfl ?_ | refine q_pick_f rfl rfl rfl rfl rfl ?_
      refine r_done ?_
      refine s_eq 22 rfl (v' := .bool (decide (j ≤ 2 * i + 2 ∧ j < l.length))) (by congr 1; first | (simp only [decide_eq_decide]; omega) | (symm; simp only [decide_eq_false_iff_not]; omega) | (symm; simp only [decide_eq_true_eq]; omega)) ?_
      refine le_st (by exact ⟨rfl, rfl, rfl, rfl, rfl, trivial⟩) ?_
      (repeat (with_reducible apply Takes.cons; focus (with_reducible (repeat (first | exact Take.here | apply Take.there))))); (repeat (first | exact Takes.nil | exact Takes.self | refine takes_drop2 ?_))
    · skip
      refine q_skip rfl rfl rfl rfl ?_
      refine q_skip rfl rfl rfl rfl ?_
      refine q_skip rfl rfl rfl rfl ?_
      refine q_skip rfl rfl rfl rfl ?_
      refine q_skip rfl rfl rfl rfl ?_
      refine q_skip rfl rfl rfl rfl ?_
      refine q_skip rfl rfl rfl rfl ?_
      first | refine q_pick_t rfl rfl rfl rfl rfl ?_ | refine q_pick_f rfl rfl rfl rfl rfl ?_
      refine r_done ?_
      refine s_eq 22 rfl (v' := .bool (decide (j ≤ 2 * i + 2 ∧ j < l.length))) (by congr 1; first | (simp only [decide_eq_decide]; omega) | (symm; simp only [decide_eq_false_iff_not]; omega) | (symm; simp only [decide_eq_true_eq]; omega)) ?_
      refine le_st (by exact ⟨rfl, rfl, rfl, rfl, rfl, trivial⟩) ?_
      (repeat (with_reducible apply Takes.cons; focus (with_reducible (repeat (first | exact Take.here | apply Take.there))))); (repeat (first | exact Takes.nil | exact Takes.self | refine takes_drop2 ?_))
  refine hp_fold (b := b) (o := o) (lf := lf lk fi ca) (its := l) (made := made) (by (repeat (with_reducible apply Takes.cons; focus (with_reducible (repeat (first | exact Take.here | apply Take.there))))); exact Takes.nil) (by rfl) ?_
  refine k_then_n ?_
  refine c_cond_p rfl (fun hc => ?_) (fun hc => ?_)
  · skip
    obtain ⟨xj, hxj⟩ := get_lt (l := l) (i := j) hc.2
    obtain ⟨xk, hxk⟩ := get_lt (l := l) (i := k) (by rcases hbst.at_ with h1 | h1 <;> omega)
    refine c_skip ?_
    refine k_then_n ?_
    refine c_seq ?_
    refine c_block ?_
    refine c_seq ?_
    refine c_plain (.q 0 (.q 1 (.q 2 ((.l 3 [] (.done)))))) (by kernel_rfl) ?_
    refine q_move rfl rfl rfl rfl ?_
    refine q_move rfl rfl rfl rfl ?_
    refine q_move rfl rfl rfl rfl ?_
    refine l_call rfl rfl rfl rfl rfl rfl Try.call34 (ahead_spec h _ _ _ _ _ _ _ _ hxj hxk) (by (repeat (with_reducible apply Takes.cons; focus (with_reducible (repeat (first | exact Take.here | apply Take.there))))); exact Takes.nil) ?_
    rintro ⟨⟩ -
    try simp only [List.cons_append, List.nil_append]
    refine ag_nil ?_
    refine r_done ?_
    refine s_keep [0, 2, 3, 4, 28] (e' := [(0, _), (2, _), (3, _), (4, _), (28, _)]) rfl ?_
    refine k_then_n ?_
    refine c_cond rfl (fun hh => ?_) (fun hh => ?_)
    · skip
      refine c_plain (.q 0 (.q 1 (.done))) (by kernel_rfl) ?_
      refine q_move rfl rfl rfl rfl ?_
      refine q_assign rfl rfl rfl rfl ?_
      refine r_done ?_
      refine k_blk_n ?_
      refine k_then_n ?_
      refine c_plain (.q 0 (.q 1 (.q 2 (.done)))) (by kernel_rfl) ?_
      refine q_move rfl rfl rfl rfl ?_
      refine q_int rfl rfl rfl rfl rfl (b_add' _ (by (first | exact fits_i64 (by omega) (by omega) | exact fits_u64 (by omega) (by omega) | exact fits_u32 (by omega) (by omega) | exact fits_u8 (by omega) (by omega)))) ?_
      refine q_assign rfl rfl rfl rfl ?_
      refine r_done ?_
      refine s_keep [0, 2, 3, 4] (e' := [(0, _), (2, _), (3, _), (4, _)]) rfl ?_
      refine k_then_n ?_
      refine loop_next (x := (j, k)) ((j + 1, j)) ?_ ?_ ?_ ?_
      · exact ⟨best_t h.ord.item hbst hxj hxk hj1 hc.1 hh, by omega, by omega⟩
      · show _ < _; omega
      · exact ⟨rfl, rfl, rfl, rfl, trivial⟩
      · (try simp only [List.cons_append, List.nil_append]); (repeat (with_reducible apply Takes.cons; focus (with_reducible (repeat (first | exact Take.here | apply Take.there))))); (repeat (first | exact Takes.nil | exact Takes.self | refine takes_drop2 ?_))
    · skip
      refine c_skip ?_
      refine k_blk_n ?_
      refine k_then_n ?_
      refine c_plain (.q 0 (.q 1 (.q 2 (.done)))) (by kernel_rfl) ?_
      refine q_move rfl rfl rfl rfl ?_
      refine q_int rfl rfl rfl rfl rfl (b_add' _ (by (first | exact fits_i64 (by omega) (by omega) | exact fits_u64 (by omega) (by omega) | exact fits_u32 (by omega) (by omega) | exact fits_u8 (by omega) (by omega)))) ?_
      refine q_assign rfl rfl rfl rfl ?_
      refine r_done ?_
      refine k_then_n ?_
      refine loop_next (x := (j, k)) ((j + 1, k)) ?_ ?_ ?_ ?_
      · exact ⟨best_f hbst hxj hxk hh, by omega, by omega⟩
      · show _ < _; omega
      · exact ⟨rfl, rfl, rfl, rfl, trivial⟩
      · (try simp only [List.cons_append, List.nil_append]); (repeat (with_reducible apply Takes.cons; focus (with_reducible (repeat (first | exact Take.here | apply Take.there))))); (repeat (first | exact Takes.nil | exact Takes.self | refine takes_drop2 ?_))
  · skip
    refine c_exit ?_
    refine k_then_exit ?_
    refine k_then_exit ?_
    refine k_blk_here ?_
    refine k_then_n ?_
    refine c_seq ?_
    refine c_seq ?_
    refine c_plain (.q 0 (.q 1 (.q 2 (.done)))) (by kernel_rfl) ?_
    refine q_move rfl rfl rfl rfl ?_
    refine q_move rfl rfl rfl rfl ?_
    refine q_int rfl rfl rfl rfl rfl (b_eql _ _ _ _) ?_
    refine r_done ?_
    refine s_keep [0, 2, 3, 32] (e' := [(0, _), (2, _), (3, _), (32, _)]) rfl ?_
    refine k_then_n ?_
    refine c_cond_p rfl (fun hki => ?_) (fun hki => ?_)
    · skip
      obtain rfl : k = i := by omega
      refine c_ret ?_
      refine k_then_ret ?_
      refine k_blk_ret ?_
      refine k_then_ret ?_
      refine k_blk_ret ?_
      refine ret0 rfl (l) (by rfl) (by exact ⟨best_done hbst (by omega) hu, hpm⟩) ?_
      (repeat (with_reducible apply Takes.cons; focus (with_reducible (repeat (first | exact Take.here | apply Take.there))))); (repeat (first | exact Takes.nil | exact Takes.self | refine takes_drop2 ?_))
    · skip
      have hki : k ≠ i := by omega
      have hkl : k < l.length ∧ i < k := by rcases hbst.at_ with h1 | h1 <;> omega
      obtain ⟨x1, hx1⟩ := get_lt (l := l) (i := i) (by omega)
      obtain ⟨y1, hy1⟩ := get_lt (l := l) (i := k) hkl.1
      refine c_skip ?_
      refine k_then_n ?_
      refine c_seq ?_
      refine s_take (A := hp b o (lf lk fi ca) l made) (by with_reducible (repeat (first | exact Take.here | apply Take.there))) ?_
      refine hp_open fun ao cap => ?_
      refine own_some (by with_reducible (repeat (first | exact Take.here | apply Take.there))) hx1 fun ib io hao hil hcap => ?_
      subst hao
      refine c_draw rfl (.q 0 (.q 1 (.q 2 (.q 3 (.q 4 (.q 5 (.q 6 (.q 7 (.q 8 (.q 9 (.q 10 (.q 11 (.q 12 (.q 13 (.q 14 (.q 15 (.q 16 (.q 17 (.q 18 (.q 19 (.q 20 (.q 21 (.q 22 (.q 23 (.q 24 ((.l 25 [] (.q 26 ((.l 27 [] (.done))))))))))))))))))))))))))))))) (by kernel_rfl) ?_
      refine q_move rfl rfl rfl rfl ?_
      refine q_nil_p rfl rfl rfl rfl ?_
      refine q_field (k := 1) rfl rfl rfl rfl Try.underlying71 rfl Try.sizeOf68 rfl ?_
      refine q_load_c rfl rfl rfl rfl Try.isAgg68 (by with_reducible (repeat (first | exact Take.here | apply Take.there))) (by first | rfl | exact (Nat.add_zero _).symm) (by rfl) ?_
      refine q_move rfl rfl rfl rfl ?_
      refine q_move rfl rfl rfl rfl ?_
      refine q_nil_p rfl rfl rfl rfl ?_
      refine q_field (k := 1) rfl rfl rfl rfl Try.underlying71 rfl Try.sizeOf68 rfl ?_
      refine q_load_c rfl rfl rfl rfl Try.isAgg68 (by with_reducible (repeat (first | exact Take.here | apply Take.there))) (by first | rfl | exact (Nat.add_zero _).symm) (by rfl) ?_
      refine q_move rfl rfl rfl rfl ?_
      refine q_move rfl rfl rfl rfl ?_
      refine q_nil_p rfl rfl rfl rfl ?_
      refine q_field (k := 1) rfl rfl rfl rfl Try.underlying71 rfl Try.sizeOf68 rfl ?_
      refine q_load_c rfl rfl rfl rfl Try.isAgg68 (by with_reducible (repeat (first | exact Take.here | apply Take.there))) (by first | rfl | exact (Nat.add_zero _).symm) (by rfl) ?_
      refine q_move rfl rfl rfl rfl ?_
      refine q_idx rfl rfl rfl rfl rfl Try.underlying68 Try.sizeOf74 (k := k) (by first | rfl | omega) (by omega) (by exact ⟨_, _, rfl⟩) ?_
      intro ib1 io2 hx; cases hx
      refine q_loadN_o rfl rfl rfl rfl Try.isAgg74 Try.sizeOf74 (by with_reducible (repeat (first | exact Take.here | apply Take.there))) (encI_len) (by first | rfl | exact (Nat.add_zero _).symm) (by exact hy1) (vs := [_, _, _]) (by rfl) ?_
      refine q_move rfl rfl rfl rfl ?_
      refine q_nil_p rfl rfl rfl rfl ?_
      refine q_field (k := 1) rfl rfl rfl rfl Try.underlying71 rfl Try.sizeOf68 rfl ?_
      refine q_load_c rfl rfl rfl rfl Try.isAgg68 (by with_reducible (repeat (first | exact Take.here | apply Take.there))) (by first | rfl | exact (Nat.add_zero _).symm) (by rfl) ?_
      refine q_move rfl rfl rfl rfl ?_
      refine q_idx rfl rfl rfl rfl rfl Try.underlying68 Try.sizeOf74 (k := i) (by first | rfl | omega) (by omega) (by exact ⟨_, _, rfl⟩) ?_
      intro ib3 io4 hx; cases hx
      refine q_loadN_o rfl rfl rfl rfl Try.isAgg74 Try.sizeOf74 (by with_reducible (repeat (first | exact Take.here | apply Take.there))) (encI_len) (by first | rfl | exact (Nat.add_zero _).symm) (by exact hx1) (vs := [_, _, _]) (by rfl) ?_
      refine q_idx rfl rfl rfl rfl rfl Try.underlying68 Try.sizeOf74 (k := i) (by first | rfl | omega) (by omega) (by exact ⟨_, _, rfl⟩) ?_
      intro ib5 io6 hx; cases hx
      refine l_storeO rfl rfl rfl rfl Try.sizeOf74 (us := [_, _, _]) rfl rfl rfl (encI_len) (by with_reducible (repeat (first | exact Take.here | apply Take.there))) (j := 0) (by first | rfl | exact (Nat.add_zero _).symm) (by first | exact hx1 | (rw [List.getElem?_set_ne (by omega)]; exact hx1)) (by first | decide | exact Nat.le_of_ble_eq_true rfl) (q := y1) (by rfl) ?_
      refine ag_nil ?_
      refine q_idx rfl rfl rfl rfl rfl Try.underlying68 Try.sizeOf74 (k := k) (by first | rfl | omega) (by omega) (by exact ⟨_, _, rfl⟩) ?_
      intro ib7 io8 hx; cases hx
      refine l_storeO rfl rfl rfl rfl Try.sizeOf74 (us := [_, _, _]) rfl rfl rfl (encI_len) (by with_reducible (repeat (first | exact Take.here | apply Take.there))) (j := 0) (by first | rfl | exact (Nat.add_zero _).symm) (by first | exact hy1 | (rw [List.getElem?_set_ne (by omega)]; exact hy1)) (by first | decide | exact Nat.le_of_ble_eq_true rfl) (q := x1) (by rfl) ?_
      refine ag_nil ?_
      refine r_done ?_
      refine s_keep [0, 3] (e' := [(0, _), (3, _)]) rfl ?_
      refine k_then_n ?_
      refine c_plain (.q 0 (.q 1 (.done))) (by kernel_rfl) ?_
      refine q_move rfl rfl rfl rfl ?_
      refine q_assign rfl rfl rfl rfl ?_
      refine r_done ?_
      refine k_blk_n ?_
      refine k_then_n ?_
      simp only [swp1 hx1 hy1 (show i ≠ k by omega), swp2 hx1 hy1 (show i ≠ k by omega)]
      refine hp_fold (b := b) (o := o) (lf := lf lk fi ca) (its := (swp l i k)) (made := made) (by (repeat (with_reducible apply Takes.cons; focus (with_reducible (repeat (first | exact Take.here | apply Take.there))))); exact Takes.nil) (by rw [swp_len]) ?_
      refine loop_next (x := (i, l)) ((k, swp l i k)) ?_ ?_ ?_ ?_
      · exact ⟨best_next h.ord.item hbst (by omega) hu hki hx1 hy1, (swp_perm _ _ _).trans hpm, by rw [swp_len]; omega⟩
      · show (swp l i k).length - k < l.length - i; rw [swp_len]; omega
      · exact ⟨rfl, rfl, trivial⟩
      · (try simp only [List.cons_append, List.nil_append]); (repeat (with_reducible apply Takes.cons; focus (with_reducible (repeat (first | exact Take.here | apply Take.there))))); (repeat (first | exact Takes.nil | exact Takes.self | refine takes_drop2 ?_))

/-- What Peek tells. -/
def pk (its : List (Th × Nat)) : Th × Bool := match its.head? with
  | some x => (x.1, true)
  | none => ((0, 0), false)
theorem pk_nil : pk [] = ((0, 0), false) := rfl
theorem pk_some {its : List (Th × Nat)} {x : Th × Nat} (h : its[0]? = some x) : pk its = (x.1, true) := by
  cases its with
  | nil => simp at h
  | cons a l => simp at h; subst h; rfl

theorem peek_spec (b o : Nat) (its : List (Th × Nat)) (made : Nat) : Spec Try.prog 35 [.pointer (some ⟨b, o, none⟩)] [hp b o (lf lk fi ca) its made] (fun (_ : Unit) => .tuple #[vT (pk its).1, .bool (pk its).2]) (fun _ => True) (fun _ => [hp b o (lf lk fi ca) its made]) := by
  refine spec_mk (n := 22) Try.func35 rfl rfl rfl ?_
  intro Γ w0
  simp only [argE, List.cons_append, List.nil_append, Nat.zero_add, Nat.reduceAdd]
  refine c_seq ?_
  refine c_plain ((.l 0 [] (.q 1 (.done)))) (by kernel_rfl) ?_
  refine l_alloc rfl rfl rfl Try.zeroValue28 (zs := [.int .i64 0, .int .i64 0]) rfl ?_
  intro vb2
  refine ag_nil ?_
  refine q_assign rfl rfl rfl rfl ?_
  refine r_done ?_
  refine k_then_n ?_
  refine c_seq ?_
  refine c_seq ?_
  refine c_plain (.q 0 ((.l 1 [] (.q 2 (.q 3 (.q 4 (.q 5 (.q 6 (.q 7 (.q 8 (.q 9 (.done)))))))))))) (by kernel_rfl) ?_
  refine q_move rfl rfl rfl rfl ?_
  refine l_call rfl rfl rfl rfl rfl rfl Try.call33 (none_spec _ _ _ _) (by (repeat (with_reducible apply Takes.cons; focus (with_reducible (repeat (first | exact Take.here | apply Take.there))))); exact Takes.nil) ?_
  rintro ⟨⟩ -
  try simp only [List.cons_append, List.nil_append]
  refine ag_nil ?_
  refine q_move rfl rfl rfl rfl ?_
  refine s_take (A := hp b o (lf lk fi ca) its made) (by with_reducible (repeat (first | exact Take.here | apply Take.there))) ?_
  refine hp_open fun ao cap => ?_
  refine q_move rfl rfl rfl rfl ?_
  refine q_nil_p rfl rfl rfl rfl ?_
  refine q_field (k := 1) rfl rfl rfl rfl Try.underlying71 rfl Try.sizeOf68 rfl ?_
  refine q_load_c rfl rfl rfl rfl Try.isAgg68 (by with_reducible (repeat (first | exact Take.here | apply Take.there))) (by first | rfl | exact (Nat.add_zero _).symm) (by rfl) ?_
  refine q_len rfl rfl rfl rfl Try.underlying68 ?_
  refine q_int rfl rfl rfl rfl rfl (b_eql _ _ _ _) ?_
  first | refine q_pick_t rfl rfl rfl rfl rfl ?_ | refine q_pick_f rfl rfl rfl rfl rfl ?_
  refine r_done ?_
  refine s_keep [0, 2, 13] (e' := [(0, _), (2, _), (13, _)]) rfl ?_
  refine k_then_n ?_
  refine c_cond_p rfl (fun he => ?_) (fun he => ?_)
  · skip
    obtain rfl : its = [] := List.eq_nil_of_length_eq_zero (by omega)
    refine c_seq ?_
    refine c_plain (.q 0 ((.l 1 [] (.q 2 (.done))))) (by kernel_rfl) ?_
    refine q_loadN_c rfl rfl rfl rfl Try.isAgg28 Try.sizeOf28 (by with_reducible (repeat (first | exact Take.here | apply Take.there))) 0 (us := [_, _]) (by first | rfl | exact (Nat.add_zero _).symm) rfl rfl ?_
    refine l_store rfl rfl rfl rfl Try.sizeOf28 (us := [_, _]) rfl rfl rfl (by with_reducible (repeat (first | exact Take.here | apply Take.there))) (by first | rfl | exact (Nat.add_zero _).symm) (by first | decide | (simp; done) | omega) ?_
    simp only [setL, List.set]
    refine ag_nil ?_
    refine q_assign rfl rfl rfl rfl ?_
    refine r_done ?_
    refine k_then_n ?_
    refine c_ret ?_
    refine k_then_ret ?_
    refine hp_fold (b := b) (o := o) (lf := lf lk fi ca) (its := []) (made := made) (by (repeat (with_reducible apply Takes.cons; focus (with_reducible (repeat (first | exact Take.here | apply Take.there))))); exact Takes.nil) (by rfl) ?_
    refine retL (us := [_, _]) rfl ⟨rv_cellN rfl Try.isAgg28 Try.sizeOf28 (by with_reducible (repeat (first | exact Take.here | apply Take.there))) 0 rfl (us := [_, _]) rfl rfl, rv_tmp rfl, trivial⟩ (()) (by rfl) (by trivial) ?_
    (repeat (with_reducible apply Takes.cons; focus (with_reducible (repeat (first | exact Take.here | apply Take.there))))); (repeat (first | exact Takes.nil | exact Takes.self | refine takes_drop2 ?_))
  · skip
    obtain ⟨x, hx⟩ := get_lt (l := its) (i := 0) (by omega)
    refine own_some (by with_reducible (repeat (first | exact Take.here | apply Take.there))) hx fun ib io hao hil hcap => ?_
    subst hao
    refine c_skip ?_
    refine k_then_n ?_
    refine c_seq ?_
    refine c_plain (.q 0 (.q 1 (.q 2 (.q 3 (.q 4 (.q 5 (.q 6 ((.l 7 [] (.q 8 (.done))))))))))) (by kernel_rfl) ?_
    refine q_move rfl rfl rfl rfl ?_
    refine q_nil_p rfl rfl rfl rfl ?_
    refine q_field (k := 1) rfl rfl rfl rfl Try.underlying71 rfl Try.sizeOf68 rfl ?_
    refine q_load_c rfl rfl rfl rfl Try.isAgg68 (by with_reducible (repeat (first | exact Take.here | apply Take.there))) (by first | rfl | exact (Nat.add_zero _).symm) (by rfl) ?_
    refine q_idx rfl rfl rfl rfl rfl Try.underlying68 Try.sizeOf74 (k := 0) (by first | rfl | omega) (by omega) (by exact ⟨_, _, rfl⟩) ?_
    intro ib2 io3 hx; cases hx
    refine q_field (k := 0) rfl rfl rfl rfl Try.underlying74 rfl Try.sizeOf28 rfl ?_
    refine q_loadN rfl rfl rfl rfl Try.isAgg28 Try.sizeOf28 (by with_reducible (repeat (first | exact Take.here | apply Take.there))) (rdn_part (sz := 2) (rdn_own encI_len hx) 0 rfl) rfl ?_
    refine l_store rfl rfl rfl rfl Try.sizeOf28 (us := [_, _]) rfl rfl rfl (by with_reducible (repeat (first | exact Take.here | apply Take.there))) (by first | rfl | exact (Nat.add_zero _).symm) (by first | decide | (simp; done) | omega) ?_
    simp only [setL, List.set]
    refine ag_nil ?_
    refine q_assign rfl rfl rfl rfl ?_
    refine r_done ?_
    refine s_keep [2, 3] (e' := [(2, _), (3, _)]) rfl ?_
    refine k_then_n ?_
    refine c_ret ?_
    refine hp_fold (b := b) (o := o) (lf := lf lk fi ca) (its := its) (made := made) (by (repeat (with_reducible apply Takes.cons; focus (with_reducible (repeat (first | exact Take.here | apply Take.there))))); exact Takes.nil) (by rfl) ?_
    refine retL (us := [_, _]) rfl ⟨rv_cellN rfl Try.isAgg28 Try.sizeOf28 (by with_reducible (repeat (first | exact Take.here | apply Take.there))) 0 rfl (us := [_, _]) rfl rfl, rv_tmp rfl, trivial⟩ (()) (by rw [pk_some hx]; rfl) (by trivial) ?_
    (repeat (with_reducible apply Takes.cons; focus (with_reducible (repeat (first | exact Take.here | apply Take.there))))); (repeat (first | exact Takes.nil | exact Takes.self | refine takes_drop2 ?_))

theorem len_spec (b o : Nat) (its : List (Th × Nat)) (made : Nat) : Spec Try.prog 13 [.pointer (some ⟨b, o, none⟩)] [hp b o (lf lk fi ca) its made] (fun (_ : Unit) => .int .i64 (its.length : Int)) (fun _ => True) (fun _ => [hp b o (lf lk fi ca) its made]) := by
  refine spec_mk (n := 10) Try.func13 rfl rfl rfl ?_
  intro Γ w0
  simp only [argE, List.cons_append, List.nil_append, Nat.zero_add, Nat.reduceAdd]
  refine c_seq ?_
  refine c_plain (.q 0 (.done)) (by kernel_rfl) ?_
  refine q_assign rfl rfl rfl rfl ?_
  refine r_done ?_
  refine k_then_n ?_
  refine c_seq ?_
  refine c_seq ?_
  refine c_plain (.q 0 ((.l 1 [] (.done)))) (by kernel_rfl) ?_
  refine q_move rfl rfl rfl rfl ?_
  refine l_call rfl rfl rfl rfl rfl rfl Try.call33 (none_spec _ _ _ _) (by (repeat (with_reducible apply Takes.cons; focus (with_reducible (repeat (first | exact Take.here | apply Take.there))))); exact Takes.nil) ?_
  rintro ⟨⟩ -
  try simp only [List.cons_append, List.nil_append]
  refine ag_nil ?_
  refine r_done ?_
  refine k_then_n ?_
  refine c_cond_f rfl ?_
  refine c_skip ?_
  refine k_then_n ?_
  refine c_seq ?_
  refine s_take (A := hp b o (lf lk fi ca) its made) (by with_reducible (repeat (first | exact Take.here | apply Take.there))) ?_
  refine hp_open fun ao cap => ?_
  refine c_plain (.q 0 (.q 1 (.q 2 (.q 3 (.q 4 (.q 5 (.done))))))) (by kernel_rfl) ?_
  refine q_move rfl rfl rfl rfl ?_
  refine q_nil_p rfl rfl rfl rfl ?_
  refine q_field (k := 1) rfl rfl rfl rfl Try.underlying71 rfl Try.sizeOf68 rfl ?_
  refine q_load_c rfl rfl rfl rfl Try.isAgg68 (by with_reducible (repeat (first | exact Take.here | apply Take.there))) (by first | rfl | exact (Nat.add_zero _).symm) (by rfl) ?_
  refine q_len rfl rfl rfl rfl Try.underlying68 ?_
  refine q_assign rfl rfl rfl rfl ?_
  refine r_done ?_
  refine s_keep [2] (e' := [(2, _)]) rfl ?_
  refine k_then_n ?_
  refine c_ret ?_
  refine hp_fold (b := b) (o := o) (lf := lf lk fi ca) (its := its) (made := made) (by (repeat (with_reducible apply Takes.cons; focus (with_reducible (repeat (first | exact Take.here | apply Take.there))))); exact Takes.nil) (by rfl) ?_
  refine ret1 rfl rfl (()) (by rfl) (by trivial) ?_
  (repeat (with_reducible apply Takes.cons; focus (with_reducible (repeat (first | exact Take.here | apply Take.there))))); (repeat (first | exact Takes.nil | exact Takes.self | refine takes_drop2 ?_))

theorem pop_spec (h : LessOk lt lk fi ca) (b o : Nat) (its : List (Th × Nat)) (made : Nat) (hI : HInv lt its made) (hb : its.length ≤ 4000000000000) : Spec Try.prog 12 [.pointer (some ⟨b, o, none⟩)] [hp b o (lf lk fi ca) its made] (fun (_ : List (Th × Nat)) => .tuple #[vT (pk its).1, .bool (pk its).2]) (fun l => HInv lt l made ∧ (∀ x, its.head? = some x → (x :: l).Perm its) ∧ (its = [] → l = [])) (fun l => [hp b o (lf lk fi ca) l made]) := by
  refine spec_mk (n := 50) Try.func12 rfl rfl rfl ?_
  intro Γ w0
  simp only [argE, List.cons_append, List.nil_append, Nat.zero_add, Nat.reduceAdd]
  refine c_seq ?_
  refine c_plain ((.l 0 [] (.q 1 (.done)))) (by kernel_rfl) ?_
  refine l_alloc rfl rfl rfl Try.zeroValue28 (zs := [.int .i64 0, .int .i64 0]) rfl ?_
  intro vb2
  refine ag_nil ?_
  refine q_assign rfl rfl rfl rfl ?_
  refine r_done ?_
  refine k_then_n ?_
  refine c_seq ?_
  refine c_plain (.q 0 ((.l 1 [] (.q 2 (.q 3 (.q 4 ((.l 5 [] ((.l 6 [] (.q 7 (.done)))))))))))) (by kernel_rfl) ?_
  refine q_move rfl rfl rfl rfl ?_
  refine l_call rfl rfl rfl rfl rfl rfl Try.call35 (peek_spec _ _ _ _) (by (repeat (with_reducible apply Takes.cons; focus (with_reducible (repeat (first | exact Take.here | apply Take.there))))); exact Takes.nil) ?_
  rintro ⟨⟩ -
  try simp only [List.cons_append, List.nil_append]
  refine ag_nil ?_
  refine q_move rfl rfl rfl rfl ?_
  refine q_extract rfl rfl rfl rfl rfl ?_
  refine q_extract rfl rfl rfl rfl rfl ?_
  refine l_alloc rfl rfl rfl Try.zeroValue28 (zs := [.int .i64 0, .int .i64 0]) rfl ?_
  intro vb4
  refine ag_nil ?_
  refine l_store rfl rfl rfl rfl Try.sizeOf28 (us := [_, _]) rfl rfl rfl (by with_reducible (repeat (first | exact Take.here | apply Take.there))) (by first | rfl | exact (Nat.add_zero _).symm) (by first | decide | (simp; done) | omega) ?_
  simp only [setL, List.set]
  refine ag_nil ?_
  refine q_assign rfl rfl rfl rfl ?_
  refine r_done ?_
  refine s_keep [0, 2, 4, 5] (e' := [(0, _), (2, _), (4, _), (5, _)]) rfl ?_
  refine k_then_n ?_
  refine c_seq ?_
  refine c_seq ?_
  refine c_plain (.q 0 (.done)) (by kernel_rfl) ?_
  refine q_move rfl rfl rfl rfl ?_
  refine r_done ?_
  refine s_know (p := its.length ≤ 4000000000000) (fun _ _ => hb) fun _ => ?_
  refine k_then_n ?_
  refine c_cond rfl (fun hk => ?_) (fun hk => ?_)
  · skip
    obtain ⟨n, hn⟩ : ∃ n, its.length = n + 1 := by
      cases its with
      | nil => cases hk
      | cons a l => exact ⟨l.length, rfl⟩
    obtain ⟨x, hx⟩ := get_lt (l := its) (i := 0) (by omega)
    obtain ⟨z, hz⟩ := get_lt (l := its) (i := n) (by omega)
    refine s_take (A := hp b o (lf lk fi ca) its made) (by with_reducible (repeat (first | exact Take.here | apply Take.there))) ?_
    refine hp_open fun ao cap => ?_
    refine own_some (by with_reducible (repeat (first | exact Take.here | apply Take.there))) hx fun ib io hao hil hcap => ?_
    subst hao
    refine c_seq ?_
    refine c_plain (.q 0 (.q 1 (.q 2 (.q 3 (.q 4 (.q 5 (.q 6 (.done)))))))) (by kernel_rfl) ?_
    refine q_move rfl rfl rfl rfl ?_
    refine q_nil_p rfl rfl rfl rfl ?_
    refine q_field (k := 1) rfl rfl rfl rfl Try.underlying71 rfl Try.sizeOf68 rfl ?_
    refine q_load_c rfl rfl rfl rfl Try.isAgg68 (by with_reducible (repeat (first | exact Take.here | apply Take.there))) (by first | rfl | exact (Nat.add_zero _).symm) (by rfl) ?_
    refine q_len rfl rfl rfl rfl Try.underlying68 ?_
    refine q_int rfl rfl rfl rfl rfl (b_sub' _ (by (first | exact fits_i64 (by omega) (by omega) | exact fits_u64 (by omega) (by omega) | exact fits_u32 (by omega) (by omega) | exact fits_u8 (by omega) (by omega)))) ?_
    refine s_eq 18 rfl (v' := .int .i64 (n : Int)) (by congr 1; omega) ?_
    refine q_assign rfl rfl rfl rfl ?_
    refine r_done ?_
    refine s_keep [0, 2, 4, 5, 6] (e' := [(0, _), (2, _), (4, _), (5, _), (6, _)]) rfl ?_
    refine k_then_n ?_
    refine c_seq ?_
    refine c_draw rfl (.q 0 (.q 1 (.q 2 (.q 3 (.q 4 (.q 5 (.q 6 (.q 7 (.q 8 (.q 9 (.q 10 (.q 11 ((.l 12 [] (.done))))))))))))))) (by kernel_rfl) ?_
    refine q_move rfl rfl rfl rfl ?_
    refine q_nil_p rfl rfl rfl rfl ?_
    refine q_field (k := 1) rfl rfl rfl rfl Try.underlying71 rfl Try.sizeOf68 rfl ?_
    refine q_load_c rfl rfl rfl rfl Try.isAgg68 (by with_reducible (repeat (first | exact Take.here | apply Take.there))) (by first | rfl | exact (Nat.add_zero _).symm) (by rfl) ?_
    refine q_move rfl rfl rfl rfl ?_
    refine q_nil_p rfl rfl rfl rfl ?_
    refine q_field (k := 1) rfl rfl rfl rfl Try.underlying71 rfl Try.sizeOf68 rfl ?_
    refine q_load_c rfl rfl rfl rfl Try.isAgg68 (by with_reducible (repeat (first | exact Take.here | apply Take.there))) (by first | rfl | exact (Nat.add_zero _).symm) (by rfl) ?_
    refine q_move rfl rfl rfl rfl ?_
    refine q_idx rfl rfl rfl rfl rfl Try.underlying68 Try.sizeOf74 (k := n) (by first | rfl | omega) (by omega) (by exact ⟨_, _, rfl⟩) ?_
    intro ib3 io4 hx; cases hx
    refine q_loadN_o rfl rfl rfl rfl Try.isAgg74 Try.sizeOf74 (by with_reducible (repeat (first | exact Take.here | apply Take.there))) (encI_len) (by first | rfl | exact (Nat.add_zero _).symm) (by exact hz) (vs := [_, _, _]) (by rfl) ?_
    refine q_idx rfl rfl rfl rfl rfl Try.underlying68 Try.sizeOf74 (k := 0) (by first | rfl | omega) (by omega) (by exact ⟨_, _, rfl⟩) ?_
    intro ib5 io6 hx; cases hx
    refine l_storeO rfl rfl rfl rfl Try.sizeOf74 (us := [_, _, _]) rfl rfl rfl (encI_len) (by with_reducible (repeat (first | exact Take.here | apply Take.there))) (j := 0) (by first | rfl | exact (Nat.add_zero _).symm) (by exact hx) (by first | decide | exact Nat.le_of_ble_eq_true rfl) (q := z) (by rfl) (k := 0) ?_
    refine ag_nil ?_
    refine r_done ?_
    refine s_keep [0, 2, 4, 5, 6] (e' := [(0, _), (2, _), (4, _), (5, _), (6, _)]) rfl ?_
    refine k_then_n ?_
    refine c_seq ?_
    refine c_plain (.q 0 (.q 1 (.q 2 (.q 3 (.q 4 (.q 5 ((.l 6 [] (.done))))))))) (by kernel_rfl) ?_
    refine q_move rfl rfl rfl rfl ?_
    refine q_nil_p rfl rfl rfl rfl ?_
    refine q_field (k := 1) rfl rfl rfl rfl Try.underlying71 rfl Try.sizeOf68 rfl ?_
    refine q_load_c rfl rfl rfl rfl Try.isAgg68 (by with_reducible (repeat (first | exact Take.here | apply Take.there))) (by first | rfl | exact (Nat.add_zero _).symm) (by rfl) ?_
    refine q_move rfl rfl rfl rfl ?_
    refine q_cut_lo rfl rfl rfl rfl rfl Try.underlying68 Try.sizeOf74 (h := n) (by rfl) (by omega) (by omega) ?_
    refine l_clear ((((0, 0), 0) : Th × Nat)) rfl rfl rfl (by rfl) (by rfl) Try.underlying68 Try.zeroValue74 (by rfl) (encI_len) (by rfl) (by with_reducible (repeat (first | exact Take.here | apply Take.there))) (by rw [List.length_set]) (by omega) ?_
    refine ag_nil ?_
    refine r_done ?_
    refine s_keep [0, 2, 4, 5, 6] (e' := [(0, _), (2, _), (4, _), (5, _), (6, _)]) rfl ?_
    refine k_then_n ?_
    refine c_seq ?_
    refine c_plain (.q 0 (.q 1 (.q 2 (.q 3 (.q 4 (.q 5 (.q 6 (.q 7 (.q 8 ((.l 9 [] (.done)))))))))))) (by kernel_rfl) ?_
    refine q_move rfl rfl rfl rfl ?_
    refine q_move rfl rfl rfl rfl ?_
    refine q_nil_p rfl rfl rfl rfl ?_
    refine q_field (k := 1) rfl rfl rfl rfl Try.underlying71 rfl Try.sizeOf68 rfl ?_
    refine q_load_c rfl rfl rfl rfl Try.isAgg68 (by with_reducible (repeat (first | exact Take.here | apply Take.there))) (by first | rfl | exact (Nat.add_zero _).symm) (by rfl) ?_
    refine q_move rfl rfl rfl rfl ?_
    refine q_cut_hi rfl rfl rfl rfl rfl Try.underlying68 Try.sizeOf74 (h' := n) (by rfl) (by omega) ?_
    refine q_nil_p rfl rfl rfl rfl ?_
    refine q_field (k := 1) rfl rfl rfl rfl Try.underlying71 rfl Try.sizeOf68 rfl ?_
    refine l_store rfl rfl rfl rfl Try.sizeOf68 (us := [_]) rfl rfl rfl (by with_reducible (repeat (first | exact Take.here | apply Take.there))) (by first | rfl | exact (Nat.add_zero _).symm) (by first | decide | (simp; done) | omega) ?_
    simp only [setL, List.set]
    refine ag_nil ?_
    refine r_done ?_
    refine s_take (A := own 3 encI (some ⟨ib, io, none⟩) cap _) (by with_reducible (repeat (first | exact Take.here | apply Take.there))) ?_
    refine s_heap (fun _ h => own_take encI_len n h) ?_
    rw [List.take_append_of_le_length (by rw [List.length_take, List.length_set]; omega), List.take_take, Nat.min_self]
    refine hp_fold (b := b) (o := o) (lf := lf lk fi ca) (its := ((its.set 0 z).take n)) (made := made) (by (repeat (with_reducible apply Takes.cons; focus (with_reducible (repeat (first | exact Take.here | apply Take.there))))); exact Takes.nil) (by rw [List.length_take, List.length_set]; omega) ?_
    refine s_keep [0, 2, 4, 5] (e' := [(0, _), (2, _), (4, _), (5, _)]) rfl ?_
    refine k_then_n ?_
    refine c_plain (.q 0 ((.l 1 [] (.done)))) (by kernel_rfl) ?_
    refine q_move rfl rfl rfl rfl ?_
    refine l_call rfl rfl rfl rfl rfl rfl Try.call36 (sink_spec h _ _ ((its.set 0 z).take n) _ (ho_dn_start hI.ho hn) (by rw [List.length_take, List.length_set]; omega)) (by (repeat (with_reducible apply Takes.cons; focus (with_reducible (repeat (first | exact Take.here | apply Take.there))))); exact Takes.nil) ?_
    rintro l ⟨hl1, hl2⟩
    try simp only [List.cons_append, List.nil_append]
    refine ag_nil ?_
    refine r_done ?_
    refine k_then_n ?_
    refine c_seq ?_
    refine c_plain (.q 0 (.q 1 ((.l 2 [] (.q 3 (.done)))))) (by kernel_rfl) ?_
    refine q_loadN_c rfl rfl rfl rfl Try.isAgg28 Try.sizeOf28 (by with_reducible (repeat (first | exact Take.here | apply Take.there))) 0 (us := [_, _]) (by first | rfl | exact (Nat.add_zero _).symm) rfl rfl ?_
    refine q_move rfl rfl rfl rfl ?_
    refine l_store rfl rfl rfl rfl Try.sizeOf28 (us := [_, _]) rfl rfl rfl (by with_reducible (repeat (first | exact Take.here | apply Take.there))) (by first | rfl | exact (Nat.add_zero _).symm) (by first | decide | (simp; done) | omega) ?_
    simp only [setL, List.set]
    refine ag_nil ?_
    refine q_assign rfl rfl rfl rfl ?_
    refine r_done ?_
    refine s_keep [2, 3] (e' := [(2, _), (3, _)]) rfl ?_
    refine k_then_n ?_
    refine c_ret ?_
    refine retL (us := [_, _]) rfl ⟨rv_cellN rfl Try.isAgg28 Try.sizeOf28 (by with_reducible (repeat (first | exact Take.here | apply Take.there))) 0 rfl (us := [_, _]) rfl rfl, rv_tmp rfl, trivial⟩ (l) (by rfl) (by have hp := (List.Perm.cons x hl2).trans (pop_perm hx hn hz); exact ⟨hinv_pop hI hl1 hp, fun y hy => (by rw [List.head?_eq_getElem?, hx] at hy; cases hy; exact hp), fun e => (by rw [e] at hn; cases hn)⟩) ?_
    (repeat (with_reducible apply Takes.cons; focus (with_reducible (repeat (first | exact Take.here | apply Take.there))))); (repeat (first | exact Takes.nil | exact Takes.self | refine takes_drop2 ?_))
  · skip
    obtain rfl : its = [] := by
      cases its with
      | nil => rfl
      | cons a l => cases hk
    refine c_skip ?_
    refine k_then_n ?_
    refine c_seq ?_
    refine c_plain (.q 0 (.q 1 ((.l 2 [] (.q 3 (.done)))))) (by kernel_rfl) ?_
    refine q_loadN_c rfl rfl rfl rfl Try.isAgg28 Try.sizeOf28 (by with_reducible (repeat (first | exact Take.here | apply Take.there))) 0 (us := [_, _]) (by first | rfl | exact (Nat.add_zero _).symm) rfl rfl ?_
    refine q_move rfl rfl rfl rfl ?_
    refine l_store rfl rfl rfl rfl Try.sizeOf28 (us := [_, _]) rfl rfl rfl (by with_reducible (repeat (first | exact Take.here | apply Take.there))) (by first | rfl | exact (Nat.add_zero _).symm) (by first | decide | (simp; done) | omega) ?_
    simp only [setL, List.set]
    refine ag_nil ?_
    refine q_assign rfl rfl rfl rfl ?_
    refine r_done ?_
    refine s_keep [2, 3] (e' := [(2, _), (3, _)]) rfl ?_
    refine k_then_n ?_
    refine c_ret ?_
    refine retL (us := [_, _]) rfl ⟨rv_cellN rfl Try.isAgg28 Try.sizeOf28 (by with_reducible (repeat (first | exact Take.here | apply Take.there))) 0 rfl (us := [_, _]) rfl rfl, rv_tmp rfl, trivial⟩ ([]) (by rfl) (by exact ⟨hI, fun y hy => (by cases hy), fun _ => rfl⟩) ?_
    (repeat (with_reducible apply Takes.cons; focus (with_reducible (repeat (first | exact Take.here | apply Take.there))))); (repeat (first | exact Takes.nil | exact Takes.self | refine takes_drop2 ?_))
end Go.Ab.HpT
