/- A detector by full vectors: New, what it tells. -/
import Derived.Test.YtkoclbjiaofkhaaDj4
set_option linter.unusedVariables false
set_option linter.unusedSimpArgs false
set_option maxRecDepth 100000
namespace Go.Ab.Dj
open Go Go.Proofs Go.Ab Go.Ab.Fe Go.Ab.Vc
def vNew (th va vo lk : Int) (pl : List Int) : VS := ⟨newF th va vo lk pl, upd noF 0 (some [1]), noF, noF, noF⟩
theorem one_cv : CV [1] := ⟨by simp [Tr], by decide, by decide⟩
theorem new_vinv {th va vo lk : Int} {pl : List Int} (hok : OkS th va vo lk pl) (hc : CInv (newF th va vo lk pl)) : VInv (vNew th va vo lk pl) := by
  have h1 := hok.th
  have hst : ∀ t, stF (newF th va vo lk pl) t = if t = 0 then (1, 0, 0) else (0, 0, 0) := fun t => by
    have h := (rel_new hok).st t
    rw [← h]
    unfold upd noF
    split <;> rfl
  have hT : ∀ b r : Int, wtN (newF th va vo lk pl) b r = 0 := fun b r => by
    unfold wtN
    rw [List.countP_eq_zero]
    intro s hs h2
    have h3 := of_decide_eq_true h2
    obtain ⟨i, hi⟩ := List.getElem?_of_mem hs
    have h4 := hst (i : Int)
    rw [stF, if_neg (by omega), Int.toNat_natCast, getD_some hi, h3] at h4
    split at h4 <;> simp at h4
  have hB : ∀ b : Int, 0 ≤ (opF (newF th va vo lk pl) b).2 := fun b => by
    unfold opF newF
    rcases getD_mem' (List.replicate pl.length ((0 : Int), (0 : Int))) b.toNat (0, 0) with h | h
    · rw [h]; decide
    · rw [(List.mem_replicate.1 h).2]; decide
  refine ⟨hc, fun t => ?_, fun t l h => ?_, fun t l h => (by cases h), fun t l h => (by cases h), fun r p h => (by cases h), fun r p h => (by cases h), fun b r => ?_, fun b _ _ => ?_⟩
  · show (upd noF 0 (some [1]) t).isSome = true ↔ (stF (newF th va vo lk pl) t).1 ≠ 0
    rw [isS_upd, hst]
    split <;> simp_all [noF]
  · rcases upd_some (show upd noF 0 (some [1]) t = some l from h) with ⟨-, h⟩ | ⟨-, h⟩
    · cases h; exact one_cv
    · cases h
  · show ((wtN (newF th va vo lk pl) b r : Nat) : Int) ≤ _
    rw [hT]; exact Int.le_refl _
  · show ((wtN (newF th va vo lk pl) b _ : Nat) : Int) ≤ (opF (newF th va vo lk pl) b).2
    rw [hT]; exact hB b
/-- What is kept of a variable: its reads, its writes, its flag. -/
abbrev P4 := Option Addr × Option Addr × Int × Bool
abbrev V4 := List Int × List Int × Int × Bool
def encV (x : P4) : List Value := [.pointer x.1, .pointer x.2.1, .int .i64 x.2.2.1, .bool x.2.2.2]
theorem encV_len : ∀ x, (encV x).length = 4 := fun _ => rfl
theorem encV_one : ∀ x, (encV x).all Value.oneCell' = true := fun _ => rfl
def varA (v : P4) (t : V4) : HProp := fun h => v.2.2 = t.2.2 ∧ Sat [vecA v.1 t.1, vecA v.2.1 t.2.1] h
structure DS where
  v : VS
  vs : List V4
  cost : Int
structure V4Inv (T : Int) (w : V4) : Prop where
  r : CV w.1
  w : CV w.2.1
structure DInv (x : DS) : Prop where
  v : VInv x.v
  len : (x.vs.length : Int) = x.v.ck.va
  vs : ∀ w ∈ x.vs, CV w.1 ∧ CV w.2.1
  c0 : 0 ≤ x.cost ∧ x.cost ≤ 2 * x.v.ck.n
def dR (pa : Option Addr) (pc : Nat) (po : Option Addr) (poc b : Nat) (x : DS) : HProp := fun h => ∃ vb va vc V, V.length = x.vs.length ∧ Sat [cells b 0 [.pointer (some ⟨vb, 0, none⟩), .slice va x.vs.length vc, .int .i64 x.cost], vsR pa pc po poc vb x.v, own 4 encV va vc V, restL varA V x.vs []] h
section
variable {w0 : World} {ds : List Deferred} {n : Nat} {e : Env} {Γ Γ' : List HProp} {X : Act → World → Prop}
theorem d_open {pa : Option Addr} {pc : Nat} {po : Option Addr} {poc b : Nat} {x : DS} (k : ∀ vb va vc V, V.length = x.vs.length → Le (St w0 ds n e (cells b 0 [.pointer (some ⟨vb, 0, none⟩), .slice va x.vs.length vc, .int .i64 x.cost] :: vsR pa pc po poc vb x.v :: own 4 encV va vc V :: restL varA V x.vs [] :: Γ)) X) : Le (St w0 ds n e (dR pa pc po poc b x :: Γ)) X := fun a w s => by
  obtain ⟨h1, l1, ⟨vb, va, vc, V, hV, a1⟩, s1⟩ := s.heap
  exact k vb va vc V hV a w ⟨s.defers, s.size, s.env, Bun.unfold ⟨h1, l1, a1, s1⟩, s.amb⟩
theorem d_fold {b : Nat} (x : DS) {pa : Option Addr} {pc : Nat} {po : Option Addr} {poc vb m vc : Nat} {va : Option Addr} {V : List P4} {y : VS} {Y : List V4} {c : Int}
    (tk : Takes Γ [cells b 0 [.pointer (some ⟨vb, 0, none⟩), .slice va m vc, .int .i64 c], vsR pa pc po poc vb y, own 4 encV va vc V, restL varA V Y []] Γ') (hx : x = ⟨y, Y, c⟩) (h1 : m = Y.length) (h2 : V.length = Y.length)
    (k : Le (St w0 ds n e (dR pa pc po poc b x :: Γ')) X) : Le (St w0 ds n e Γ) X := s_heap (fun h s => by
  subst h1 hx
  obtain ⟨h1, l1, a1, s1⟩ := Bun.fold (tk h s)
  exact ⟨h1, l1, ⟨vb, va, vc, V, h2, a1⟩, s1⟩) k
theorem s_var {v : P4} {t : V4} (tk : Take Γ (varA v t) Γ') (k : v.2.2 = t.2.2 → Le (St w0 ds n e (vecA v.1 t.1 :: vecA v.2.1 t.2.1 :: Γ')) X) : Le (St w0 ds n e Γ) X := fun x w s => by
  obtain ⟨h1, l1, ⟨a1, a2⟩, s1⟩ := tk _ s.heap
  exact k a1 x w ⟨s.defers, s.size, s.env, Bun.unfold ⟨h1, l1, a2, s1⟩, s.amb⟩
theorem s_varF (v : P4) (t : V4) (tk : Takes Γ [vecA v.1 t.1, vecA v.2.1 t.2.1] Γ') (hv : v.2.2 = t.2.2) (k : Le (St w0 ds n e (varA v t :: Γ')) X) : Le (St w0 ds n e Γ) X := s_heap (fun h s => by
  obtain ⟨h1, l1, a1, s1⟩ := Bun.fold (tk h s)
  exact ⟨h1, l1, ⟨hv, a1⟩, s1⟩) k
end
def v0 : V4 := ([], [], 0, false)
def dNew (th va vo lk : Int) (pl : List Int) : DS := ⟨vNew th va vo lk pl, List.replicate va.toNat v0, 0⟩
theorem new_dinv {th va vo lk : Int} {pl : List Int} (hok : OkS th va vo lk pl) (hc : CInv (newF th va vo lk pl)) : DInv (dNew th va vo lk pl) :=
  ⟨new_vinv hok hc, by have := hok.va; simp [dNew, vNew, newF]; omega, fun w hw => by rw [(List.mem_replicate.1 hw).2]; exact ⟨Vc.nil_cv, Vc.nil_cv⟩, by simp [dNew, vNew, newF]⟩
theorem begin_spec (th va vo lk : Int) (pl : List Int) (ao : Option Addr) (n c : Nat) (A : HProp) (hr : RdS A ao (pl.flatMap encZ)) (hn : pl.length = n) (hb : n ≤ 4000000) (hok : OkS th va vo lk pl) : Spec Try.prog 41 [.agg #[.int .i64 th, .int .i64 va, .int .i64 vo, .int .i64 lk, .slice ao n c]] [A] (fun (r : (Nat × Nat × Option Addr × Nat) × Option Addr × Nat) => .tuple #[.pointer (some ⟨r.1.1, 0, none⟩), .int .i64 0]) (fun r => True) (fun r => [A, own 1 encZ r.1.2.2.1 r.1.2.2.2 pl, own 1 encZ r.2.1 r.2.2 pl, vsR r.1.2.2.1 r.1.2.2.2 r.2.1 r.2.2 r.1.1 (vNew th va vo lk pl)]) := by
 refine spec_mk (n := 33) Try.func41 rfl rfl rfl ?_
 intro Γ w0
 simp only [argE, List.cons_append, List.nil_append, Nat.zero_add, Nat.reduceAdd]
 refine c_seq ?_
 refine c_plain ((.l 0 [] (.q 1 (.q 2 (.done))))) (by kernel_rfl) ?_
 refine l_box rfl rfl rfl rfl (us := [_, _, _, _, _]) rfl ?_
 intro b1
 refine ag_nil ?_
 refine q_assign rfl rfl rfl rfl ?_
 refine q_assign rfl rfl rfl rfl ?_
 refine r_done ?_
 refine k_then_n ?_
 refine c_seq ?_
 refine c_plain (.q 0 ((.l 1 [] (.q 2 (.q 3 (.q 4 (.q 5 (.q 6 (.done))))))))) (by kernel_rfl) ?_
 refine q_loadN_c rfl rfl rfl rfl Try.isAgg24 Try.sizeOf24 (by with_reducible (repeat (first | exact Z0 | apply Z1))) 0 (us := [_, _, _, _, _]) (by first | rfl | exact (Nat.add_zero _).symm) rfl rfl ?_
 have sp_1 := Fe.new_spec th va vo lk pl ao n c A (hr) (by first | rfl | assumption | omega | (simp; done) | (simp; omega)) (by omega) hok
 refine l_call rfl rfl rfl rfl rfl rfl Try.call57 (sp_1) (by (repeat ((with_reducible apply Z2); focus (first | (with_reducible (repeat (first | exact Z0 | apply Z1)); done) | (repeat (first | exact Z0 | apply Z1))))); exact Z3) ?_
 rintro ⟨nb, nbp, nbc⟩ -
 try simp only [List.cons_append, List.nil_append]
 refine ag_nil ?_
 refine q_move rfl rfl rfl rfl ?_
 refine q_extract rfl rfl rfl rfl rfl ?_
 refine q_extract rfl rfl rfl rfl rfl ?_
 refine q_assign rfl rfl rfl rfl ?_
 refine q_assign rfl rfl rfl rfl ?_
 refine r_done ?_
 refine s_keep [1, 4, 5] (e' := [(1, _), (4, _), (5, _)]) rfl ?_
 refine k_then_n ?_
 refine c_seq ?_
 refine c_seq ?_
 refine c_plain (.q 0 (.q 1 (.done))) (by kernel_rfl) ?_
 refine q_move rfl rfl rfl rfl ?_
 refine q_int rfl rfl rfl rfl rfl (b_neq _ _ _ _) ?_
 refine s_eq 14 rfl (v' := .bool false) (by first | rfl | simp) ?_
 refine r_done ?_
 refine k_then_n ?_
 refine c_cond_f rfl ?_
 refine c_skip ?_
 refine k_then_n ?_
 refine c_seq ?_
 refine c_plain ((.l 0 [] ((.l 1 [] (.q 2 (.q 3 (.q 4 (.q 5 (.q 6 (.done)))))))))) (by kernel_rfl) ?_
 refine l_buildSlice rfl rfl rfl rfl (run_build1 (us := [_]) Try.underlying31 Try.sizeOf35 rfl Try.zeroValue35 rfl rfl rfl) ?_
 intro b17
 refine ag_nil ?_
 have sp_2 := Vc.of_spec ([1]) (some ⟨b17, 0, none⟩) 1 1 (cells b17 0 [.int .u64 1]) (by first | rfl | assumption | omega | (simp; done) | (simp; omega)) (rds_some rdn_cells) (by omega) (by decide)
 refine l_call rfl rfl rfl rfl rfl rfl Try.call58 (sp_2) (by (repeat ((with_reducible apply Z2); focus (first | (with_reducible (repeat (first | exact Z0 | apply Z1)); done) | (repeat (first | exact Z0 | apply Z1))))); exact Z3) ?_
 rintro ⟨qb, qa, qc⟩ -
 try simp only [List.cons_append, List.nil_append]
 refine ag_nil ?_
 refine q_move rfl rfl rfl rfl ?_
 refine q_extract rfl rfl rfl rfl rfl ?_
 refine q_extract rfl rfl rfl rfl rfl ?_
 refine q_assign rfl rfl rfl rfl ?_
 refine q_assign rfl rfl rfl rfl ?_
 refine r_done ?_
 rw [show tr [1] = [1] from by decide]
 refine s_keep [1, 4, 6] (e' := [(1, _), (4, _), (6, _)]) rfl ?_
 refine k_then_n ?_
 refine c_seq ?_
 refine c_plain (.q 0 (.q 1 (.q 2 ((.l 3 [] ((.l 4 [] (.q 5 ((.l 6 [] (.q 7 ((.l 8 [] ((.l 9 [] ((.l 10 [] (.q 11 ((.l 12 [] (.q 13 (.q 14 (.done))))))))))))))))))))))) (by kernel_rfl) ?_
 refine q_move rfl rfl rfl rfl ?_
 refine q_field (k := 4) rfl rfl rfl rfl Try.underlying24 rfl Try.sizeOf22 rfl ?_
 refine q_load_c (j := 4) rfl rfl rfl rfl Try.isAgg22 (by with_reducible (repeat (first | exact Z0 | apply Z1))) (by first | rfl | exact (Nat.add_zero _).symm) (by rfl) ?_
 refine s_heap (fun _ h => own_nil (sz := 1) (enc := encZ) h) ?_
 refine l_append (sz := 1) (enc := encZ) (xs := []) rfl rfl rfl rfl rfl Try.underlying22 Try.typeInfo3 rfl rfl rfl (by decide) (by with_reducible (repeat (first | exact Z0 | apply Z1))) (by with_reducible (repeat (first | exact Z0 | apply Z1))) (by first | rfl | omega | (simp; done) | (simp; omega)) (ys := pl) (hr) (by rfl) (by first | rfl | omega) (encZ_len) (encZ_one) (by omega) (by show _ * 8 ≤ _; omega) ?_
 intro ao24 cp24
 try simp only [List.nil_append]
 refine ag_nil ?_
 refine l_makeMap Int (Option Addr) ekZ evA rfl rfl rfl ?_
 intro m1
 refine ag_nil ?_
 refine q_move rfl rfl rfl rfl ?_
 refine l_mapUpd (ek := ekZ) (ev1 := evA) (F := (noF : Int → Option (Option Addr))) (m := m1) (k := 0) (v := (some ⟨qb, 0, none⟩ : Option Addr)) (by first | exact .inl rfl | exact .inr rfl) rfl rfl rfl rfl Try.underlying84 (keyOK_int Try.underlying3) (by with_reducible (repeat (first | exact Z0 | apply Z1))) ?_
 refine ag_nil ?_
 refine q_move rfl rfl rfl rfl ?_
 refine l_makeMap Int (Option Addr) ekZ evA rfl rfl rfl ?_
 intro m2
 refine ag_nil ?_
 refine l_makeMap Int (Option Addr) ekZ evA rfl rfl rfl ?_
 intro m3
 refine ag_nil ?_
 refine l_makeMap (Int × Int) (Option Addr × Int) ek2 evH rfl rfl rfl ?_
 intro m4
 refine ag_nil ?_
 refine q_build rfl rfl rfl rfl (vs := [_, _, _, _, _, _]) (run_buildS Try.underlying87 Try.zeroValue87 (ps := [(0, 1), (1, 1), (2, 1), (3, 1), (4, 1), (5, 1)]) ⟨rfl, Try.sizeOf83, rfl, Try.sizeOf22, rfl, Try.sizeOf84, rfl, Try.sizeOf84, rfl, Try.sizeOf84, rfl, Try.sizeOf85, trivial⟩ rfl) ?_
 refine l_box rfl rfl rfl rfl (us := [_, _, _, _, _, _]) rfl ?_
 intro b32
 refine ag_nil ?_
 refine q_assign rfl rfl rfl rfl ?_
 refine q_assign rfl rfl rfl rfl ?_
 refine r_done ?_
 refine s_keep [2, 3] (e' := [(2, _), (3, _)]) rfl ?_
 refine k_then_n ?_
 refine c_ret ?_
 refine s_vecF qb qa qc [1] (by (repeat ((with_reducible apply Z2); focus (first | (with_reducible (repeat (first | exact Z0 | apply Z1)); done) | (repeat (first | exact Z0 | apply Z1))))); exact Z3) ?_
 refine s_rest_new (res := vecA) (noF : Int → Option (Option Addr)) (noF : Int → Option (List Int)) (fun _ => rfl) (fun _ => rfl) ?_
 refine s_rest_opt (F := (noF : Int → Option (Option Addr))) (T := (noF : Int → Option (List Int))) (S := []) (0 : Int) (by with_reducible (repeat (first | exact Z0 | apply Z1))) (by simp) fun _ => ?_
 refine s_rest_put (F := (noF : Int → Option (Option Addr))) (T := (noF : Int → Option (List Int))) (S := []) (0 : Int) (upd noF 0 (some (some ⟨qb, 0, none⟩))) (upd noF 0 (some [1])) (by (repeat ((with_reducible apply Z2); focus (first | (with_reducible (repeat (first | exact Z0 | apply Z1)); done) | (repeat (first | exact Z0 | apply Z1))))); exact Z3) (by simp) upd_same (fun q h _ => upd_ne h) upd_same (fun q h _ => upd_ne h) ?_
 refine s_rest_new (res := vecA) (noF : Int → Option (Option Addr)) (noF : Int → Option (List Int)) (fun _ => rfl) (fun _ => rfl) ?_
 refine s_rest_new (res := vecA) (noF : Int → Option (Option Addr)) (noF : Int → Option (List Int)) (fun _ => rfl) (fun _ => rfl) ?_
 refine s_rest_new (res := heldA) (noF : Int × Int → Option (Option Addr × Int)) (noF : Int × Int → Option (List Int × Int)) (fun _ => rfl) (fun _ => rfl) ?_
 refine vs_fold (b := b32) (vNew th va vo lk pl) (pa := nbp) (pc := nbc) (po := ao24) (poc := cp24) (cb := nb) (m1 := m1) (m2 := m2) (m3 := m3) (m4 := m4) (by (repeat ((with_reducible apply Z2); focus (first | (with_reducible (repeat (first | exact Z0 | apply Z1)); done) | (repeat (first | exact Z0 | apply Z1))))); exact Z3) (by rfl) (by show 0 + n = pl.length; omega) ?_
 refine ret2 rfl rfl rfl (((b32, nb, nbp, nbc), ao24, cp24)) (by first | rfl | (first | rfl | (congr 1; done) | (congr 1 <;> first | rfl | omega | (simp; done) | (simp; omega)))) (by trivial) ?_
 (repeat ((with_reducible apply Z2); focus (first | (with_reducible (repeat (first | exact Z0 | apply Z1)); done) | (repeat (first | exact Z0 | apply Z1))))); (repeat (first | exact Z3 | exact Takes.self | refine takes_drop2 ?_))

theorem beginbad_spec (th va vo lk : Int) (pl : List Int) (ao : Option Addr) (n c : Nat) (A : HProp) (hr : RdS A ao (pl.flatMap encZ)) (hn : pl.length = n) (hb : n ≤ 4000000) (hok : ¬ OkS th va vo lk pl) : Spec Try.prog 41 [.agg #[.int .i64 th, .int .i64 va, .int .i64 vo, .int .i64 lk, .slice ao n c]] [A] (fun (_ : Unit) => .tuple #[.pointer none, .int .i64 5]) (fun _ => True) (fun _ => [A]) := by
 refine spec_mk (n := 33) Try.func41 rfl rfl rfl ?_
 intro Γ w0
 simp only [argE, List.cons_append, List.nil_append, Nat.zero_add, Nat.reduceAdd]
 refine c_seq ?_
 refine c_plain ((.l 0 [] (.q 1 (.q 2 (.done))))) (by kernel_rfl) ?_
 refine l_box rfl rfl rfl rfl (us := [_, _, _, _, _]) rfl ?_
 intro b1
 refine ag_nil ?_
 refine q_assign rfl rfl rfl rfl ?_
 refine q_assign rfl rfl rfl rfl ?_
 refine r_done ?_
 refine k_then_n ?_
 refine c_seq ?_
 refine c_plain (.q 0 ((.l 1 [] (.q 2 (.q 3 (.q 4 (.q 5 (.q 6 (.done))))))))) (by kernel_rfl) ?_
 refine q_loadN_c rfl rfl rfl rfl Try.isAgg24 Try.sizeOf24 (by with_reducible (repeat (first | exact Z0 | apply Z1))) 0 (us := [_, _, _, _, _]) (by first | rfl | exact (Nat.add_zero _).symm) rfl rfl ?_
 have sp_2 := Fe.newbad_spec th va vo lk pl ao n c A (hr) (by first | rfl | assumption | omega | (simp; done) | (simp; omega)) (by omega) hok
 refine l_call rfl rfl rfl rfl rfl rfl Try.call57 (sp_2) (by (repeat ((with_reducible apply Z2); focus (first | (with_reducible (repeat (first | exact Z0 | apply Z1)); done) | (repeat (first | exact Z0 | apply Z1))))); exact Z3) ?_
 rintro ⟨⟩ -
 try simp only [List.cons_append, List.nil_append]
 refine ag_nil ?_
 refine q_move rfl rfl rfl rfl ?_
 refine q_extract rfl rfl rfl rfl rfl ?_
 refine q_extract rfl rfl rfl rfl rfl ?_
 refine q_assign rfl rfl rfl rfl ?_
 refine q_assign rfl rfl rfl rfl ?_
 refine r_done ?_
 refine s_keep [1, 4, 5] (e' := [(1, _), (4, _), (5, _)]) rfl ?_
 refine k_then_n ?_
 refine c_seq ?_
 refine c_seq ?_
 refine c_plain (.q 0 (.q 1 (.done))) (by kernel_rfl) ?_
 refine q_move rfl rfl rfl rfl ?_
 refine q_int rfl rfl rfl rfl rfl (b_neq _ _ _ _) ?_
 refine s_eq 14 rfl (v' := .bool true) (by first | rfl | simp) ?_
 refine r_done ?_
 refine k_then_n ?_
 refine c_cond_t rfl ?_
 refine c_seq ?_
 refine c_plain (.q 0 (.q 1 (.q 2 (.done)))) (by kernel_rfl) ?_
 refine q_move rfl rfl rfl rfl ?_
 refine q_assign rfl rfl rfl rfl ?_
 refine q_assign rfl rfl rfl rfl ?_
 refine r_done ?_
 refine s_keep [2, 3] (e' := [(2, _), (3, _)]) rfl ?_
 refine k_then_n ?_
 refine c_ret ?_
 refine k_then_ret ?_
 refine ret2 rfl rfl rfl (()) (by first | rfl | (first | rfl | (congr 1; done) | (congr 1 <;> first | rfl | omega | (simp; done) | (simp; omega)))) (by trivial) ?_
 (repeat ((with_reducible apply Z2); focus (first | (with_reducible (repeat (first | exact Z0 | apply Z1)); done) | (repeat (first | exact Z0 | apply Z1))))); (repeat (first | exact Z3 | exact Takes.self | refine takes_drop2 ?_))
end Go.Ab.Dj
