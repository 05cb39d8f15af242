/- What the law Plays rests on, part 4 of 5. -/
import Derived.Test.YtjoacllimldfkaaPlaysC
set_option linter.unusedVariables false
set_option linter.unusedSimpArgs false
set_option maxRecDepth 100000
namespace Go.Ab.Vp
open Go Go.Proofs Go.Ab Go.Ab.Vc Go.Ab.Rv
theorem tmod_bd (a : Int) : -3 < Int.tmod a 3 ∧ Int.tmod a 3 < 3 := by
  rcases Int.le_total 0 a with h1 | h1
  · rw [Int.tmod_eq_emod_of_nonneg h1]; omega
  · have e : Int.tmod a 3 = -Int.tmod (-a) 3 := by rw [Int.neg_tmod]; omega
    rw [e, Int.tmod_eq_emod_of_nonneg (by omega)]; omega
def plN (z : Int) : Nat := (Int.tmod (Int.tmod z 3 + 3) 3).toNat
theorem plN_eq (z : Int) : ((plN z : Nat) : Int) = Int.tmod (Int.tmod z 3 + 3) 3 := by
  have h := tmod_bd z
  unfold plN
  rw [Int.tmod_eq_emod_of_nonneg (by omega)]; omega
theorem plN_lt (z : Int) : plN z < 3 := by
  have h := tmod_bd z
  unfold plN
  rw [Int.tmod_eq_emod_of_nonneg (by omega)]; omega
/-- Three vectors of the program and of the document; lists that were answered, and what must stand in them. -/
structure TS where
  O : List Pl
  Q : List Pl
  C : List (LstA Int)
  W : List (LstA Int)
structure TOk (n : Nat) (T : TS) : Prop where
  rel : T.O.map (·.2) = T.Q.map (·.2)
  c : T.C.map (·.2.2) = T.W.map (·.2.2)
  cb : ∀ x ∈ T.C, x.2.2.length ≤ 65535
  cn : T.C.length ≤ n
theorem tok_more {n m : Nat} {T : TS} (h : TOk n T) (hn : n ≤ m) : TOk m T := ⟨h.rel, h.c, h.cb, Nat.le_trans h.cn hn⟩
theorem tok_wl {n : Nat} {T : TS} (h : TOk n T) : T.W.length = T.C.length := by simpa using (congrArg List.length h.c).symm
theorem tok_c {n : Nat} {T : TS} (h : TOk n T) {x y : LstA Int} (e : x.2.2 = y.2.2) (hl : x.2.2.length ≤ 65535) : TOk (n + 1) ⟨T.O, T.Q, T.C ++ [x], T.W ++ [y]⟩ :=
  ⟨h.rel, by rw [List.map_append, List.map_append, h.c]; simp [e], fun z hz => by
    rcases List.mem_append.1 hz with hz | hz
    · exact h.cb z hz
    · simp only [List.mem_singleton] at hz; rw [hz]; exact hl, by have := h.cn; simp; omega⟩
theorem rel_set {O Q : List Pl} (h : O.map (·.2) = Q.map (·.2)) (n : Nat) (a r : Option Addr) (m : Option (List Int)) : (O.set n (a, m)).map (·.2) = (Q.set n (r, m)).map (·.2) := by
  rw [List.map_set, List.map_set, h]
theorem tok_set {n : Nat} {T : TS} (h : TOk n T) (i : Nat) (a r : Option Addr) (m : Option (List Int)) : TOk (n + 1) ⟨T.O.set i (a, m), T.Q.set i (r, m), T.C, T.W⟩ := ⟨rel_set h.rel i a r m, h.c, h.cb, Nat.le_succ_of_le h.cn⟩
theorem rel_mem {O Q : List Pl} (h : O.map (·.2) = Q.map (·.2)) : mem O = mem Q := by
  have key : ∀ (L : List Pl) (p : Nat), mem L p = (L.map (·.2)).getD p none := fun L p => by
    simp only [mem, List.getD_eq_getElem?_getD, List.getElem?_map]
    cases L[p]? <;> rfl
  funext p
  rw [key, key, h]
theorem rel_at {O Q : List Pl} (h : O.map (·.2) = Q.map (·.2)) {i : Nat} (hi : i < O.length) : ∃ a r m, O[i]? = some (a, m) ∧ Q[i]? = some (r, m) := by
  obtain ⟨⟨a, m⟩, hx⟩ := get_lt hi
  obtain ⟨⟨r, m2⟩, hy⟩ := get_lt (l := Q) (i := i) (by have := congrArg List.length h; simp only [List.length_map] at this; omega)
  have h1 : (O.map (·.2))[i]? = some m := by rw [List.getElem?_map, hx]; rfl
  have h2 : (Q.map (·.2))[i]? = some m2 := by rw [List.getElem?_map, hy]; rfl
  rw [h, h2] at h1; cases h1
  exact ⟨a, r, m, hx, hy⟩
/-- The table at b. -/
def tabR (b : Nat) (T : TS) : HProp := fun h => ∃ p0 p1 p2 p3 p4 p5 ca cc wa wc, [p0, p1, p2] = T.O.map (·.1) ∧ [p3, p4, p5] = T.Q.map (·.1) ∧
  Sat [cells b 0 [.pointer p0, .pointer p1, .pointer p2, .pointer p3, .pointer p4, .pointer p5, .slice ca T.C.length cc, .slice wa T.W.length wc],
    own 1 encH ca cc T.C, own 1 encH wa wc T.W, bigS (owA 1 encU) T.C, bigS (owA 1 encU) T.W, bigS (plF owB) T.O, bigS (plF ckB) T.Q] h
section
variable {w0 : World} {ds : List Deferred} {n : Nat} {e : Env} {Γ Γ' : List HProp} {X : Act → World → Prop}
theorem tab_open {b : Nat} {T : TS} (tk : Take Γ (tabR b T) Γ') (k : ∀ p0 p1 p2 p3 p4 p5 ca cc wa wc, [p0, p1, p2] = T.O.map (·.1) → [p3, p4, p5] = T.Q.map (·.1) → Le (St w0 ds n e (cells b 0 [.pointer p0, .pointer p1, .pointer p2, .pointer p3, .pointer p4, .pointer p5, .slice ca T.C.length cc, .slice wa T.W.length wc] ::
    own 1 encH ca cc T.C :: own 1 encH wa wc T.W :: bigS (owA 1 encU) T.C :: bigS (owA 1 encU) T.W :: bigS (plF owB) T.O :: bigS (plF ckB) T.Q :: Γ')) X) : Le (St w0 ds n e Γ) X := fun a w s => by
  obtain ⟨h1, l1, ⟨p0, p1, p2, p3, p4, p5, ca, cc, wa, wc, hp, hq, a1⟩, s1⟩ := tk _ s.heap
  exact k p0 p1 p2 p3 p4 p5 ca cc wa wc hp hq a w ⟨s.defers, s.size, s.env, Bun.unfold ⟨h1, l1, a1, s1⟩, s.amb⟩
theorem tab_fold (T : TS) {b : Nat} {p0 p1 p2 p3 p4 p5 ca wa : Option Addr} {cc wc n1 n2 : Nat} (tk : Takes Γ [cells b 0 [.pointer p0, .pointer p1, .pointer p2, .pointer p3, .pointer p4, .pointer p5, .slice ca n1 cc, .slice wa n2 wc],
    own 1 encH ca cc T.C, own 1 encH wa wc T.W, bigS (owA 1 encU) T.C, bigS (owA 1 encU) T.W, bigS (plF owB) T.O, bigS (plF ckB) T.Q] Γ') (hp : [p0, p1, p2] = T.O.map (·.1)) (hq : [p3, p4, p5] = T.Q.map (·.1)) (h1 : n1 = T.C.length) (h2 : n2 = T.W.length)
    (k : Le (St w0 ds n e (tabR b T :: Γ')) X) : Le (St w0 ds n e Γ) X := s_heap (fun h s => by
  subst h1 h2
  obtain ⟨h1, l1, a1, s1⟩ := Bun.fold (tk h s)
  exact ⟨h1, l1, ⟨p0, p1, p2, p3, p4, p5, ca, cc, wa, wc, hp, hq, a1⟩, s1⟩) k
end
section
variable {p0 p1 p2 p3 p4 p5 a : Option Addr} {m : Option (List Int)} {n : Nat} {L : List Pl} {u v : Value}
theorem ptr3 (h : [p0, p1, p2] = L.map (·.1)) (hx : L[n]? = some (a, m)) : ([p0, p1, p2] : List (Option Addr))[n]? = some a := by rw [h, List.getElem?_map, hx]; rfl
theorem tc_o (h : [p0, p1, p2] = L.map (·.1)) (hx : L[n]? = some (a, m)) : ([.pointer p0, .pointer p1, .pointer p2, .pointer p3, .pointer p4, .pointer p5, u, v] : List Value)[0 + n]? = some (.pointer a) := by
  have h1 := ptr3 h hx
  rw [Nat.zero_add]
  match n, h1 with
  | 0, h1 => cases h1; rfl
  | 1, h1 => cases h1; rfl
  | 2, h1 => cases h1; rfl
  | n + 3, h1 => simp at h1
theorem tc_q (h : [p3, p4, p5] = L.map (·.1)) (hx : L[n]? = some (a, m)) : ([.pointer p0, .pointer p1, .pointer p2, .pointer p3, .pointer p4, .pointer p5, u, v] : List Value)[3 + n]? = some (.pointer a) := by
  have h1 := ptr3 h hx
  match n, h1 with
  | 0, h1 => cases h1; rfl
  | 1, h1 => cases h1; rfl
  | 2, h1 => cases h1; rfl
  | n + 3, h1 => simp at h1
theorem tc_so (hn : n < 3) (r : Option Addr) : ∃ q0 q1 q2, [q0, q1, q2] = [p0, p1, p2].set n r ∧ setL [.pointer p0, .pointer p1, .pointer p2, .pointer p3, .pointer p4, .pointer p5, u, v] (0 + n) [.pointer r] = [.pointer q0, .pointer q1, .pointer q2, .pointer p3, .pointer p4, .pointer p5, u, v] := by
  rw [Nat.zero_add]
  match n, hn with
  | 0, _ => exact ⟨r, p1, p2, rfl, rfl⟩
  | 1, _ => exact ⟨p0, r, p2, rfl, rfl⟩
  | 2, _ => exact ⟨p0, p1, r, rfl, rfl⟩
theorem tc_sq (hn : n < 3) (r : Option Addr) : ∃ q0 q1 q2, [q0, q1, q2] = [p3, p4, p5].set n r ∧ setL [.pointer p0, .pointer p1, .pointer p2, .pointer p3, .pointer p4, .pointer p5, u, v] (3 + n) [.pointer r] = [.pointer p0, .pointer p1, .pointer p2, .pointer q0, .pointer q1, .pointer q2, u, v] := by
  match n, hn with
  | 0, _ => exact ⟨r, p4, p5, rfl, rfl⟩
  | 1, _ => exact ⟨p3, r, p5, rfl, rfl⟩
  | 2, _ => exact ⟨p3, p4, r, rfl, rfl⟩
theorem map_set1 {q0 q1 q2 : Option Addr} (h : [p0, p1, p2] = L.map (·.1)) (h2 : [q0, q1, q2] = [p0, p1, p2].set n a) : [q0, q1, q2] = (L.set n (a, m)).map (·.1) := by rw [h2, h, List.map_set]
theorem map_same (h : [p0, p1, p2] = L.map (·.1)) {m' : Option (List Int)} (hx : L[n]? = some (a, m)) : [p0, p1, p2] = (L.set n (a, m')).map (·.1) := by
  rw [List.map_set, ← h]; exact (set_same (ptr3 h hx)).symm
theorem len3 (h : [p0, p1, p2] = L.map (·.1)) : L.length = 3 := by simpa using (congrArg List.length h).symm
end
/-- The head of a fresh block, if there is one. -/
def hdP (r : Option Addr) : HProp := fun h => ∀ a, r = some a → ∃ b, a = ⟨b, 0, none⟩ ∧ headP b 1 h
theorem eq_vp {r a : Option Addr} {m m2 : Option (List Int)} {L : List Pl} {i : Nat} {Γ Γ1 : List HProp} (hx : L[i]? = some (a, m2)) (tk : Takes Γ [plc owB r m, bigS (plF owB) L, hdP r] Γ1) (hr : r ≠ none) (hm2 : m2 ≠ none) (h : Hp) (s : Sat Γ h) :
    ∃ a' b' k u fz, r = some ⟨a', 0, none⟩ ∧ a = some ⟨b', 0, none⟩ ∧ a' ≠ b' ∧ (∃ t, h (a', none) = some (.inr (.inr (t, k + 1, 0, 0)))) ∧ h (b', some 0) = some (.inl (u, fz)) := by
  have s1 := tk h s
  obtain ⟨h1, l1, a1, s2⟩ := s1
  cases m with
  | none => exact absurd a1 hr
  | some t =>
    cases m2 with
    | none => exact absurd rfl hm2
    | some t2 =>
      obtain ⟨b, rfl, ao, cap, hc, o1⟩ := a1
      obtain ⟨h2, l2, ⟨c, hc2, ao2, cap2, hc3, o2⟩, s3⟩ := big_take (f := plF owB) hx s2
      simp only at hc2
      obtain ⟨k1, m1, c1, -⟩ := o1
      obtain ⟨k2, m2, c2, -⟩ := o2
      have e1 : h1 (b, some 0) = some (.inl (.slice ao t.length cap, false)) := m1 _ _ (c1 0 _ rfl)
      have e2 := l2 _ _ (m2 _ _ (c2 0 _ rfl))
      obtain ⟨h3, l3, a3, -⟩ := s3.swap
      obtain ⟨b3, hb3, t3, ht3⟩ := a3 _ rfl
      cases hb3
      refine ⟨b, c, 0, _, _, rfl, hc2, fun e => ?_, ⟨t3, ?_⟩, (Hmin_some.1 e2).2⟩
      · subst e
        have := (Hmin_some.1 e2).1
        rw [e1] at this; cases this
      · exact (Hmin_some.1 (Hmin_some.1 (l3 _ _ ht3)).2).2
theorem place_spec (z : Int) : Spec Try.prog 48 [.int .i64 z] [] (fun (_ : Unit) => .int .i64 ((plN z : Nat) : Int)) (fun _ => True) (fun _ => []) := by
 refine spec_mk (n := 7) Try.func48 rfl rfl rfl ?_
 intro Γ w0
 simp only [argE, List.cons_append, List.nil_append, Nat.zero_add, Nat.reduceAdd]
 refine c_seq (c_plain (.q 0 (.done)) (by kernel_rfl) ?_)
 refine q_assign rfl rfl rfl rfl (r_done (k_then_n (c_seq (c_plain (.q 0 (.q 1 (.q 2 (.q 3 (.q 4 (.done)))))) (by kernel_rfl) ?_))))
 refine q_move rfl rfl rfl rfl (q_int rfl rfl rfl rfl rfl (b_remT _ (by decide)) ?_)
 have htm := tmod_bd z
 refine q_int rfl rfl rfl rfl rfl (b_add' _ (by exact fits_i64 (by omega) (by omega))) ?_
 refine q_int rfl rfl rfl rfl rfl (b_remT _ (by decide)) ?_
 refine q_assign rfl rfl rfl rfl (r_done (s_keep [2] (e' := [(2, _)]) rfl ?_))
 refine k_then_n (c_ret (ret1 rfl rfl (()) (by rw [plN_eq]) (by trivial) ?_))
 exact Tf
theorem ocopyh (b : Nat) (l : List Int) (ao : Option Addr) (n cap : Nat) (hn : l.length = n) (hb : n ≤ 4000000000) : Spec Try.prog 21 [.pointer (some ⟨b, 0, none⟩)] [cells b 0 [.slice ao n cap], own 1 encU ao cap l] (fun (r : Nat × Option Addr × Nat) => .pointer (some ⟨r.1, 0, none⟩)) (fun r => True) (fun r => [cells b 0 [.slice ao n cap], own 1 encU ao cap l, cells r.1 0 [.slice r.2.1 n r.2.2], own 1 encU r.2.1 r.2.2 l, headP r.1 1]) := by
 refine spec_mk (n := 21) Try.func21 rfl rfl rfl ?_
 intro Γ w0
 simp only [argE, List.cons_append, List.nil_append, Nat.zero_add, Nat.reduceAdd]
 refine c_seq (c_plain (.q 0 (.done)) (by kernel_rfl) ?_)
 refine q_assign rfl rfl rfl rfl (r_done (k_then_n (c_seq (c_seq (c_plain (.q 0 (.q 1 (.done))) (by kernel_rfl) ?_)))))
 refine q_move rfl rfl rfl rfl (q_eq_nil rfl rfl rfl rfl Try.underlying25 ?_)
 refine s_eq 5 rfl (v' := .bool false) rfl ?_
 refine r_done (k_then_n (c_cond_f rfl ?_))
 refine c_skip (k_then_n (c_seq (c_plain (.q 0 (.q 1 (.q 2 (.q 3 (.q 4 ((.l 5 [] (.q 6 (.done))))))))) (by kernel_rfl) ?_)))
 refine q_move rfl rfl rfl rfl (q_nil_p rfl rfl rfl rfl (q_field (k := 0) rfl rfl rfl rfl Try.underlying64 rfl Try.sizeOf23 rfl ?_))
 refine q_load_c (j := 0) rfl rfl rfl rfl Try.isAgg23 Tk Az (by rfl) ?_
 refine q_len rfl rfl rfl rfl Try.underlying23 ?_
 refine l_make (sz := 1) (enc := encU) (len := n) (cap := n) (0) rfl rfl rfl rfl rfl (by first | rfl | omega) (by first | rfl | omega) Try.underlying23 Try.typeInfo30 rfl rfl rfl (by decide) (by omega) (by omega) (by show 8 * _ ≤ _; omega) (by rfl) (encU_len) ?_
 intro b11
 refine ag_nil (q_assign rfl rfl rfl rfl (r_done (s_keep [0, 3] (e' := [(0, _), (3, _)]) rfl ?_)))
 refine k_then_n (c_seq (c_plain (.q 0 (.q 1 (.q 2 (.q 3 (.q 4 ((.l 5 [] (.done)))))))) (by kernel_rfl) ?_))
 refine q_move rfl rfl rfl rfl (q_move rfl rfl rfl rfl (q_nil_p rfl rfl rfl rfl (q_field (k := 0) rfl rfl rfl rfl Try.underlying64 rfl Try.sizeOf23 rfl ?_)))
 refine q_load_c (j := 0) rfl rfl rfl rfl Try.isAgg23 Tk Az (by rfl) ?_
 refine s_take (A := own 1 encU ao cap l) Tk ?_
 refine own_fc fun f_1a f_1b f_1c => ?_
 refine l_copy (sz := 1) (enc := encU) (xs := (List.replicate n 0)) (ys := l) (A := own 1 encU ao cap l) rfl rfl rfl rfl rfl Try.underlying23 Try.sizeOf30 (by decide) encU_len encU_one Tk Tk (rds_own encU_len (fun h => (f_1b h).1) f_1c) Ln (by exact hn) (by omega) ?_
 rw [show (l ++ (List.replicate n 0).drop n) = l from by simp]
 refine ag_nil (r_done (s_keep [3] (e' := [(3, _)]) rfl ?_))
 refine k_then_n (c_seq (c_plain (.q 0 (.q 1 ((.l 2 [] (.q 3 (.done)))))) (by kernel_rfl) ?_))
 refine q_move rfl rfl rfl rfl (q_build rfl rfl rfl rfl (vs := [_]) (run_buildS Try.underlying64 Try.zeroValue64 (ps := [(0, 1)]) ⟨rfl, Try.sizeOf23, trivial⟩ rfl) ?_)
 refine l_boxH 1 rfl rfl rfl rfl (us := [_]) rfl rfl ?_
 intro b20
 refine ag_nil (q_assign rfl rfl rfl rfl (r_done (s_keep [2] (e' := [(2, _)]) rfl ?_)))
 refine k_then_n (c_ret (ret1 rfl rfl ((b20, some ⟨b11, 0, none⟩, n)) (by first | rfl | (first | rfl | (congr 1; done) | (congr 1 <;> first | rfl | omega | (simp; done) | (simp; omega)))) (by trivial) ?_))
 exact Tf
theorem o_copyh {L : List Pl} {i : Nat} {a : Option Addr} {m : Option (List Int)} (hx : L[i]? = some (a, m)) : Spec Try.prog 21 [.pointer a] [bigS (plF owB) L] (fun (r : Option Addr) => .pointer r) (fun r => r = none ↔ m = none) (fun r => [bigS (plF owB) L, plc owB r m, hdP r]) := by
  have h := big_up (Δ := []) (v := fun (r : Option Addr) => .pointer r) (φ := fun r => r = none ↔ m = none) (Δ' := fun r => [plc owB r m, hdP r]) (R := owB) owB_cv hx (fun _ => m) none (.pointer none) ocopyn (fun h => ⟨rfl, by simp [h], h, fun Γ hp s => by rw [h]; exact sat_free (A := plc owB none none) rfl (sat_free (A := hdP none) (fun a h => by cases h) s)⟩) (fun t h hc => ⟨fun _ => t, fun _ => h, fun b => by
    rw [h]
    exact (ow_close (T := (fun _ => t)) (A := (fun ao _ _ => ao)) (C := (fun _ cap _ => cap)) (fun ao cap hc => ocopyh b t ao t.length cap rfl (by have := hc.len; omega)) (fun hc _ _ => hc)).conseq (fun Γ hp s => s) (fun y hy => ⟨some ⟨y.1, 0, none⟩, rfl, by simp, fun Γ hp s => by
      obtain ⟨h1, l1, a1, s1⟩ := s
      obtain ⟨h2, l2, a2, h3, l3, a3, s2⟩ := Bun.fold (Γ := [_, _]) s1
      exact ⟨h1, l1, a1, h2, l2, ⟨y.1, rfl, ⟨y.2.1, y.2.2, hc, a2⟩⟩, h3, l3, fun a ha => by cases ha; exact ⟨y.1, rfl, a3⟩, s2⟩⟩)⟩)
  rw [set_same hx] at h
  exact h
theorem others_spec (b : Nat) (T : TS) (p0 p1 p2 p3 p4 p5 ca wa : Option Addr) (cc wc : Nat) (hp : [p0, p1, p2] = T.O.map (·.1)) (hq : [p3, p4, p5] = T.Q.map (·.1)) (hrel : T.O.map (·.2) = T.Q.map (·.2)) (kd on th ck lv : Int) (ep : Nat) (ws : List Int) (so : Option Addr) (sn sc : Nat) (cs : List Int) (ko : Option Addr) (kn kc : Nat) (A : HProp) (hrw : RdS A so (ws.flatMap encZ)) (hws : ws.length = sn) (hsb : sn ≤ 4000000) (hrc : RdS A ko (cs.flatMap encU)) (hcs : cs.length = kn) (hkb : kn ≤ 4000000) (hc0 : ∀ x ∈ cs, 0 ≤ x) (hck : 0 ≤ ck) (hep : ep < 18446744073709551616) : Spec Try.prog 54 [.pointer (some ⟨b, 0, none⟩), .agg #[.int .i64 kd, .int .i64 on, .slice so sn sc, .int .i64 th, .int .u64 ck, .slice ko kn kc, .int .u64 ((ep : Nat) : Int), .int .i64 lv]] [A, cells b 0 [.pointer p0, .pointer p1, .pointer p2, .pointer p3, .pointer p4, .pointer p5, .slice ca T.C.length cc, .slice wa T.W.length wc]] (fun (r : (Option Addr × Nat) × Option Addr × Nat) => .tuple #[.slice r.1.1 sn r.1.2, .slice r.2.1 sn r.2.2]) (fun r => True) (fun r => [A, cells b 0 [.pointer p0, .pointer p1, .pointer p2, .pointer p3, .pointer p4, .pointer p5, .slice ca T.C.length cc, .slice wa T.W.length wc], own 1 encA r.1.1 r.1.2 ((ws.map plN).map (ptr T.O)), own 1 encA r.2.1 r.2.2 ((ws.map plN).map (ptr T.Q))]) := by
 refine spec_mk (n := 46) Try.func54 rfl rfl rfl ?_
 intro Γ w0
 simp only [argE, List.cons_append, List.nil_append, Nat.zero_add, Nat.reduceAdd]
 refine c_seq (c_plain ((.l 0 [] (.q 1 (.q 2 (.done))))) (by kernel_rfl) ?_)
 refine l_box rfl rfl rfl rfl (us := [_, _, _, _, _, _, _, _]) rfl ?_
 intro b3
 refine ag_nil (q_assign rfl rfl rfl rfl (q_assign rfl rfl rfl rfl (r_done (k_then_n (c_seq (c_plain (.q 0 (.done)) (by kernel_rfl) ?_))))))
 refine q_assign rfl rfl rfl rfl (r_done (k_then_n (c_seq (c_plain (.q 0 (.done)) (by kernel_rfl) ?_))))
 refine q_assign rfl rfl rfl rfl (r_done (k_then_n (c_seq (c_seq (c_plain (.q 0 (.done)) (by kernel_rfl) ?_)))))
 refine q_assign rfl rfl rfl rfl (r_done (k_then_n (c_block (s_heap (fun _ h => own_nil (sz := 1) (enc := encA) h) ?_))))
 refine s_heap (fun _ h => own_nil (sz := 1) (enc := encA) h) ?_
 refine c_loop2 (α := Nat × Option Addr × Nat × Option Addr × Nat) (fun (x_ : Nat × Option Addr × Nat × Option Addr × Nat) => match x_ with | (i, la, lc, ma, mc) => i ≤ sn ∧ True) (fun (x_ : Nat × Option Addr × Nat × Option Addr × Nat) => match x_ with | (i, la, lc, ma, mc) => [(6, .slice la (((ws.take i).map fun z => ptr T.O (plN z)).length) lc), (7, .slice ma (((ws.take i).map fun z => ptr T.Q (plN z)).length) mc), (8, .int .i64 ((i : Nat) : Int))]) (fun (x_ : Nat × Option Addr × Nat × Option Addr × Nat) => match x_ with | (i, la, lc, ma, mc) => [own 1 encA la lc ((ws.take i).map fun z => ptr T.O (plN z)), own 1 encA ma mc ((ws.take i).map fun z => ptr T.Q (plN z))]) (fun (x_ : Nat × Option Addr × Nat × Option Addr × Nat) => match x_ with | (i, la, lc, ma, mc) => sn - i) [0, 3] (er := [(0, _), (3, _)]) rfl (0, none, 0, none, 0) ?_ (by exact ⟨rfl, rfl, rfl, trivial⟩) (by (try dsimp only); (try simp only [Nat.add_zero, Nat.zero_add]); (repeat ((with_reducible apply Z2); focus (first | (with_reducible (repeat (first | exact Z0 | apply Z1)); done) | (repeat (first | exact Z0 | apply Z1))))); exact Z3) ?_
 · exact ⟨Nat.zero_le _, trivial⟩
 rintro ⟨i, la, lc, ma, mc⟩ ⟨hle_i, hT_⟩
 try simp only [List.cons_append, List.nil_append]
 have hl1 : ((ws.take i).map fun z => ptr T.O (plN z)).length = i := by rw [List.length_map, List.length_take]; omega
 have hl2 : ((ws.take i).map fun z => ptr T.Q (plN z)).length = i := by rw [List.length_map, List.length_take]; omega
 refine c_seq (c_seq (c_plain (.q 0 (.q 1 (.q 2 (.q 3 (.q 4 (.done)))))) (by kernel_rfl) ?_))
 refine q_move rfl rfl rfl rfl (q_field (k := 2) rfl rfl rfl rfl Try.underlying68 rfl Try.sizeOf66 rfl ?_)
 refine q_load_c (j := 2) rfl rfl rfl rfl Try.isAgg66 Tk Az (by rfl) ?_
 refine q_len rfl rfl rfl rfl Try.underlying66 ?_
 refine q_int rfl rfl rfl rfl rfl (b_lss _ _ _ _) ?_
 refine r_done (s_keep [0, 3, 6, 7, 8, 13] (e' := [(0, _), (3, _), (6, _), (7, _), (8, _), (13, _)]) rfl ?_)
 refine k_then_n ?_
 refine c_cond_p rfl (fun hlt => ?_) (fun hlt => ?_)
 ·
  obtain ⟨z, hz⟩ := get_lt (l := ws) (i := i) (by omega)
  have hzl := plN_lt z
  obtain ⟨a, r, m, hx, hy⟩ := rel_at hrel (i := plN z) (by rw [len3 hp]; exact hzl)
  have hn1 : ((ws.take i).map fun z => ptr T.O (plN z)) ++ [a] = ((ws.take (i + 1)).map fun z => ptr T.O (plN z)) := by rw [List.take_add_one, hz, List.map_append]; simp [ptr_of hx]
  have hn2 : ((ws.take i).map fun z => ptr T.Q (plN z)) ++ [r] = ((ws.take (i + 1)).map fun z => ptr T.Q (plN z)) := by rw [List.take_add_one, hz, List.map_append]; simp [ptr_of hy]
  refine c_skip (k_then_n (c_seq (c_block (c_seq (c_draw rfl (.q 0 (.q 1 (.q 2 (.q 3 (.q 4 (.q 5 (.q 6 (.q 8 (.q 9 ((.l 7 [] (.q 10 (.q 11 ((.l 12 [] ((.l 13 [] ((.l 14 [] (.done)))))))))))))))))))) (by kernel_rfl) ?_)))))
  refine q_move rfl rfl rfl rfl (q_move rfl rfl rfl rfl (q_field (k := 2) rfl rfl rfl rfl Try.underlying68 rfl Try.sizeOf66 rfl ?_))
  refine q_load_c (j := 2) rfl rfl rfl rfl Try.isAgg66 Tk Az (by rfl) ?_
  refine q_move rfl rfl rfl rfl (q_idxR (sz := 0) (k := i) rfl rfl rfl rfl rfl Try.underlying66 Try.sizeOf3 (hrw) hz encZ_len (by first | rfl | omega) (by omega) ?_)
  intro ib21 io21 _ hd21
  refine q_load rfl rfl rfl rfl Try.isAgg3 Tk (hd21 0 (.int .i64 z) rfl) ?_
  refine q_nil_p rfl rfl rfl rfl (q_field (k := 0) rfl rfl rfl rfl Try.underlying62 rfl Try.sizeOf57 rfl ?_)
  have sp_1 := Vp.place_spec z
  refine l_call rfl rfl rfl rfl rfl rfl Try.call48 (sp_1) Ts ?_
  rintro ⟨⟩ -
  have hpl_ := plN_lt z
  try simp only [List.cons_append, List.nil_append]
  refine ag_nil (q_idxA (k := (plN z)) rfl rfl rfl rfl rfl Try.underlying57 Try.sizeOf25 (by first | rfl | omega) (by omega) ?_)
  refine q_load_c (j := 0 + (plN z)) rfl rfl rfl rfl Try.isAgg25 Tk (by omega) (tc_o hp hx) ?_
  refine l_buildSlice rfl rfl rfl rfl (run_build1 (us := [_]) Try.underlying73 Try.sizeOf25 rfl Try.zeroValue25 rfl rfl rfl) ?_
  intro b28
  refine ag_nil (l_append (sz := 1) (enc := encA) (xs := ((ws.take i).map fun z => ptr T.O (plN z))) rfl rfl rfl rfl rfl Try.underlying73 Try.typeInfo25 rfl rfl rfl (by decide) Tk Tk (by first | rfl | omega | (simp; done) | (simp; omega)) (ys := [a]) (rds_some rdn_cells) (by rfl) (by first | rfl | omega) (encA_len) (encA_one) (by omega) (by show _ * 8 ≤ _; omega) ?_)
  intro ao29 cp29
  refine ag_nil (l_assign rfl rfl rfl rfl ?_)
  refine ag_nil (r_done (s_keep [0, 3, 6, 7, 8] (e' := [(0, _), (3, _), (6, _), (7, _), (8, _)]) rfl ?_))
  refine k_then_n (c_draw rfl (.q 0 (.q 1 (.q 2 (.q 3 (.q 4 (.q 5 (.q 6 (.q 8 (.q 9 ((.l 7 [] (.q 10 (.q 11 ((.l 12 [] ((.l 13 [] ((.l 14 [] (.done)))))))))))))))))))) (by kernel_rfl) ?_)
  refine q_move rfl rfl rfl rfl (q_move rfl rfl rfl rfl (q_field (k := 2) rfl rfl rfl rfl Try.underlying68 rfl Try.sizeOf66 rfl ?_))
  refine q_load_c (j := 2) rfl rfl rfl rfl Try.isAgg66 Tk Az (by rfl) ?_
  refine q_move rfl rfl rfl rfl (q_idxR (sz := 0) (k := i) rfl rfl rfl rfl rfl Try.underlying66 Try.sizeOf3 (hrw) hz encZ_len (by first | rfl | omega) (by omega) ?_)
  intro ib35 io35 _ hd35
  refine q_load rfl rfl rfl rfl Try.isAgg3 Tk (hd35 0 (.int .i64 z) rfl) ?_
  refine q_nil_p rfl rfl rfl rfl (q_field (k := 3) rfl rfl rfl rfl Try.underlying62 rfl Try.sizeOf59 rfl ?_)
  have sp_2 := Vp.place_spec z
  refine l_call rfl rfl rfl rfl rfl rfl Try.call48 (sp_2) Ts ?_
  rintro ⟨⟩ -
  have hpl_ := plN_lt z
  try simp only [List.cons_append, List.nil_append]
  refine ag_nil (q_idxA (k := (plN z)) rfl rfl rfl rfl rfl Try.underlying59 Try.sizeOf58 (by first | rfl | omega) (by omega) ?_)
  refine q_load_c (j := 3 + (plN z)) rfl rfl rfl rfl Try.isAgg58 Tk (by omega) (tc_q hq hy) ?_
  refine l_buildSlice rfl rfl rfl rfl (run_build1 (us := [_]) Try.underlying88 Try.sizeOf58 rfl Try.zeroValue58 rfl rfl rfl) ?_
  intro b42
  refine ag_nil (l_append (sz := 1) (enc := encA) (xs := ((ws.take i).map fun z => ptr T.Q (plN z))) rfl rfl rfl rfl rfl Try.underlying88 Try.typeInfo58 rfl rfl rfl (by decide) Tk Tk (by first | rfl | omega | (simp; done) | (simp; omega)) (ys := [r]) (rds_some rdn_cells) (by rfl) (by first | rfl | omega) (encA_len) (encA_one) (by omega) (by show _ * 8 ≤ _; omega) ?_)
  intro ao43 cp43
  refine ag_nil (l_assign rfl rfl rfl rfl ?_)
  refine ag_nil (r_done (s_keep [0, 3, 6, 7, 8] (e' := [(0, _), (3, _), (6, _), (7, _), (8, _)]) rfl ?_))
  refine k_blk_n (k_then_n (c_plain (.q 0 (.q 1 (.q 2 (.done)))) (by kernel_rfl) ?_))
  refine q_move rfl rfl rfl rfl (q_int rfl rfl rfl rfl rfl (b_add' _ (by exact fits_i64 (by omega) (by omega))) ?_)
  refine q_assign rfl rfl rfl rfl (r_done (k_then_n ?_))
  rw [hn1, hn2]
  have hl3 : ((ws.take (i + 1)).map fun z => ptr T.O (plN z)).length = i + 1 := by rw [← hn1, List.length_append, hl1]; rfl
  have hl4 : ((ws.take (i + 1)).map fun z => ptr T.Q (plN z)).length = i + 1 := by rw [← hn2, List.length_append, hl2]; rfl
  refine s_eq 6 rfl (v' := .slice ao29 (((ws.take (i + 1)).map fun z => ptr T.O (plN z)).length) cp29) (by rw [hl3, hl1]) ?_
  refine s_eq 7 rfl (v' := .slice ao43 (((ws.take (i + 1)).map fun z => ptr T.Q (plN z)).length) cp43) (by rw [hl4, hl2]) ?_
  refine loop_next (x := (i, la, lc, ma, mc)) ((i + 1, ao29, cp29, ao43, cp43)) ?_ ?_ ?_ ?_
  · try dsimp only
    exact ⟨by omega, trivial⟩
  · show sn - (i + 1) < sn - i; omega
  · exact ⟨rfl, rfl, rfl, rfl, rfl, trivial⟩
  · (try simp only [List.cons_append, List.nil_append]); exact Tf
 refine c_exit (k_then_exit (k_then_exit (k_blk_here (k_then_n (c_seq (c_plain (.q 0 (.q 1 (.q 2 (.q 3 (.done))))) (by kernel_rfl) ?_))))))
 refine q_move rfl rfl rfl rfl (q_move rfl rfl rfl rfl (q_assign rfl rfl rfl rfl (q_assign rfl rfl rfl rfl (r_done (s_keep [4, 5] (e' := [(4, _), (5, _)]) rfl ?_)))))
 refine k_then_n (c_ret ?_)
 obtain rfl : i = sn := by omega
 rw [List.take_of_length_le (show ws.length ≤ i by omega), show (ws.map fun z => ptr T.O (plN z)) = (ws.map plN).map (ptr T.O) from by rw [List.map_map]; rfl, show (ws.map fun z => ptr T.Q (plN z)) = (ws.map plN).map (ptr T.Q) from by rw [List.map_map]; rfl]
 refine ret2 rfl rfl rfl (((la, lc), ma, mc)) (by first | rfl | (first | rfl | (congr 1; done) | (congr 1 <;> first | rfl | omega | (simp; done) | (simp; omega)))) (by trivial) ?_
 exact Tf
end Go.Ab.Vp
set_option linter.unusedVariables false
set_option linter.unusedSimpArgs false
set_option maxRecDepth 100000
namespace Go.Ab.Vp
open Go Go.Proofs Go.Ab Go.Ab.Vc Go.Ab.Rv
theorem app_at (l : List Int) (z : Int) : (l ++ [z])[l.length]? = some z := by simp
theorem own_front {α : Type} {sz : Nat} {enc : α → List Value} (hsz : ∀ x, (enc x).length = sz) {ao : Option Addr} {cap : Nat} {l : List α} {z : α} (h2 : ao = none → l ++ [z] = [] ∧ cap = 0) (h3 : ao ≠ none → ∃ b off, ao = some ⟨b, off, none⟩) : RdS (own sz enc ao cap (l ++ [z])) ao (l.flatMap enc) := by
  have := rds_take (rds_own (cap := cap) hsz (fun e => (h2 e).1) h3) hsz l.length
  rwa [List.take_left] at this
theorem onew : Spec Try.prog 30 [] [] (fun (r : Nat) => .pointer (some ⟨r, 0, none⟩)) (fun r => True) (fun r => [owB r []]) := by
 refine spec_mk (n := 3) Try.func30 rfl rfl rfl ?_
 intro Γ w0
 simp only [argE, List.cons_append, List.nil_append, Nat.zero_add, Nat.reduceAdd]
 refine c_seq (c_plain (.q 0 (.done)) (by kernel_rfl) ?_)
 refine q_assign rfl rfl rfl rfl (r_done (k_then_n (c_seq (c_plain (.q 0 ((.l 1 [] (.q 2 (.done))))) (by kernel_rfl) ?_))))
 refine q_build rfl rfl rfl rfl (vs := [_]) (run_buildS Try.underlying64 Try.zeroValue64 (ps := [(0, 1)]) ⟨rfl, Try.sizeOf23, trivial⟩ rfl) ?_
 refine l_box rfl rfl rfl rfl (us := [_]) rfl ?_
 intro b2
 refine ag_nil (q_assign rfl rfl rfl rfl (r_done (k_then_n (c_ret (s_heap (fun _ h => own_nil (sz := 1) (enc := encU) h) ?_)))))
 refine ow_fold (b := b2) (ao := none) (cap := 0) [] Ts rfl nil_cv ?_
 refine ret1 rfl rfl (b2) (by first | rfl | (first | rfl | (congr 1; done) | (congr 1 <;> first | rfl | omega | (simp; done) | (simp; omega)))) (by trivial) ?_
 exact Tf
theorem makes_spec (b : Nat) (T : TS) (n_ : Nat) (hT : TOk n_ T) (hn_ : n_ ≤ 3999990) (kd on th ck lv : Int) (ep : Nat) (ws : List Int) (so : Option Addr) (sn sc : Nat) (cs : List Int) (ko : Option Addr) (kn kc : Nat) (A : HProp) (hrw : RdS A so (ws.flatMap encZ)) (hws : ws.length = sn) (hsb : sn ≤ 4000000) (hrc : RdS A ko (cs.flatMap encU)) (hcs : cs.length = kn) (hkb : kn ≤ 4000000) (hc0 : ∀ x ∈ cs, 0 ≤ x) (hck : 0 ≤ ck) (hep : ep < 18446744073709551616) : Spec Try.prog 32 [.pointer (some ⟨b, 0, none⟩), .agg #[.int .i64 kd, .int .i64 on, .slice so sn sc, .int .i64 th, .int .u64 ck, .slice ko kn kc, .int .u64 ((ep : Nat) : Int), .int .i64 lv]] [A, tabR b T] (fun (T2 : TS) => .bool true) (fun T2 => TOk (n_ + 1) T2) (fun T2 => [A, tabR b T2]) := by
 refine spec_mk (n := 179) Try.func32 rfl rfl rfl ?_
 intro Γ w0
 simp only [argE, List.cons_append, List.nil_append, Nat.zero_add, Nat.reduceAdd]
 refine tab_open (b := b) (T := T) Tk fun p0 p1 p2 p3 p4 p5 ca cc wa wc hp hq => ?_
 have hO3 := len3 hp
 have hQ3 := len3 hq
 have hrel := hT.rel
 refine c_seq (c_plain ((.l 0 [] (.q 1 (.done)))) (by kernel_rfl) ?_)
 refine l_box rfl rfl rfl rfl (us := [_, _, _, _, _, _, _, _]) rfl ?_
 intro b3
 refine ag_nil (q_assign rfl rfl rfl rfl (r_done (k_then_n (c_seq (c_plain (.q 0 (.q 1 ((.l 2 [] (.q 3 (.done)))))) (by kernel_rfl) ?_)))))
 refine q_field (k := 1) rfl rfl rfl rfl Try.underlying68 rfl Try.sizeOf3 rfl ?_
 refine q_load_c (j := 1) rfl rfl rfl rfl Try.isAgg3 Tk Az (by rfl) ?_
 have sp_1 := Vp.place_spec on
 refine l_call rfl rfl rfl rfl rfl rfl Try.call48 (sp_1) Ts ?_
 rintro ⟨⟩ -
 have hpl_ := plN_lt on
 try simp only [List.cons_append, List.nil_append]
 refine ag_nil (q_assign rfl rfl rfl rfl (r_done (s_keep [0, 3, 5] (e' := [(0, _), (3, _), (5, _)]) rfl ?_)))
 refine k_then_n (c_seq (c_seq ?_))
 obtain ⟨a, r, m, hx, hy⟩ := rel_at hrel (i := (plN on)) (by rw [hO3]; exact plN_lt _)
 refine c_plain (.q 0 (.q 1 (.done))) (by kernel_rfl) ?_
 refine q_field (k := 0) rfl rfl rfl rfl Try.underlying68 rfl Try.sizeOf3 rfl ?_
 refine q_load_c (j := 0) rfl rfl rfl rfl Try.isAgg3 Tk Az (by rfl) ?_
 refine r_done (k_then_n (c_block (c_seq (c_plain (.q 0 (.q 1 (.done))) (by kernel_rfl) ?_))))
 refine q_int rfl rfl rfl rfl rfl (b_eql _ _ _ _) ?_
 refine q_assign rfl rfl rfl rfl (r_done (k_then_n ?_))
 refine c_cond_p rfl (fun hk0 => ?_) (fun hk0 => ?_)
 ·
  refine c_seq (c_draw rfl (.q 0 (.q 1 (.q 3 (.q 4 ((.l 2 [] (.q 5 ((.l 6 [] (.done)))))))))) (by kernel_rfl) ?_)
  refine q_move rfl rfl rfl rfl (q_move rfl rfl rfl rfl (q_nil_p rfl rfl rfl rfl (q_field (k := 0) rfl rfl rfl rfl Try.underlying62 rfl Try.sizeOf57 rfl ?_)))
  have sp_2 := Vp.onew
  refine l_call rfl rfl rfl rfl rfl rfl Try.call30 (sp_2) Ts ?_
  rintro co -
  try simp only [List.cons_append, List.nil_append]
  refine ag_nil (q_idxA (k := (plN on)) rfl rfl rfl rfl rfl Try.underlying57 Try.sizeOf25 (by first | rfl | omega) (by omega) ?_)
  refine l_store (j := 0 + (plN on)) rfl rfl rfl rfl Try.sizeOf25 (us := [_]) rfl rfl rfl Tk (by omega) (by simp; omega) ?_
  obtain ⟨v03, v14, v25, hset_o, hset_o_⟩ := tc_so (p0 := p0) (p1 := p1) (p2 := p2) (p3 := p3) (p4 := p4) (p5 := p5) (n := (plN on)) (u := (.slice ca T.C.length cc)) (v := (.slice wa T.W.length wc)) hpl_ (some ⟨co, 0, none⟩)
  rw [hset_o_]
  refine ag_nil (r_done (s_keep [0, 5] (e' := [(0, _), (5, _)]) rfl ?_))
  refine k_then_n (c_draw rfl (.q 0 (.q 1 (.q 3 (.q 4 ((.l 2 [] (.q 5 ((.l 6 [] (.done)))))))))) (by kernel_rfl) ?_)
  refine q_move rfl rfl rfl rfl (q_move rfl rfl rfl rfl (q_nil_p rfl rfl rfl rfl (q_field (k := 3) rfl rfl rfl rfl Try.underlying62 rfl Try.sizeOf59 rfl ?_)))
  have sp_6 := Rv.new_spec
  refine l_call rfl rfl rfl rfl rfl rfl Try.call31 (sp_6) Ts ?_
  rintro cq -
  try simp only [List.cons_append, List.nil_append]
  refine ag_nil (q_idxA (k := (plN on)) rfl rfl rfl rfl rfl Try.underlying59 Try.sizeOf58 (by first | rfl | omega) (by omega) ?_)
  refine l_store (j := 3 + (plN on)) rfl rfl rfl rfl Try.sizeOf58 (us := [_]) rfl rfl rfl Tk (by omega) (by simp; omega) ?_
  obtain ⟨u07, u18, u29, hset_q, hset_q_⟩ := tc_sq (p0 := v03) (p1 := v14) (p2 := v25) (p3 := p3) (p4 := p4) (p5 := p5) (n := (plN on)) (u := (.slice ca T.C.length cc)) (v := (.slice wa T.W.length wc)) hpl_ (some ⟨cq, 0, none⟩)
  rw [hset_q_]
  refine ag_nil (r_done (s_keep [] (e' := []) rfl ?_))
  refine k_blk_n (k_then_n (c_seq (c_plain (.q 0 (.done)) (by kernel_rfl) ?_)))
  refine q_assign rfl rfl rfl rfl (r_done (k_then_n (c_ret (plc_put (R := owB) (b := co) (t := []) Tk ?_))))
  refine plc_put (R := ckB) (b := cq) (t := []) Tk ?_
  refine s_big_take (f := plF owB) (L := T.O) (i := (plN on)) Tk hx ?_
  refine s_big_put (f := plF owB) (L := T.O) (i := (plN on)) (y := ((some ⟨co, 0, none⟩), (some []))) Ts (List.getElem?_eq_some_iff.1 hx).1 ?_
  refine s_big_take (f := plF ckB) (L := T.Q) (i := (plN on)) Tk hy ?_
  refine s_big_put (f := plF ckB) (L := T.Q) (i := (plN on)) (y := ((some ⟨cq, 0, none⟩), (some []))) Ts (List.getElem?_eq_some_iff.1 hy).1 ?_
  refine tab_fold (b := b) ⟨T.O.set (plN on) ((some ⟨co, 0, none⟩), (some [])), T.Q.set (plN on) ((some ⟨cq, 0, none⟩), (some [])), T.C, T.W⟩ Ts (map_set1 hp hset_o) (map_set1 hq hset_q) rfl rfl ?_
  refine ret1 rfl rfl (⟨T.O.set (plN on) ((some ⟨co, 0, none⟩), (some [])), T.Q.set (plN on) ((some ⟨cq, 0, none⟩), (some [])), T.C, T.W⟩) (by first | rfl | (first | rfl | (congr 1; done) | (congr 1 <;> first | rfl | omega | (simp; done) | (simp; omega)))) (by exact tok_set hT (plN on) (some ⟨co, 0, none⟩) (some ⟨cq, 0, none⟩) (some [])) ?_
  exact Tf
 refine c_seq (c_plain (.q 0 (.q 1 (.done))) (by kernel_rfl) ?_)
 refine q_int rfl rfl rfl rfl rfl (b_eql _ _ _ _) ?_
 refine q_assign rfl rfl rfl rfl (r_done (s_keep [0, 3, 5, 19, 34] (e' := [(0, _), (3, _), (5, _), (19, _), (34, _)]) rfl ?_))
 refine k_then_n ?_
 refine c_cond_p rfl (fun hk2 => ?_) (fun hk2 => ?_)
 ·
  refine c_seq (c_plain (.q 0 (.q 1 (.q 2 (.q 3 (.q 4 ((.l 5 [] (.done)))))))) (by kernel_rfl) ?_)
  refine q_move rfl rfl rfl rfl (q_move rfl rfl rfl rfl (q_nil_p rfl rfl rfl rfl (q_field (k := 0) rfl rfl rfl rfl Try.underlying62 rfl Try.sizeOf57 rfl ?_)))
  refine q_idxA (k := (plN on)) rfl rfl rfl rfl rfl Try.underlying57 Try.sizeOf25 (by first | rfl | omega) (by omega) ?_
  refine l_store (j := 0 + (plN on)) rfl rfl rfl rfl Try.sizeOf25 (us := [_]) rfl rfl rfl Tk (by omega) (by simp; omega) ?_
  obtain ⟨v010, v111, v212, hset_o, hset_o_⟩ := tc_so (p0 := p0) (p1 := p1) (p2 := p2) (p3 := p3) (p4 := p4) (p5 := p5) (n := (plN on)) (u := (.slice ca T.C.length cc)) (v := (.slice wa T.W.length wc)) hpl_ none
  rw [hset_o_]
  refine ag_nil (r_done (s_keep [0, 5] (e' := [(0, _), (5, _)]) rfl ?_))
  refine k_then_n (c_plain (.q 0 (.q 1 (.q 2 (.q 3 (.q 4 ((.l 5 [] (.done)))))))) (by kernel_rfl) ?_)
  refine q_move rfl rfl rfl rfl (q_move rfl rfl rfl rfl (q_nil_p rfl rfl rfl rfl (q_field (k := 3) rfl rfl rfl rfl Try.underlying62 rfl Try.sizeOf59 rfl ?_)))
  refine q_idxA (k := (plN on)) rfl rfl rfl rfl rfl Try.underlying59 Try.sizeOf58 (by first | rfl | omega) (by omega) ?_
  refine l_store (j := 3 + (plN on)) rfl rfl rfl rfl Try.sizeOf58 (us := [_]) rfl rfl rfl Tk (by omega) (by simp; omega) ?_
  obtain ⟨u013, u114, u215, hset_q, hset_q_⟩ := tc_sq (p0 := v010) (p1 := v111) (p2 := v212) (p3 := p3) (p4 := p4) (p5 := p5) (n := (plN on)) (u := (.slice ca T.C.length cc)) (v := (.slice wa T.W.length wc)) hpl_ none
  rw [hset_q_]
  refine ag_nil (r_done (s_keep [] (e' := []) rfl ?_))
  refine k_blk_n (k_then_n (c_seq (c_plain (.q 0 (.done)) (by kernel_rfl) ?_)))
  refine q_assign rfl rfl rfl rfl (r_done (k_then_n (c_ret (plc_nil (R := owB) ?_))))
  refine plc_nil (R := ckB) ?_
  refine s_big_take (f := plF owB) (L := T.O) (i := (plN on)) Tk hx ?_
  refine s_big_put (f := plF owB) (L := T.O) (i := (plN on)) (y := (none, none)) Ts (List.getElem?_eq_some_iff.1 hx).1 ?_
  refine s_big_take (f := plF ckB) (L := T.Q) (i := (plN on)) Tk hy ?_
  refine s_big_put (f := plF ckB) (L := T.Q) (i := (plN on)) (y := (none, none)) Ts (List.getElem?_eq_some_iff.1 hy).1 ?_
  refine tab_fold (b := b) ⟨T.O.set (plN on) (none, none), T.Q.set (plN on) (none, none), T.C, T.W⟩ Ts (map_set1 hp hset_o) (map_set1 hq hset_q) rfl rfl ?_
  refine ret1 rfl rfl (⟨T.O.set (plN on) (none, none), T.Q.set (plN on) (none, none), T.C, T.W⟩) (by first | rfl | (first | rfl | (congr 1; done) | (congr 1 <;> first | rfl | omega | (simp; done) | (simp; omega)))) (by exact tok_set hT (plN on) none none none) ?_
  exact Tf
 refine c_seq (c_plain (.q 0 (.q 1 (.done))) (by kernel_rfl) ?_)
 refine q_int rfl rfl rfl rfl rfl (b_eql _ _ _ _) ?_
 refine q_assign rfl rfl rfl rfl (r_done (k_then_n ?_))
 refine c_cond_p rfl (fun hk1 => ?_) (fun hk1 => ?_)
 ·
  refine c_seq (c_plain (.q 0 (.q 1 (.q 2 (.q 3 ((.l 4 [] (.q 5 (.done)))))))) (by kernel_rfl) ?_)
  refine q_field (k := 5) rfl rfl rfl rfl Try.underlying68 rfl Try.sizeOf23 rfl ?_
  refine q_load_c (j := 5) rfl rfl rfl rfl Try.isAgg23 Tk Az (by rfl) ?_
  refine q_len rfl rfl rfl rfl Try.underlying23 ?_
  refine q_int rfl rfl rfl rfl rfl (b_add' _ (by exact fits_i64 (by omega) (by omega))) ?_
  refine l_make (sz := 1) (enc := encU) (len := kn + 1) (cap := kn + 1) (0) rfl rfl rfl rfl rfl (by first | rfl | omega) (by first | rfl | omega) Try.underlying23 Try.typeInfo30 rfl rfl rfl (by decide) (by omega) (by omega) (by show 8 * _ ≤ _; omega) (by rfl) (encU_len) ?_
  intro b52
  refine ag_nil (q_assign rfl rfl rfl rfl (r_done (s_keep [0, 3, 5, 6] (e' := [(0, _), (3, _), (5, _), (6, _)]) rfl ?_)))
  refine k_then_n (c_seq (c_plain (.q 0 (.q 1 (.q 2 ((.l 3 [] (.done)))))) (by kernel_rfl) ?_))
  refine q_move rfl rfl rfl rfl (q_field (k := 5) rfl rfl rfl rfl Try.underlying68 rfl Try.sizeOf23 rfl ?_)
  refine q_load_c (j := 5) rfl rfl rfl rfl Try.isAgg23 Tk Az (by rfl) ?_
  refine l_copy (sz := 1) (enc := encU) (xs := (List.replicate (kn + 1) 0)) (ys := cs) (A := A) rfl rfl rfl rfl rfl Try.underlying23 Try.sizeOf30 (by decide) encU_len encU_one Tk Tk (hrc) (by first | exact hcs | (simp; done) | (simp; omega)) (by first | exact hcs | (simp; done) | (simp; omega)) (by omega) ?_
  refine ag_nil ?_
  rw [show cs ++ (List.replicate (kn + 1) (0 : Int)).drop kn = cs ++ [0] from by rw [List.drop_replicate, show kn + 1 - kn = 1 by omega]; rfl]
  have hz0 : (cs ++ [(0 : Int)])[kn]? = some 0 := by rw [← hcs]; exact app_at _ _
  refine r_done (s_keep [0, 3, 5, 6] (e' := [(0, _), (3, _), (5, _), (6, _)]) rfl ?_)
  refine k_then_n (c_seq (c_plain (.q 0 (.q 1 (.q 2 (.q 3 (.q 4 ((.l 5 [] (.done)))))))) (by kernel_rfl) ?_))
  refine q_move rfl rfl rfl rfl (q_field (k := 5) rfl rfl rfl rfl Try.underlying68 rfl Try.sizeOf23 rfl ?_)
  refine q_load_c (j := 5) rfl rfl rfl rfl Try.isAgg23 Tk Az (by rfl) ?_
  refine q_len rfl rfl rfl rfl Try.underlying23 ?_
  refine q_idxO (sz := 0) (k := kn) (enc := encU) (xs := (cs ++ [0])) rfl rfl rfl rfl rfl Try.underlying23 Try.sizeOf30 hz0 (by first | rfl | omega) (by first | omega | (simp; omega)) Tk ?_
  intro ib61 io61 ha61 hl61 hc61
  refine l_store_O (j := 0) (k := kn) (q := 77) (enc := encU) (off := io61) rfl rfl rfl rfl Try.sizeOf30 (us := [_]) rfl rfl rfl ha61 encU_len hz0 Tk (by first | rfl | exact (Nat.add_zero _).symm | omega) (by first | decide | exact Nat.le_of_ble_eq_true rfl) (by rfl) ?_
  refine ag_nil (r_done ?_)
  rw [show (cs ++ [(0 : Int)]).set kn 77 = cs ++ [77] from by rw [← hcs]; simp]
  have hz7 : (cs ++ [(77 : Int)])[kn]? = some 77 := by rw [← hcs]; exact app_at _ _
  refine s_keep [0, 3, 5, 6] (e' := [(0, _), (3, _), (5, _), (6, _)]) rfl ?_
  refine k_then_n (c_seq (c_plain (.q 0 (.q 1 (.q 2 (.q 3 (.q 4 ((.l 5 [] (.q 6 (.q 7 (.q 8 (.q 9 (.q 10 (.done))))))))))))) (by kernel_rfl) ?_))
  refine q_move rfl rfl rfl rfl (q_field (k := 5) rfl rfl rfl rfl Try.underlying68 rfl Try.sizeOf23 rfl ?_)
  refine q_load_c (j := 5) rfl rfl rfl rfl Try.isAgg23 Tk Az (by rfl) ?_
  refine q_len rfl rfl rfl rfl Try.underlying23 ?_
  refine s_take (A := own 1 encU (some ⟨b52, 0, none⟩) (kn + 1) (cs ++ [77])) Tk ?_
  refine own_fc fun wt1 wt2 wt3 => ?_
  have hwt1 := wt1
  simp only [List.length_append, List.length_singleton] at hwt1
  refine q_cut_hi (h' := kn) rfl rfl rfl rfl rfl Try.underlying23 Try.sizeOf30 (by first | rfl | omega) (by omega) ?_
  refine s_take (A := own 1 encU (some ⟨b52, 0, none⟩) (kn + 1) (cs ++ [77])) Tk ?_
  refine own_fc fun f_16a f_16b f_16c => ?_
  have sp_17 := Vp.oof cs (some ⟨b52, 0, none⟩) kn (kn + 1) (own 1 encU (some ⟨b52, 0, none⟩) (kn + 1) (cs ++ [77])) ((own_front encU_len wt2 wt3)) Ln hc0 (by omega)
  refine l_call rfl rfl rfl rfl rfl rfl Try.call37 (sp_17) Ts ?_
  rintro co hco
  try simp only [List.cons_append, List.nil_append]
  refine ag_nil (q_move rfl rfl rfl rfl (q_extract rfl rfl rfl rfl rfl (q_extract rfl rfl rfl rfl rfl (q_assign rfl rfl rfl rfl (q_assign rfl rfl rfl rfl (r_done (s_keep [0, 3, 5, 6, 7, 8] (e' := [(0, _), (3, _), (5, _), (6, _), (7, _), (8, _)]) rfl ?_)))))))
  refine k_then_n (c_seq (c_plain (.q 0 (.q 1 ((.l 2 [] (.q 3 (.q 4 (.q 5 (.q 6 (.q 7 (.done)))))))))) (by kernel_rfl) ?_))
  refine q_field (k := 5) rfl rfl rfl rfl Try.underlying68 rfl Try.sizeOf23 rfl ?_
  refine q_load_c (j := 5) rfl rfl rfl rfl Try.isAgg23 Tk Az (by rfl) ?_
  have sp_18 := Vp.rof cs ko kn kc A (hrc) Ln hc0 (by omega)
  refine l_call rfl rfl rfl rfl rfl rfl Try.call49 (sp_18) Ts ?_
  rintro cq hcq
  try simp only [List.cons_append, List.nil_append]
  refine ag_nil (q_move rfl rfl rfl rfl (q_extract rfl rfl rfl rfl rfl (q_extract rfl rfl rfl rfl rfl (q_assign rfl rfl rfl rfl (q_assign rfl rfl rfl rfl (r_done (s_keep [0, 3, 5, 6, 7, 8, 9, 10] (e' := [(0, _), (3, _), (5, _), (6, _), (7, _), (8, _), (9, _), (10, _)]) rfl ?_)))))))
  refine k_then_n (c_seq (c_seq ?_))
  have hcc : co.isNone = cq.isNone := by rw [Bool.eq_iff_iff, Option.isNone_iff_eq_none, Option.isNone_iff_eq_none, hco, hcq]
  refine c_draw rfl (.q 0 (.q 2 ((.l 1 [] (.q 3 (.q 4 (.q 5 (.q 6 (.q 7 (.q 8 (.q 9 (.q 10 (.q 11 (.q 12 (.q 13 (.q 14 (.q 15 (.q 16 (.q 17 (.q 18 ((.l 19 [] (.q 20 (.q 21 (.q 22 (.q 23 (.q 24 (.q 25 (.q 26 (.q 27 (.q 28 (.q 29 (.q 30 (.done)))))))))))))))))))))))))))))))))) (by kernel_rfl) ?_
  refine q_move rfl rfl rfl rfl (q_move rfl rfl rfl rfl ?_)
  have sp_19 := Vc.num_spec (ofE cs)
  refine l_call rfl rfl rfl rfl rfl rfl Try.call23 (sp_19) Ts ?_
  rintro ⟨⟩ -
  try simp only [List.cons_append, List.nil_append]
  refine ag_nil (q_int rfl rfl rfl rfl rfl (b_neq _ _ _ _) ?_)
  refine s_eq 80 rfl (v' := .bool false) (by simp) ?_
  refine q_move rfl rfl rfl rfl (q_move rfl rfl rfl rfl (q_eq_nil rfl rfl rfl rfl Try.underlying25 ?_))
  refine q_move rfl rfl rfl rfl (q_eq_nil rfl rfl rfl rfl Try.underlying58 ?_)
  refine q_neb rfl rfl rfl rfl rfl Try.underlying4 ?_
  refine s_eq 86 rfl (v' := .bool false) (by rw [hcc]; simp) ?_
  refine q_pick_f rfl rfl rfl rfl rfl (q_move rfl rfl rfl rfl (q_move rfl rfl rfl rfl (q_field (k := 5) rfl rfl rfl rfl Try.underlying68 rfl Try.sizeOf23 rfl ?_)))
  refine q_load_c (j := 5) rfl rfl rfl rfl Try.isAgg23 Tk Az (by rfl) ?_
  refine q_len rfl rfl rfl rfl Try.underlying23 ?_
  refine q_cut_hi (h' := kn) rfl rfl rfl rfl rfl Try.underlying23 Try.sizeOf30 (by first | rfl | omega) (by omega) ?_
  refine s_take (A := own 1 encU (some ⟨b52, 0, none⟩) (kn + 1) (cs ++ [77])) Tk ?_
  refine own_fc fun f_20a f_20b f_20c => ?_
  refine q_field (k := 5) rfl rfl rfl rfl Try.underlying68 rfl Try.sizeOf23 rfl ?_
  refine q_load_c (j := 5) rfl rfl rfl rfl Try.isAgg23 Tk Az (by rfl) ?_
  refine s_heap (fun _ h => Bun.fold ((by (repeat ((with_reducible apply Z2); focus (first | (with_reducible (repeat (first | exact Z0 | apply Z1)); done) | (repeat (first | exact Z0 | apply Z1))))); exact Z3 : Takes _ [own 1 encU (some ⟨b52, 0, none⟩) (kn + 1) (cs ++ [77]), A] _) _ h)) ?_
  have sp_21 := Vc.same_spec cs cs (some ⟨b52, 0, none⟩) ko kn kn (kn + 1) kc (Bun [own 1 encU (some ⟨b52, 0, none⟩) (kn + 1) (cs ++ [77]), A]) Ln (rds_bun (List.mem_cons_self) ((own_front encU_len wt2 wt3))) Ln (rds_bun (List.mem_cons_of_mem _ (List.mem_cons_self)) (hrc)) (by omega)
  refine l_call rfl rfl rfl rfl rfl rfl Try.call17 (sp_21) Ts ?_
  rintro ⟨⟩ -
  try simp only [List.cons_append, List.nil_append]
  refine s_take (A := Bun [own 1 encU (some ⟨b52, 0, none⟩) (kn + 1) (cs ++ [77]), A]) Tk ?_
  refine s_bun ?_
  try simp only [List.cons_append, List.nil_append]
  try simp only [List.cons_append, List.nil_append]
  refine ag_nil (s_eq 96 rfl (v' := .bool true) (by simp) ?_)
  refine q_not rfl rfl rfl rfl ?_
  refine s_eq 97 rfl (v' := .bool false) rfl ?_
  refine q_pick_f rfl rfl rfl rfl rfl (q_move rfl rfl rfl rfl (q_move rfl rfl rfl rfl (q_field (k := 5) rfl rfl rfl rfl Try.underlying68 rfl Try.sizeOf23 rfl ?_)))
  refine q_load_c (j := 5) rfl rfl rfl rfl Try.isAgg23 Tk Az (by rfl) ?_
  refine q_len rfl rfl rfl rfl Try.underlying23 ?_
  refine q_idxO (sz := 0) (k := kn) (enc := encU) (xs := (cs ++ [77])) rfl rfl rfl rfl rfl Try.underlying23 Try.sizeOf30 hz7 (by first | rfl | omega) (by first | omega | (simp; omega)) Tk ?_
  intro ib104 io104 ha104 hl104 hc104
  refine q_load_O (v := (.int .u64 77)) (j := 0) (k' := kn) (enc := encU) (off := io104) rfl rfl rfl rfl Try.isAgg30 ha104 encU_len hz7 Tk (by first | rfl | exact (Nat.add_zero _).symm | omega) (by rfl) ?_
  refine q_int rfl rfl rfl rfl rfl (b_neq _ _ _ _) ?_
  refine s_eq 106 rfl (v' := .bool false) (by first | rfl | simp) ?_
  refine q_pick_f rfl rfl rfl rfl rfl (r_done (s_keep [0, 5, 6, 7, 9, 107] (e' := [(0, _), (5, _), (6, _), (7, _), (9, _), (107, _)]) rfl ?_))
  refine k_then_n (c_cond_f rfl ?_)
  refine c_skip (k_then_n (c_seq (c_seq (c_plain (.q 0 (.done)) (by kernel_rfl) ?_))))
  refine q_assign rfl rfl rfl rfl (r_done (k_then_n (c_block ?_)))
  refine c_loop2 (α := Nat × List Int) (fun (x_ : Nat × List Int) => match x_ with | (y, f) => y ≤ (kn + 1) ∧ (f.length = kn + 1)) (fun (x_ : Nat × List Int) => match x_ with | (y, f) => [(11, .int .i64 ((y : Nat) : Int))]) (fun (x_ : Nat × List Int) => match x_ with | (y, f) => [own 1 encU (some ⟨b52, 0, none⟩) (kn + 1) f]) (fun (x_ : Nat × List Int) => match x_ with | (y, f) => (kn + 1) - y) [0, 5, 6, 7, 9] (er := [(0, _), (5, _), (6, _), (7, _), (9, _)]) rfl (0, (cs ++ [77])) ?_ (by exact ⟨rfl, trivial⟩) (by (try dsimp only); (try simp only [Nat.add_zero, Nat.zero_add]); (repeat ((with_reducible apply Z2); focus (first | (with_reducible (repeat (first | exact Z0 | apply Z1)); done) | (repeat (first | exact Z0 | apply Z1))))); exact Z3) ?_
  · exact ⟨Nat.zero_le _, by simp [hcs]⟩
  rintro ⟨y, f⟩ ⟨hle_y, hfl⟩
  try simp only [List.cons_append, List.nil_append]
  refine c_seq (c_seq (c_plain (.q 0 (.q 1 (.q 2 (.q 3 (.done))))) (by kernel_rfl) ?_))
  refine q_move rfl rfl rfl rfl (q_move rfl rfl rfl rfl (q_len rfl rfl rfl rfl Try.underlying23 ?_))
  refine q_int rfl rfl rfl rfl rfl (b_lss _ _ _ _) ?_
  refine r_done (k_then_n ?_)
  refine c_cond_p rfl (fun hlt => ?_) (fun hlt => ?_)
  ·
   refine c_skip (k_then_n (c_seq (c_block (c_plain (.q 0 (.q 1 (.q 2 ((.l 3 [] (.done)))))) (by kernel_rfl) ?_))))
   refine q_move rfl rfl rfl rfl (q_move rfl rfl rfl rfl ?_)
   obtain ⟨e_22, he_22⟩ := get_lt (l := f) (i := y) (by first | omega | (simp; done) | (simp; omega))
   refine q_idxO (sz := 0) (k := y) (enc := encU) (xs := f) rfl rfl rfl rfl rfl Try.underlying23 Try.sizeOf30 he_22 (by first | rfl | omega) (by omega) Tk ?_
   intro ib116 io116 ha116 hl116 hc116
   refine l_store_O (j := 0) (k := y) (q := 999) (enc := encU) (off := io116) rfl rfl rfl rfl Try.sizeOf30 (us := [_]) rfl rfl rfl ha116 encU_len he_22 Tk (by first | rfl | exact (Nat.add_zero _).symm | omega) (by first | decide | exact Nat.le_of_ble_eq_true rfl) (by rfl) ?_
   refine ag_nil (r_done (s_keep [0, 5, 6, 7, 9, 11] (e' := [(0, _), (5, _), (6, _), (7, _), (9, _), (11, _)]) rfl ?_))
   refine k_blk_n (k_then_n (c_plain (.q 0 (.q 1 (.q 2 (.done)))) (by kernel_rfl) ?_))
   refine q_move rfl rfl rfl rfl (q_int rfl rfl rfl rfl rfl (b_add' _ (by exact fits_i64 (by omega) (by omega))) ?_)
   refine q_assign rfl rfl rfl rfl (r_done (k_then_n ?_))
   refine loop_next (x := (y, f)) ((y + 1, f.set y 999)) ?_ ?_ ?_ ?_
   · try dsimp only
     exact ⟨by omega, by rw [List.length_set]; exact hfl⟩
   · show (kn + 1) - (y + 1) < (kn + 1) - y; omega
   · exact ⟨rfl, rfl, rfl, rfl, rfl, rfl, trivial⟩
   · (try simp only [List.cons_append, List.nil_append]); exact Tf
  refine c_exit (k_then_exit (k_then_exit (k_blk_here (k_then_n (c_seq (c_plain (.q 0 (.q 1 (.q 2 (.q 3 (.q 4 (.q 5 ((.l 6 [] (.done))))))))) (by kernel_rfl) ?_))))))
  refine q_move rfl rfl rfl rfl (q_move rfl rfl rfl rfl (q_move rfl rfl rfl rfl (q_nil_p rfl rfl rfl rfl (q_field (k := 0) rfl rfl rfl rfl Try.underlying62 rfl Try.sizeOf57 rfl ?_))))
  refine q_idxA (k := (plN on)) rfl rfl rfl rfl rfl Try.underlying57 Try.sizeOf25 (by first | rfl | omega) (by omega) ?_
  refine l_store (j := 0 + (plN on)) rfl rfl rfl rfl Try.sizeOf25 (us := [_]) rfl rfl rfl Tk (by omega) (by simp; omega) ?_
  obtain ⟨v023, v124, v225, hset_o, hset_o_⟩ := tc_so (p0 := p0) (p1 := p1) (p2 := p2) (p3 := p3) (p4 := p4) (p5 := p5) (n := (plN on)) (u := (.slice ca T.C.length cc)) (v := (.slice wa T.W.length wc)) hpl_ co
  rw [hset_o_]
  refine ag_nil (r_done (s_keep [0, 5, 9] (e' := [(0, _), (5, _), (9, _)]) rfl ?_))
  refine k_then_n (c_plain (.q 0 (.q 1 (.q 2 (.q 3 (.q 4 (.q 5 ((.l 6 [] (.done))))))))) (by kernel_rfl) ?_)
  refine q_move rfl rfl rfl rfl (q_move rfl rfl rfl rfl (q_move rfl rfl rfl rfl (q_nil_p rfl rfl rfl rfl (q_field (k := 3) rfl rfl rfl rfl Try.underlying62 rfl Try.sizeOf59 rfl ?_))))
  refine q_idxA (k := (plN on)) rfl rfl rfl rfl rfl Try.underlying59 Try.sizeOf58 (by first | rfl | omega) (by omega) ?_
  refine l_store (j := 3 + (plN on)) rfl rfl rfl rfl Try.sizeOf58 (us := [_]) rfl rfl rfl Tk (by omega) (by simp; omega) ?_
  obtain ⟨u026, u127, u228, hset_q, hset_q_⟩ := tc_sq (p0 := v023) (p1 := v124) (p2 := v225) (p3 := p3) (p4 := p4) (p5 := p5) (n := (plN on)) (u := (.slice ca T.C.length cc)) (v := (.slice wa T.W.length wc)) hpl_ cq
  rw [hset_q_]
  refine ag_nil (r_done (s_keep [] (e' := []) rfl ?_))
  refine k_blk_n (k_then_n (c_seq (c_plain (.q 0 (.done)) (by kernel_rfl) ?_)))
  refine q_assign rfl rfl rfl rfl (r_done (k_then_n (c_ret (s_big_take (f := plF owB) (L := T.O) (i := (plN on)) Tk hx ?_))))
  refine s_big_put (f := plF owB) (L := T.O) (i := (plN on)) (y := (co, (ofM cs))) Ts (List.getElem?_eq_some_iff.1 hx).1 ?_
  refine s_big_take (f := plF ckB) (L := T.Q) (i := (plN on)) Tk hy ?_
  refine s_big_put (f := plF ckB) (L := T.Q) (i := (plN on)) (y := (cq, (ofM cs))) Ts (List.getElem?_eq_some_iff.1 hy).1 ?_
  refine tab_fold (b := b) ⟨T.O.set (plN on) (co, (ofM cs)), T.Q.set (plN on) (cq, (ofM cs)), T.C, T.W⟩ Ts (map_set1 hp hset_o) (map_set1 hq hset_q) rfl rfl ?_
  refine ret1 rfl rfl (⟨T.O.set (plN on) (co, (ofM cs)), T.Q.set (plN on) (cq, (ofM cs)), T.C, T.W⟩) (by first | rfl | (first | rfl | (congr 1; done) | (congr 1 <;> first | rfl | omega | (simp; done) | (simp; omega)))) (by exact tok_set hT (plN on) co cq (ofM cs)) ?_
  exact Tf
 refine c_seq (c_plain (.q 0 (.q 1 (.done))) (by kernel_rfl) ?_)
 refine q_int rfl rfl rfl rfl rfl (b_eql _ _ _ _) ?_
 refine q_assign rfl rfl rfl rfl (r_done (s_keep [0, 3, 5, 129] (e' := [(0, _), (3, _), (5, _), (129, _)]) rfl ?_))
 refine k_then_n ?_
 refine c_cond_p rfl (fun hk9 => ?_) (fun hk9 => ?_)
 ·
  refine c_seq (c_plain (.q 0 (.q 1 ((.l 2 [] (.q 3 (.done)))))) (by kernel_rfl) ?_)
  refine q_field (k := 3) rfl rfl rfl rfl Try.underlying68 rfl Try.sizeOf3 rfl ?_
  refine q_load_c (j := 3) rfl rfl rfl rfl Try.isAgg3 Tk Az (by rfl) ?_
  have sp_29 := Vp.place_spec th
  refine l_call rfl rfl rfl rfl rfl rfl Try.call48 (sp_29) Ts ?_
  rintro ⟨⟩ -
  have hpl_ := plN_lt th
  try simp only [List.cons_append, List.nil_append]
  refine ag_nil (q_assign rfl rfl rfl rfl (r_done ?_))
  obtain ⟨a2, r2, m2, hx2, hy2⟩ := rel_at hrel (i := (plN th)) (by rw [hO3]; exact plN_lt _)
  refine s_keep [0, 5, 12] (e' := [(0, _), (5, _), (12, _)]) rfl ?_
  refine k_then_n (c_seq ?_)
  have hpl_ := plN_lt th
  refine c_plain (.q 0 (.q 1 (.q 2 (.q 3 (.q 4 (.q 5 ((.l 6 [] (.q 7 (.done)))))))))) (by kernel_rfl) ?_
  refine q_move rfl rfl rfl rfl (q_move rfl rfl rfl rfl (q_nil_p rfl rfl rfl rfl (q_field (k := 0) rfl rfl rfl rfl Try.underlying62 rfl Try.sizeOf57 rfl ?_)))
  refine q_idxA (k := (plN th)) rfl rfl rfl rfl rfl Try.underlying57 Try.sizeOf25 (by first | rfl | omega) (by omega) ?_
  refine q_load_c (j := 0 + (plN th)) rfl rfl rfl rfl Try.isAgg25 Tk (by omega) (tc_o hp hx2) ?_
  have sp_30 := Vp.o_copyh hx2
  refine l_call rfl rfl rfl rfl rfl rfl Try.call21 (sp_30) Ts ?_
  rintro co hco
  try simp only [List.cons_append, List.nil_append]
  refine ag_nil (q_assign rfl rfl rfl rfl (r_done (s_keep [0, 5, 12, 13] (e' := [(0, _), (5, _), (12, _), (13, _)]) rfl ?_)))
  refine k_then_n (c_seq (c_plain (.q 0 (.q 1 (.q 2 (.q 3 (.q 4 (.q 5 ((.l 6 [] (.q 7 (.done)))))))))) (by kernel_rfl) ?_))
  refine q_move rfl rfl rfl rfl (q_move rfl rfl rfl rfl (q_nil_p rfl rfl rfl rfl (q_field (k := 3) rfl rfl rfl rfl Try.underlying62 rfl Try.sizeOf59 rfl ?_)))
  refine q_idxA (k := (plN th)) rfl rfl rfl rfl rfl Try.underlying59 Try.sizeOf58 (by first | rfl | omega) (by omega) ?_
  refine q_load_c (j := 3 + (plN th)) rfl rfl rfl rfl Try.isAgg58 Tk (by omega) (tc_q hq hy2) ?_
  have sp_31 := Vp.r_copy hy2
  refine l_call rfl rfl rfl rfl rfl rfl Try.call50 (sp_31) Ts ?_
  rintro cq hcq
  try simp only [List.cons_append, List.nil_append]
  refine ag_nil (q_assign rfl rfl rfl rfl (r_done (s_keep [0, 5, 12, 13, 14] (e' := [(0, _), (5, _), (12, _), (13, _), (14, _)]) rfl ?_)))
  refine k_then_n (c_seq (c_seq ?_))
  have hcc : co.isNone = cq.isNone := by rw [Bool.eq_iff_iff, Option.isNone_iff_eq_none, Option.isNone_iff_eq_none, hco, hcq]
  refine c_plain (.q 0 (.q 1 (.q 2 (.q 3 (.q 4 (.q 5 (.q 6 (.q 7 (.q 8 (.q 9 (.q 10 (.q 11 (.q 12 (.q 13 (.q 14 (.q 15 ((.l 16 [] (.q 17 (.q 18 (.done))))))))))))))))))))) (by kernel_rfl) ?_
  refine q_move rfl rfl rfl rfl (q_eq_nil rfl rfl rfl rfl Try.underlying25 ?_)
  refine q_move rfl rfl rfl rfl (q_eq_nil rfl rfl rfl rfl Try.underlying58 ?_)
  refine q_neb rfl rfl rfl rfl rfl Try.underlying4 ?_
  refine s_eq 152 rfl (v' := .bool false) (by rw [hcc]; simp) ?_
  refine q_move rfl rfl rfl rfl (q_move rfl rfl rfl rfl (q_ne_nil rfl rfl rfl rfl Try.underlying25 ?_))
  refine q_move rfl rfl rfl rfl ?_
  refine s_bool 156 rfl (fun hcn => ?_) (fun hcn => ?_)
  ·
   try simp only [Bool.and_eq_true, Bool.or_eq_true, Bool.not_eq_true', Bool.not_eq_false', Bool.and_eq_false_iff, Bool.or_eq_false_iff, decide_eq_true_eq, decide_eq_false_iff_not] at hcn
   have hcn2 : co ≠ none := by intro e; rw [e] at hcn; simp at hcn
   refine q_move rfl rfl rfl rfl (q_move rfl rfl rfl rfl (q_move rfl rfl rfl rfl (q_nil_p rfl rfl rfl rfl (q_field (k := 0) rfl rfl rfl rfl Try.underlying62 rfl Try.sizeOf57 rfl ?_))))
   refine q_idxA (k := (plN th)) rfl rfl rfl rfl rfl Try.underlying57 Try.sizeOf25 (by first | rfl | omega) (by omega) ?_
   refine q_load_c (j := 0 + (plN th)) rfl rfl rfl rfl Try.isAgg25 Tk (by omega) (tc_o hp hx2) ?_
   refine l_eqC (j := Try.t64) rfl rfl rfl rfl rfl Try.underlying25 (by kernel_rfl) (by decide) (eq_vp (m := m2) hx2 Ts hcn2 (fun e => hcn2 (hco.2 e))) ?_
   refine ag_nil (q_pick_t rfl rfl rfl rfl rfl (q_pick_f rfl rfl rfl rfl rfl (r_done (s_keep [0, 5, 13, 14, 166] (e' := [(0, _), (5, _), (13, _), (14, _), (166, _)]) rfl ?_))))
   refine k_then_n (c_cond_f rfl ?_)
   refine c_skip (k_then_n (c_seq ?_))
   have hpl_ := plN_lt on
   refine c_plain (.q 0 (.q 1 (.q 2 (.q 3 (.q 4 (.q 5 ((.l 6 [] (.done))))))))) (by kernel_rfl) ?_
   refine q_move rfl rfl rfl rfl (q_move rfl rfl rfl rfl (q_move rfl rfl rfl rfl (q_nil_p rfl rfl rfl rfl (q_field (k := 0) rfl rfl rfl rfl Try.underlying62 rfl Try.sizeOf57 rfl ?_))))
   refine q_idxA (k := (plN on)) rfl rfl rfl rfl rfl Try.underlying57 Try.sizeOf25 (by first | rfl | omega) (by omega) ?_
   refine l_store (j := 0 + (plN on)) rfl rfl rfl rfl Try.sizeOf25 (us := [_]) rfl rfl rfl Tk (by omega) (by simp; omega) ?_
   obtain ⟨v032, v133, v234, hset_o, hset_o_⟩ := tc_so (p0 := p0) (p1 := p1) (p2 := p2) (p3 := p3) (p4 := p4) (p5 := p5) (n := (plN on)) (u := (.slice ca T.C.length cc)) (v := (.slice wa T.W.length wc)) hpl_ co
   rw [hset_o_]
   refine ag_nil (r_done (s_keep [0, 5, 14] (e' := [(0, _), (5, _), (14, _)]) rfl ?_))
   refine k_then_n (c_plain (.q 0 (.q 1 (.q 2 (.q 3 (.q 4 (.q 5 ((.l 6 [] (.done))))))))) (by kernel_rfl) ?_)
   refine q_move rfl rfl rfl rfl (q_move rfl rfl rfl rfl (q_move rfl rfl rfl rfl (q_nil_p rfl rfl rfl rfl (q_field (k := 3) rfl rfl rfl rfl Try.underlying62 rfl Try.sizeOf59 rfl ?_))))
   refine q_idxA (k := (plN on)) rfl rfl rfl rfl rfl Try.underlying59 Try.sizeOf58 (by first | rfl | omega) (by omega) ?_
   refine l_store (j := 3 + (plN on)) rfl rfl rfl rfl Try.sizeOf58 (us := [_]) rfl rfl rfl Tk (by omega) (by simp; omega) ?_
   obtain ⟨u035, u136, u237, hset_q, hset_q_⟩ := tc_sq (p0 := v032) (p1 := v133) (p2 := v234) (p3 := p3) (p4 := p4) (p5 := p5) (n := (plN on)) (u := (.slice ca T.C.length cc)) (v := (.slice wa T.W.length wc)) hpl_ cq
   rw [hset_q_]
   refine ag_nil (r_done (s_keep [] (e' := []) rfl ?_))
   refine k_blk_n (k_then_n (c_seq (c_plain (.q 0 (.done)) (by kernel_rfl) ?_)))
   refine q_assign rfl rfl rfl rfl (r_done (k_then_n (c_ret (s_big_take (f := plF owB) (L := T.O) (i := (plN on)) Tk hx ?_))))
   refine s_big_put (f := plF owB) (L := T.O) (i := (plN on)) (y := (co, m2)) Ts (List.getElem?_eq_some_iff.1 hx).1 ?_
   refine s_big_take (f := plF ckB) (L := T.Q) (i := (plN on)) Tk hy ?_
   refine s_big_put (f := plF ckB) (L := T.Q) (i := (plN on)) (y := (cq, m2)) Ts (List.getElem?_eq_some_iff.1 hy).1 ?_
   refine tab_fold (b := b) ⟨T.O.set (plN on) (co, m2), T.Q.set (plN on) (cq, m2), T.C, T.W⟩ Ts (map_set1 hp hset_o) (map_set1 hq hset_q) rfl rfl ?_
   refine ret1 rfl rfl (⟨T.O.set (plN on) (co, m2), T.Q.set (plN on) (cq, m2), T.C, T.W⟩) (by first | rfl | (first | rfl | (congr 1; done) | (congr 1 <;> first | rfl | omega | (simp; done) | (simp; omega)))) (by exact tok_set hT (plN on) co cq m2) ?_
   exact Tf
  try simp only [Bool.and_eq_true, Bool.or_eq_true, Bool.not_eq_true', Bool.not_eq_false', Bool.and_eq_false_iff, Bool.or_eq_false_iff, decide_eq_true_eq, decide_eq_false_iff_not] at hcn
  refine q_skip rfl rfl rfl rfl (q_skip rfl rfl rfl rfl (q_skip rfl rfl rfl rfl (q_skip rfl rfl rfl rfl (q_skip rfl rfl rfl rfl (q_skip rfl rfl rfl rfl (q_skip rfl rfl rfl rfl (l_skip rfl rfl rfl rfl ?_)))))))
  refine q_pick_f rfl rfl rfl rfl rfl (q_pick_f rfl rfl rfl rfl rfl (r_done (s_keep [0, 5, 13, 14, 166] (e' := [(0, _), (5, _), (13, _), (14, _), (166, _)]) rfl ?_)))
  refine k_then_n (c_cond_f rfl ?_)
  refine c_skip (k_then_n (c_seq ?_))
  have hpl_ := plN_lt on
  refine c_plain (.q 0 (.q 1 (.q 2 (.q 3 (.q 4 (.q 5 ((.l 6 [] (.done))))))))) (by kernel_rfl) ?_
  refine q_move rfl rfl rfl rfl (q_move rfl rfl rfl rfl (q_move rfl rfl rfl rfl (q_nil_p rfl rfl rfl rfl (q_field (k := 0) rfl rfl rfl rfl Try.underlying62 rfl Try.sizeOf57 rfl ?_))))
  refine q_idxA (k := (plN on)) rfl rfl rfl rfl rfl Try.underlying57 Try.sizeOf25 (by first | rfl | omega) (by omega) ?_
  refine l_store (j := 0 + (plN on)) rfl rfl rfl rfl Try.sizeOf25 (us := [_]) rfl rfl rfl Tk (by omega) (by simp; omega) ?_
  obtain ⟨v038, v139, v240, hset_o, hset_o_⟩ := tc_so (p0 := p0) (p1 := p1) (p2 := p2) (p3 := p3) (p4 := p4) (p5 := p5) (n := (plN on)) (u := (.slice ca T.C.length cc)) (v := (.slice wa T.W.length wc)) hpl_ co
  rw [hset_o_]
  refine ag_nil (r_done (s_keep [0, 5, 14] (e' := [(0, _), (5, _), (14, _)]) rfl ?_))
  refine k_then_n (c_plain (.q 0 (.q 1 (.q 2 (.q 3 (.q 4 (.q 5 ((.l 6 [] (.done))))))))) (by kernel_rfl) ?_)
  refine q_move rfl rfl rfl rfl (q_move rfl rfl rfl rfl (q_move rfl rfl rfl rfl (q_nil_p rfl rfl rfl rfl (q_field (k := 3) rfl rfl rfl rfl Try.underlying62 rfl Try.sizeOf59 rfl ?_))))
  refine q_idxA (k := (plN on)) rfl rfl rfl rfl rfl Try.underlying59 Try.sizeOf58 (by first | rfl | omega) (by omega) ?_
  refine l_store (j := 3 + (plN on)) rfl rfl rfl rfl Try.sizeOf58 (us := [_]) rfl rfl rfl Tk (by omega) (by simp; omega) ?_
  obtain ⟨u041, u142, u243, hset_q, hset_q_⟩ := tc_sq (p0 := v038) (p1 := v139) (p2 := v240) (p3 := p3) (p4 := p4) (p5 := p5) (n := (plN on)) (u := (.slice ca T.C.length cc)) (v := (.slice wa T.W.length wc)) hpl_ cq
  rw [hset_q_]
  refine ag_nil (r_done (s_keep [] (e' := []) rfl ?_))
  refine k_blk_n (k_then_n (c_seq (c_plain (.q 0 (.done)) (by kernel_rfl) ?_)))
  refine q_assign rfl rfl rfl rfl (r_done (k_then_n (c_ret (s_big_take (f := plF owB) (L := T.O) (i := (plN on)) Tk hx ?_))))
  refine s_big_put (f := plF owB) (L := T.O) (i := (plN on)) (y := (co, m2)) Ts (List.getElem?_eq_some_iff.1 hx).1 ?_
  refine s_big_take (f := plF ckB) (L := T.Q) (i := (plN on)) Tk hy ?_
  refine s_big_put (f := plF ckB) (L := T.Q) (i := (plN on)) (y := (cq, m2)) Ts (List.getElem?_eq_some_iff.1 hy).1 ?_
  refine tab_fold (b := b) ⟨T.O.set (plN on) (co, m2), T.Q.set (plN on) (cq, m2), T.C, T.W⟩ Ts (map_set1 hp hset_o) (map_set1 hq hset_q) rfl rfl ?_
  refine ret1 rfl rfl (⟨T.O.set (plN on) (co, m2), T.Q.set (plN on) (cq, m2), T.C, T.W⟩) (by first | rfl | (first | rfl | (congr 1; done) | (congr 1 <;> first | rfl | omega | (simp; done) | (simp; omega)))) (by exact tok_set hT (plN on) co cq m2) ?_
  exact Tf
 refine c_skip (k_blk_n (k_then_n (c_seq (c_plain (.q 0 (.done)) (by kernel_rfl) ?_))))
 refine q_assign rfl rfl rfl rfl (r_done (s_keep [4] (e' := [(4, _)]) rfl ?_))
 refine k_then_n (c_ret (tab_fold (b := b) T Ts hp hq rfl rfl ?_))
 refine ret1 rfl rfl (T) (by first | rfl | (first | rfl | (congr 1; done) | (congr 1 <;> first | rfl | omega | (simp; done) | (simp; omega)))) (by exact tok_more hT (by omega)) ?_
 exact Tf
end Go.Ab.Vp
set_option linter.unusedVariables false
set_option linter.unusedSimpArgs false
set_option maxRecDepth 100000
namespace Go.Ab.Vp
open Go Go.Proofs Go.Ab Go.Ab.Vc Go.Ab.Rv
section
variable {P : Program} {r : Option Nat} {w0 : World} {ds : List Deferred} {n : Nat} {e : Env} {Γ : List HProp} {K : Act → World → Prop} {l : List Oper} {i : Nat} {t : RT}
variable {d : Nat} {ty : TypeId} {pos : String} {af : Array Edge} {g : Option (Nat × Bool)}
/-- A pointer is itself. -/
theorem q_eqS {tx tz : TypeId} {x y : Operand} {ao : Option Addr} {E : TypeId} {j : TypeInfo} (ho : nthO l i = some ⟨some d, .binOp .eql tx x y tz, ty, pos, af, g⟩) (hg : gd l e g = some true) (hn : Nat.blt d n = true) (hx : ev e x = some (.pointer ao)) (hy : ev e y = some (.pointer ao)) (hu : P.underlying tx = some (.pointer E)) (hi : P.info? E = some j)
    (k : Le (St w0 ds n ((d, .bool true) :: e) Γ) (wpRT P r l.toArray K t)) : Le (St w0 ds n e Γ) (wpRT P r l.toArray K (.q i t)) :=
  q_pure ho hg rfl hn rfl (fun _ h => by cases h) (fun a w s w' => by
    simp only [execOp, s.ev hx, s.ev hy, eqGuard, Sem.run_bind]
    cases ao with
    | none => simp [binOp, run_equal_pn hu (.inl rfl)]
    | some a => simp [run_eql_ptr_same w' a hu hi]) k
end
theorem rel_bad {O Q : List Pl} (h : O.map (·.2) = Q.map (·.2)) (ps : List Nat) : badP Q ps ↔ badP O ps := by unfold badP; rw [rel_mem h]
theorem rel_oE {O Q : List Pl} (h : O.map (·.2) = Q.map (·.2)) (ps : List Nat) : oE Q ps = oE O ps := by
  unfold oE
  by_cases h1 : badP O ps
  · rw [if_pos h1, if_pos ((rel_bad h ps).2 h1)]
  · rw [if_neg h1, if_neg (mt (rel_bad h ps).1 h1)]
theorem rel_J {O Q : List Pl} (h : O.map (·.2) = Q.map (·.2)) (ps : List Nat) : (fun t => if badP Q ps then t else jnP Q t ps) = (fun t => if badP O ps then t else jnP O t ps) := by
  funext t
  by_cases h1 : badP O ps
  · rw [if_pos h1, if_pos ((rel_bad h ps).2 h1)]
  · rw [if_neg h1, if_neg (mt (rel_bad h ps).1 h1)]; unfold jnP; rw [rel_mem h]
theorem rel_M {O Q : List Pl} (h : O.map (·.2) = Q.map (·.2)) (ps : List Nat) : (fun t => if badP Q ps then t else mtP Q t ps) = (fun t => if badP O ps then t else mtP O t ps) := by
  funext t
  by_cases h1 : badP O ps
  · rw [if_pos h1, if_pos ((rel_bad h ps).2 h1)]
  · rw [if_neg h1, if_neg (mt (rel_bad h ps).1 h1)]; unfold mtP; rw [rel_mem h]
theorem changes_spec (b : Nat) (T : TS) (n_ : Nat) (hT : TOk n_ T) (hn_ : n_ ≤ 3999990) (kd on th ck lv : Int) (ep : Nat) (ws : List Int) (so : Option Addr) (sn sc : Nat) (cs : List Int) (ko : Option Addr) (kn kc : Nat) (A : HProp) (hrw : RdS A so (ws.flatMap encZ)) (hws : ws.length = sn) (hsb : sn ≤ 4000000) (hrc : RdS A ko (cs.flatMap encU)) (hcs : cs.length = kn) (hkb : kn ≤ 4000000) (hc0 : ∀ x ∈ cs, 0 ≤ x) (hck : 0 ≤ ck) (hep : ep < 18446744073709551616) : Spec Try.prog 33 [.pointer (some ⟨b, 0, none⟩), .agg #[.int .i64 kd, .int .i64 on, .slice so sn sc, .int .i64 th, .int .u64 ck, .slice ko kn kc, .int .u64 ((ep : Nat) : Int), .int .i64 lv]] [A, tabR b T] (fun (T2 : TS) => .bool true) (fun T2 => TOk (n_ + 1) T2) (fun T2 => [A, tabR b T2]) := by
 refine spec_mk (n := 180) Try.func33 rfl rfl rfl ?_
 intro Γ w0
 simp only [argE, List.cons_append, List.nil_append, Nat.zero_add, Nat.reduceAdd]
 refine tab_open (b := b) (T := T) Tk fun p0 p1 p2 p3 p4 p5 ca cc wa wc hp hq => ?_
 have hO3 := len3 hp
 have hQ3 := len3 hq
 have hrel := hT.rel
 refine c_seq (c_plain ((.l 0 [] (.q 1 (.done)))) (by kernel_rfl) ?_)
 refine l_box rfl rfl rfl rfl (us := [_, _, _, _, _, _, _, _]) rfl ?_
 intro b3
 refine ag_nil (q_assign rfl rfl rfl rfl (r_done (k_then_n (c_seq (c_plain (.q 0 (.q 1 ((.l 2 [] (.q 3 (.done)))))) (by kernel_rfl) ?_)))))
 refine q_field (k := 1) rfl rfl rfl rfl Try.underlying68 rfl Try.sizeOf3 rfl ?_
 refine q_load_c (j := 1) rfl rfl rfl rfl Try.isAgg3 Tk Az (by rfl) ?_
 have sp_1 := Vp.place_spec on
 refine l_call rfl rfl rfl rfl rfl rfl Try.call48 (sp_1) Ts ?_
 rintro ⟨⟩ -
 have hpl_ := plN_lt on
 try simp only [List.cons_append, List.nil_append]
 refine ag_nil (q_assign rfl rfl rfl rfl (r_done (s_keep [0, 3, 5] (e' := [(0, _), (3, _), (5, _)]) rfl ?_)))
 refine k_then_n (c_seq (c_seq ?_))
 obtain ⟨a, r, m, hx, hy⟩ := rel_at hrel (i := (plN on)) (by rw [hO3]; exact plN_lt _)
 refine c_plain (.q 0 (.q 1 (.done))) (by kernel_rfl) ?_
 refine q_field (k := 0) rfl rfl rfl rfl Try.underlying68 rfl Try.sizeOf3 rfl ?_
 refine q_load_c (j := 0) rfl rfl rfl rfl Try.isAgg3 Tk Az (by rfl) ?_
 refine r_done (k_then_n (c_block (c_seq (c_plain (.q 0 (.q 1 (.done))) (by kernel_rfl) ?_))))
 refine q_int rfl rfl rfl rfl rfl (b_eql _ _ _ _) ?_
 refine q_assign rfl rfl rfl rfl (r_done (k_then_n ?_))
 refine c_cond_p rfl (fun hk4 => ?_) (fun hk4 => ?_)
 ·
  refine c_seq (c_draw rfl (.q 0 (.q 1 (.q 2 (.q 3 (.q 4 (.q 5 (.q 6 (.q 7 (.q 8 (.q 9 (.q 12 (.q 13 (.q 14 (.q 15 (.q 16 (.q 17 (.q 18 (.q 19 (.q 20 (.q 21 ((.l 10 [17, 19, 21] ((.l 11 [17, 19, 21] ((.l 22 [] (.q 23 (.q 24 (.done))))))))))))))))))))))))))))) (by kernel_rfl) ?_)
  refine q_move rfl rfl rfl rfl (q_move rfl rfl rfl rfl (q_nil_p rfl rfl rfl rfl (q_field (k := 0) rfl rfl rfl rfl Try.underlying62 rfl Try.sizeOf57 rfl ?_)))
  refine q_idxA (k := (plN on)) rfl rfl rfl rfl rfl Try.underlying57 Try.sizeOf25 (by first | rfl | omega) (by omega) ?_
  refine q_load_c (j := 0 + (plN on)) rfl rfl rfl rfl Try.isAgg25 Tk (by omega) (tc_o hp hx) ?_
  refine q_field (k := 3) rfl rfl rfl rfl Try.underlying68 rfl Try.sizeOf3 rfl ?_
  refine q_load_c (j := 3) rfl rfl rfl rfl Try.isAgg3 Tk Az (by rfl) ?_
  refine q_field (k := 4) rfl rfl rfl rfl Try.underlying68 rfl Try.sizeOf30 rfl ?_
  refine q_load_c (j := 4) rfl rfl rfl rfl Try.isAgg30 Tk Az (by rfl) ?_
  refine q_move rfl rfl rfl rfl (q_move rfl rfl rfl rfl (q_nil_p rfl rfl rfl rfl (q_field (k := 3) rfl rfl rfl rfl Try.underlying62 rfl Try.sizeOf59 rfl ?_)))
  refine q_idxA (k := (plN on)) rfl rfl rfl rfl rfl Try.underlying59 Try.sizeOf58 (by first | rfl | omega) (by omega) ?_
  refine q_load_c (j := 3 + (plN on)) rfl rfl rfl rfl Try.isAgg58 Tk (by omega) (tc_q hq hy) ?_
  refine q_field (k := 3) rfl rfl rfl rfl Try.underlying68 rfl Try.sizeOf3 rfl ?_
  refine q_load_c (j := 3) rfl rfl rfl rfl Try.isAgg3 Tk Az (by rfl) ?_
  refine q_field (k := 4) rfl rfl rfl rfl Try.underlying68 rfl Try.sizeOf30 rfl ?_
  refine q_load_c (j := 4) rfl rfl rfl rfl Try.isAgg30 Tk Az (by rfl) ?_
  have sp_2 := Vp.o_set hx th ck hck
  refine l_call rfl rfl rfl rfl rfl rfl Try.call24 (sp_2) Ts ?_
  rintro ⟨⟩ -
  try simp only [List.cons_append, List.nil_append]
  refine ag_load_c (q := 3 + (plN on)) rfl rfl rfl Try.isAgg58 Tk (by omega) (tc_q hq hy) ?_
  refine ag_load_c (q := 3) rfl rfl rfl Try.isAgg3 Tk Az (by rfl) ?_
  refine ag_load_c (q := 4) rfl rfl rfl Try.isAgg30 Tk Az (by rfl) ?_
  refine ag_nil ?_
  have sp_3 := Vc.num_spec (sM th ck m)
  refine l_call rfl rfl rfl rfl rfl rfl Try.call23 (sp_3) Ts ?_
  rintro ⟨⟩ -
  try simp only [List.cons_append, List.nil_append]
  refine ag_load_c (q := 3 + (plN on)) rfl rfl rfl Try.isAgg58 Tk (by omega) (tc_q hq hy) ?_
  refine ag_load_c (q := 3) rfl rfl rfl Try.isAgg3 Tk Az (by rfl) ?_
  refine ag_load_c (q := 4) rfl rfl rfl Try.isAgg30 Tk Az (by rfl) ?_
  refine ag_nil ?_
  have sp_4 := Vp.r_set hy th ck hck
  refine l_call rfl rfl rfl rfl rfl rfl Try.call51 (sp_4) Ts ?_
  rintro ⟨⟩ -
  try simp only [List.cons_append, List.nil_append]
  refine ag_nil (q_int rfl rfl rfl rfl rfl (b_eql _ _ _ _) ?_)
  refine s_eq 45 rfl (v' := .bool true) (by first | (rw [decide_eq_true rfl]; done) | simp) ?_
  refine q_assign rfl rfl rfl rfl (r_done (s_keep [4] (e' := [(4, _)]) rfl ?_))
  refine k_then_n (c_ret (k_blk_ret (k_then_ret (tab_fold (b := b) ⟨T.O.set (plN on) (a, m.map (fun t => stA t th ck)), T.Q.set (plN on) (r, m.map (fun t => stA t th ck)), T.C, T.W⟩ Ts (map_same hp hx) (map_same hq hy) rfl rfl ?_))))
  refine ret1 rfl rfl (⟨T.O.set (plN on) (a, m.map (fun t => stA t th ck)), T.Q.set (plN on) (r, m.map (fun t => stA t th ck)), T.C, T.W⟩) (by first | rfl | (first | rfl | (congr 1; done) | (congr 1 <;> first | rfl | omega | (simp; done) | (simp; omega)))) (by exact tok_set hT (plN on) a r _) ?_
  exact Tf
 refine c_seq (c_plain (.q 0 (.q 1 (.done))) (by kernel_rfl) ?_)
 refine q_int rfl rfl rfl rfl rfl (b_eql _ _ _ _) ?_
 refine q_assign rfl rfl rfl rfl (r_done (s_keep [0, 3, 5, 19, 46] (e' := [(0, _), (3, _), (5, _), (19, _), (46, _)]) rfl ?_))
 refine k_then_n ?_
 refine c_cond_p rfl (fun hk5 => ?_) (fun hk5 => ?_)
 ·
  refine c_seq (c_draw rfl (.q 0 (.q 1 (.q 2 (.q 3 (.q 4 (.q 5 (.q 6 (.q 7 ((.l 8 [] (.q 9 (.q 10 (.q 11 (.q 12 (.q 13 (.done)))))))))))))))) (by kernel_rfl) ?_)
  refine q_move rfl rfl rfl rfl (q_move rfl rfl rfl rfl (q_nil_p rfl rfl rfl rfl (q_field (k := 0) rfl rfl rfl rfl Try.underlying62 rfl Try.sizeOf57 rfl ?_)))
  refine q_idxA (k := (plN on)) rfl rfl rfl rfl rfl Try.underlying57 Try.sizeOf25 (by first | rfl | omega) (by omega) ?_
  refine q_load_c (j := 0 + (plN on)) rfl rfl rfl rfl Try.isAgg25 Tk (by omega) (tc_o hp hx) ?_
  refine q_field (k := 3) rfl rfl rfl rfl Try.underlying68 rfl Try.sizeOf3 rfl ?_
  refine q_load_c (j := 3) rfl rfl rfl rfl Try.isAgg3 Tk Az (by rfl) ?_
  have sp_5 := Vp.o_inc hx th
  refine l_call rfl rfl rfl rfl rfl rfl Try.call28 (sp_5) Ts ?_
  rintro ⟨⟩ -
  try simp only [List.cons_append, List.nil_append]
  refine ag_nil (q_move rfl rfl rfl rfl (q_extract rfl rfl rfl rfl rfl (q_extract rfl rfl rfl rfl rfl (q_assign rfl rfl rfl rfl (q_assign rfl rfl rfl rfl (r_done (s_keep [0, 3, 5, 6, 7] (e' := [(0, _), (3, _), (5, _), (6, _), (7, _)]) rfl ?_)))))))
  refine k_then_n (c_seq (c_draw rfl (.q 0 (.q 1 (.q 2 (.q 3 (.q 4 (.q 5 (.q 6 (.q 7 ((.l 8 [] (.q 9 (.q 10 (.q 11 (.q 12 (.q 13 (.done)))))))))))))))) (by kernel_rfl) ?_))
  refine q_move rfl rfl rfl rfl (q_move rfl rfl rfl rfl (q_nil_p rfl rfl rfl rfl (q_field (k := 3) rfl rfl rfl rfl Try.underlying62 rfl Try.sizeOf59 rfl ?_)))
  refine q_idxA (k := (plN on)) rfl rfl rfl rfl rfl Try.underlying59 Try.sizeOf58 (by first | rfl | omega) (by omega) ?_
  refine q_load_c (j := 3 + (plN on)) rfl rfl rfl rfl Try.isAgg58 Tk (by omega) (tc_q hq hy) ?_
  refine q_field (k := 3) rfl rfl rfl rfl Try.underlying68 rfl Try.sizeOf3 rfl ?_
  refine q_load_c (j := 3) rfl rfl rfl rfl Try.isAgg3 Tk Az (by rfl) ?_
  have sp_6 := Vp.r_inc hy th
  refine l_call rfl rfl rfl rfl rfl rfl Try.call52 (sp_6) Ts ?_
  rintro ⟨⟩ -
  try simp only [List.cons_append, List.nil_append]
  refine ag_nil (q_move rfl rfl rfl rfl (q_extract rfl rfl rfl rfl rfl (q_extract rfl rfl rfl rfl rfl (q_assign rfl rfl rfl rfl (q_assign rfl rfl rfl rfl (r_done (s_keep [6, 7, 8, 9] (e' := [(6, _), (7, _), (8, _), (9, _)]) rfl ?_)))))))
  refine k_then_n (c_seq (c_plain (.q 0 (.q 1 (.q 2 (.q 3 (.q 4 ((.l 5 [] (.q 6 (.q 7 (.q 8 (.q 9 (.done)))))))))))) (by kernel_rfl) ?_))
  refine q_move rfl rfl rfl rfl (q_move rfl rfl rfl rfl (q_int rfl rfl rfl rfl rfl (b_eql _ _ _ _) ?_))
  refine s_eq 74 rfl (v' := .bool true) (by first | (rw [decide_eq_true rfl]; done) | simp) ?_
  refine q_move rfl rfl rfl rfl (q_move rfl rfl rfl rfl ?_)
  have sp_7 := Vc.num_spec (iMe th m)
  refine l_call rfl rfl rfl rfl rfl rfl Try.call23 (sp_7) Ts ?_
  rintro ⟨⟩ -
  try simp only [List.cons_append, List.nil_append]
  refine ag_nil (q_move rfl rfl rfl rfl (q_int rfl rfl rfl rfl rfl (b_eql _ _ _ _) ?_))
  refine s_eq 79 rfl (v' := .bool true) (by first | (rw [decide_eq_true rfl]; done) | simp) ?_
  refine q_pick_t rfl rfl rfl rfl rfl (q_assign rfl rfl rfl rfl (r_done (s_keep [4] (e' := [(4, _)]) rfl ?_)))
  refine k_then_n (c_ret (k_blk_ret (k_then_ret (tab_fold (b := b) ⟨T.O.set (plN on) (a, m.map (fun t => inA t th)), T.Q.set (plN on) (r, m.map (fun t => inA t th)), T.C, T.W⟩ Ts (map_same hp hx) (map_same hq hy) rfl rfl ?_))))
  refine ret1 rfl rfl (⟨T.O.set (plN on) (a, m.map (fun t => inA t th)), T.Q.set (plN on) (r, m.map (fun t => inA t th)), T.C, T.W⟩) (by first | rfl | (first | rfl | (congr 1; done) | (congr 1 <;> first | rfl | omega | (simp; done) | (simp; omega)))) (by exact tok_set hT (plN on) a r _) ?_
  exact Tf
 refine c_seq (c_plain (.q 0 (.q 1 (.done))) (by kernel_rfl) ?_)
 refine q_int rfl rfl rfl rfl rfl (b_eql _ _ _ _) ?_
 refine q_assign rfl rfl rfl rfl (r_done (k_then_n ?_))
 refine c_cond_p rfl (fun hk8 => ?_) (fun hk8 => ?_)
 ·
  refine c_seq (c_plain (.q 0 (.q 1 (.q 2 (.q 3 (.q 4 (.q 5 ((.l 6 [] (.done))))))))) (by kernel_rfl) ?_)
  refine q_move rfl rfl rfl rfl (q_move rfl rfl rfl rfl (q_nil_p rfl rfl rfl rfl (q_field (k := 0) rfl rfl rfl rfl Try.underlying62 rfl Try.sizeOf57 rfl ?_)))
  refine q_idxA (k := (plN on)) rfl rfl rfl rfl rfl Try.underlying57 Try.sizeOf25 (by first | rfl | omega) (by omega) ?_
  refine q_load_c (j := 0 + (plN on)) rfl rfl rfl rfl Try.isAgg25 Tk (by omega) (tc_o hp hx) ?_
  have sp_8 := Vp.o_clear hx 
  refine l_call rfl rfl rfl rfl rfl rfl Try.call25 (sp_8) Ts ?_
  rintro ⟨⟩ -
  try simp only [List.cons_append, List.nil_append]
  refine ag_nil (r_done (s_keep [0, 5] (e' := [(0, _), (5, _)]) rfl ?_))
  refine k_then_n (c_seq (c_plain (.q 0 (.q 1 (.q 2 (.q 3 (.q 4 (.q 5 ((.l 6 [] (.done))))))))) (by kernel_rfl) ?_))
  refine q_move rfl rfl rfl rfl (q_move rfl rfl rfl rfl (q_nil_p rfl rfl rfl rfl (q_field (k := 3) rfl rfl rfl rfl Try.underlying62 rfl Try.sizeOf59 rfl ?_)))
  refine q_idxA (k := (plN on)) rfl rfl rfl rfl rfl Try.underlying59 Try.sizeOf58 (by first | rfl | omega) (by omega) ?_
  refine q_load_c (j := 3 + (plN on)) rfl rfl rfl rfl Try.isAgg58 Tk (by omega) (tc_q hq hy) ?_
  have sp_9 := Vp.r_clear hy 
  refine l_call rfl rfl rfl rfl rfl rfl Try.call53 (sp_9) Ts ?_
  rintro ⟨⟩ -
  try simp only [List.cons_append, List.nil_append]
  refine ag_nil (r_done (s_keep [] (e' := []) rfl ?_))
  refine k_then_n (c_seq (c_plain (.q 0 (.done)) (by kernel_rfl) ?_))
  refine q_assign rfl rfl rfl rfl (r_done (k_then_n (c_ret (k_blk_ret (k_then_ret (tab_fold (b := b) ⟨T.O.set (plN on) (a, m.map (fun _ => [])), T.Q.set (plN on) (r, m.map (fun _ => [])), T.C, T.W⟩ Ts (map_same hp hx) (map_same hq hy) rfl rfl ?_))))))
  refine ret1 rfl rfl (⟨T.O.set (plN on) (a, m.map (fun _ => [])), T.Q.set (plN on) (r, m.map (fun _ => [])), T.C, T.W⟩) (by first | rfl | (first | rfl | (congr 1; done) | (congr 1 <;> first | rfl | omega | (simp; done) | (simp; omega)))) (by exact tok_set hT (plN on) a r _) ?_
  exact Tf
 refine c_skip (k_blk_n (k_then_n (c_seq (c_plain (.q 0 (.q 1 ((.l 2 [] (.q 3 (.q 4 (.q 5 (.q 6 (.q 7 (.done)))))))))) (by kernel_rfl) ?_))))
 refine q_move rfl rfl rfl rfl (q_loadN_c rfl rfl rfl rfl Try.isAgg68 Try.sizeOf68 Tk 0 (us := [_, _, _, _, _, _, _, _]) Az rfl rfl ?_)
 have sp_10 := Vp.others_spec b T p0 p1 p2 p3 p4 p5 ca wa cc wc hp hq hrel kd on th ck lv ep ws so sn sc cs ko kn kc A hrw hws hsb hrc hcs hkb hc0 hck hep
 refine l_call rfl rfl rfl rfl rfl rfl Try.call54 (sp_10) Ts ?_
 rintro ⟨⟨la, lc⟩, ma, mc⟩ -
 try simp only [List.cons_append, List.nil_append]
 refine ag_nil (q_move rfl rfl rfl rfl (q_extract rfl rfl rfl rfl rfl (q_extract rfl rfl rfl rfl rfl (q_assign rfl rfl rfl rfl (q_assign rfl rfl rfl rfl (r_done (s_keep [0, 3, 5, 10, 11] (e' := [(0, _), (3, _), (5, _), (10, _), (11, _)]) rfl ?_)))))))
 refine k_then_n (c_seq ?_)
 have hpl0 : ((ws.map plN).map (ptr T.O)).length = sn := by rw [List.length_map, List.length_map]; exact hws
 refine c_plain ((.l 0 [] (.q 1 ((.l 2 [] ((.l 3 [] ((.l 4 [] (.q 5 (.done))))))))))) (by kernel_rfl) ?_
 refine l_buildSlice0 rfl rfl rfl rfl Try.underlying73 Try.sizeOf25 ?_
 intro b103
 refine ag_nil (q_move rfl rfl rfl rfl (s_take (A := own 1 encA la lc ((ws.map plN).map (ptr T.O))) Tk ?_))
 refine own_fc fun f_11a f_11b f_11c => ?_
 refine s_take (A := cells b103 0 []) Tk ?_
 refine s_heap (fun _ h => own_mk (sz := 1) (enc := encA) (xs := []) (sp := []) (cap := 0) (Nat.le_refl _) rfl h) ?_
 refine l_append (sz := 1) (enc := encA) (xs := []) rfl rfl rfl rfl rfl Try.underlying73 Try.typeInfo25 rfl rfl rfl (by decide) Tk Tk (by first | rfl | omega | (simp; done) | (simp; omega)) (ys := ((ws.map plN).map (ptr T.O))) (rds_own encA_len (fun h => (f_11b h).1) f_11c) (by rfl) (by first | rfl | omega) (encA_len) (encA_one) (by omega) (by show _ * 8 ≤ _; omega) ?_
 intro ao105 cp105
 try simp only [List.nil_append]
 refine s_eq 105 rfl (v' := .slice ao105 sn cp105) (by first | rfl | (congr 1; done) | (congr 1 <;> first | rfl | omega | (simp; done) | (simp; omega))) ?_
 refine ag_nil (l_buildSlice rfl rfl rfl rfl (run_build1 (us := [_]) Try.underlying73 Try.sizeOf25 rfl Try.zeroValue25 rfl rfl rfl) ?_)
 intro b106
 refine ag_nil (l_append (sz := 1) (enc := encA) (xs := (((ws.map plN).map (ptr T.O)))) rfl rfl rfl rfl rfl Try.underlying73 Try.typeInfo25 rfl rfl rfl (by decide) Tk Tk (by first | rfl | omega | (simp; done) | (simp; omega)) (ys := [(none : Option Addr)]) (rds_some rdn_cells) (by rfl) (by first | rfl | omega) (encA_len) (encA_one) (by omega) (by show _ * 8 ≤ _; omega) ?_)
 intro ao107 cp107
 refine ag_nil ?_
 have hpl1 : ((ws.map plN).map (ptr T.O)).length = sn := by rw [List.length_map, List.length_map]; exact hws
 have hnn : (((ws.map plN).map (ptr T.O)) ++ [(none : Option Addr)])[sn]? = some none := by rw [← hpl1]; simp
 refine s_take (A := own 1 encA ao107 cp107 (((ws.map plN).map (ptr T.O)) ++ [(none : Option Addr)])) Tk ?_
 refine own_fc fun wt1 wt2 wt3 => ?_
 have hwt1 := wt1
 simp only [List.length_append, List.length_singleton] at hwt1
 refine q_assign rfl rfl rfl rfl (r_done (s_keep [0, 3, 5, 10, 11, 12] (e' := [(0, _), (3, _), (5, _), (10, _), (11, _), (12, _)]) rfl ?_))
 refine k_then_n (c_seq (c_plain (.q 0 (.done)) (by kernel_rfl) ?_))
 refine q_assign rfl rfl rfl rfl (r_done (k_then_n (c_seq (c_seq (c_plain (.q 0 (.q 1 (.q 2 (.done)))) (by kernel_rfl) ?_)))))
 refine q_field (k := 0) rfl rfl rfl rfl Try.underlying68 rfl Try.sizeOf3 rfl ?_
 refine q_load_c (j := 0) rfl rfl rfl rfl Try.isAgg3 Tk Az (by rfl) ?_
 refine q_int rfl rfl rfl rfl rfl (b_eql _ _ _ _) ?_
 refine r_done (s_keep [0, 5, 10, 11, 12, 110] (e' := [(0, _), (5, _), (10, _), (11, _), (12, _), (110, _)]) rfl ?_)
 refine k_then_n ?_
 refine c_cond_p rfl (fun hk6 => ?_) (fun hk6 => ?_)
 ·
  refine c_draw rfl (.q 0 (.q 1 (.q 2 (.q 3 (.q 4 (.q 5 (.q 6 (.q 7 (.q 8 (.q 9 (.q 12 (.q 13 (.q 14 (.q 15 (.q 16 (.q 17 (.q 18 ((.l 10 [17] ((.l 11 [17] ((.l 19 [] (.q 20 (.q 21 (.done)))))))))))))))))))))))))) (by kernel_rfl) ?_
  refine q_move rfl rfl rfl rfl (q_move rfl rfl rfl rfl (q_nil_p rfl rfl rfl rfl (q_field (k := 0) rfl rfl rfl rfl Try.underlying62 rfl Try.sizeOf57 rfl ?_)))
  refine q_idxA (k := (plN on)) rfl rfl rfl rfl rfl Try.underlying57 Try.sizeOf25 (by first | rfl | omega) (by omega) ?_
  refine q_load_c (j := 0 + (plN on)) rfl rfl rfl rfl Try.isAgg25 Tk (by omega) (tc_o hp hx) ?_
  refine q_move rfl rfl rfl rfl (q_move rfl rfl rfl rfl (q_len rfl rfl rfl rfl Try.underlying73 ?_))
  refine q_cut_hi (h' := sn) rfl rfl rfl rfl rfl Try.underlying73 Try.sizeOf25 (by first | rfl | omega) (by omega) ?_
  refine s_take (A := own 1 encA ao107 cp107 (((ws.map plN).map (ptr T.O)) ++ [(none : Option Addr)])) Tk ?_
  refine own_fc fun f_12a f_12b f_12c => ?_
  refine q_move rfl rfl rfl rfl (q_move rfl rfl rfl rfl (q_nil_p rfl rfl rfl rfl (q_field (k := 3) rfl rfl rfl rfl Try.underlying62 rfl Try.sizeOf59 rfl ?_)))
  refine q_idxA (k := (plN on)) rfl rfl rfl rfl rfl Try.underlying59 Try.sizeOf58 (by first | rfl | omega) (by omega) ?_
  refine q_load_c (j := 3 + (plN on)) rfl rfl rfl rfl Try.isAgg58 Tk (by omega) (tc_q hq hy) ?_
  refine q_move rfl rfl rfl rfl ?_
  have sp_13 := Vp.o_join T.O (ws.map plN) (fun p hp_ => by obtain ⟨z, -, rfl⟩ := List.mem_map.1 hp_; have := plN_lt z; omega) ao107 sn cp107 (own 1 encA ao107 cp107 (((ws.map plN).map (ptr T.O)) ++ [(none : Option Addr)])) (own_front encA_len wt2 wt3) (by simpa using hws) (by omega) hx
  refine l_call rfl rfl rfl rfl rfl rfl Try.call29 (sp_13) Ts ?_
  rintro ⟨⟩ -
  try simp only [List.cons_append, List.nil_append]
  refine ag_load_c (q := 3 + (plN on)) rfl rfl rfl Try.isAgg58 Tk (by omega) (tc_q hq hy) ?_
  refine ag_nil ?_
  have sp_14 := Vc.num_spec (if m = none then 1 else oE T.O (ws.map plN))
  refine l_call rfl rfl rfl rfl rfl rfl Try.call23 (sp_14) Ts ?_
  rintro ⟨⟩ -
  try simp only [List.cons_append, List.nil_append]
  refine ag_load_c (q := 3 + (plN on)) rfl rfl rfl Try.isAgg58 Tk (by omega) (tc_q hq hy) ?_
  refine ag_nil (s_take (A := own 1 encA ma mc ((ws.map plN).map (ptr T.Q))) Tk ?_)
  refine own_fc fun f_15a f_15b f_15c => ?_
  have sp_16 := Vp.r_join T.Q (ws.map plN) (fun p hp_ => by obtain ⟨z, -, rfl⟩ := List.mem_map.1 hp_; have := plN_lt z; omega) ma sn mc (own 1 encA ma mc ((ws.map plN).map (ptr T.Q))) (rds_own encA_len (fun h => (f_15b h).1) f_15c) (by simpa using hws) (by omega) hy
  refine l_call rfl rfl rfl rfl rfl rfl Try.call55 (sp_16) Ts ?_
  rintro ⟨⟩ -
  try simp only [List.cons_append, List.nil_append]
  refine ag_nil (q_int rfl rfl rfl rfl rfl (b_eql _ _ _ _) ?_)
  refine s_eq 131 rfl (v' := .bool true) (by rw [rel_oE hrel]; simp) ?_
  refine q_assign rfl rfl rfl rfl (r_done (s_keep [10, 12, 13] (e' := [(10, _), (12, _), (13, _)]) rfl ?_))
  refine k_then_n (c_seq (c_seq (c_plain (.q 0 (.done)) (by kernel_rfl) ?_)))
  refine q_assign rfl rfl rfl rfl (r_done (k_then_n (c_block ?_)))
  refine c_loop2 (α := Nat) (fun (i : Nat) => i ≤ sn) (fun (i : Nat) => [(13, .bool true), (14, .int .i64 ((i : Nat) : Int))]) (fun (i : Nat) => []) (fun (i : Nat) => sn - i) [10, 12] (er := [(10, _), (12, _)]) rfl (0) ?_ (by exact ⟨rfl, rfl, trivial⟩) (by (try dsimp only); (try simp only [Nat.add_zero, Nat.zero_add]); (repeat ((with_reducible apply Z2); focus (first | (with_reducible (repeat (first | exact Z0 | apply Z1)); done) | (repeat (first | exact Z0 | apply Z1))))); exact Z3) ?_
  · exact Nat.zero_le _
  rintro i hle_i
  try simp only [List.cons_append, List.nil_append]
  refine c_seq (c_seq (c_plain (.q 0 (.q 1 (.q 2 (.q 3 (.done))))) (by kernel_rfl) ?_))
  refine q_move rfl rfl rfl rfl (q_move rfl rfl rfl rfl (q_len rfl rfl rfl rfl Try.underlying73 ?_))
  refine q_int rfl rfl rfl rfl rfl (b_lss _ _ _ _) ?_
  refine r_done (k_then_n ?_)
  refine c_cond_p rfl (fun hlt => ?_) (fun hlt => ?_)
  ·
   obtain ⟨x, hx1⟩ := get_lt (l := ((ws.map plN).map (ptr T.O))) (i := i) (by omega)
   have hx2 : (((ws.map plN).map (ptr T.O)) ++ [(none : Option Addr)])[i]? = some x := by rw [List.getElem?_append_left (by omega)]; exact hx1
   refine c_skip (k_then_n (c_seq (c_block (c_draw rfl (.q 0 (.q 1 (.q 2 (.q 3 (.q 4 (.q 5 (.q 6 (.q 7 (.q 8 (.q 9 (.q 10 (.q 11 ((.l 12 [] (.done))))))))))))))) (by kernel_rfl) ?_))))
   refine q_move rfl rfl rfl rfl (q_move rfl rfl rfl rfl (q_move rfl rfl rfl rfl (q_move rfl rfl rfl rfl (q_idxO (sz := 0) (k := i) (enc := encA) (xs := (((ws.map plN).map (ptr T.O)) ++ [(none : Option Addr)])) rfl rfl rfl rfl rfl Try.underlying73 Try.sizeOf25 hx2 (by first | rfl | omega) (by omega) Tk ?_))))
   intro ib163 io163 ha163 hl163 hc163
   refine q_load_O (v := (.pointer x)) (j := 0) (k' := i) (enc := encA) (off := io163) rfl rfl rfl rfl Try.isAgg25 ha163 encA_len hx2 Tk (by first | rfl | exact (Nat.add_zero _).symm | omega) (by rfl) ?_
   refine q_move rfl rfl rfl rfl (q_move rfl rfl rfl rfl (q_idxO (sz := 0) (k := i) (enc := encA) (xs := ((ws.map plN).map (ptr T.O))) rfl rfl rfl rfl rfl Try.underlying73 Try.sizeOf25 hx1 (by first | rfl | omega) (by omega) Tk ?_))
   intro ib167 io167 ha167 hl167 hc167
   refine q_load_O (v := (.pointer x)) (j := 0) (k' := i) (enc := encA) (off := io167) rfl rfl rfl rfl Try.isAgg25 ha167 encA_len hx1 Tk (by first | rfl | exact (Nat.add_zero _).symm | omega) (by rfl) ?_
   refine q_eqS (j := Try.t64) rfl rfl rfl rfl rfl Try.underlying25 (by kernel_rfl) ?_
   refine q_pick_t rfl rfl rfl rfl rfl (l_assign rfl rfl rfl rfl ?_)
   refine ag_nil (r_done (s_keep [10, 12, 13, 14, 161, 162, 163, 164, 165, 166, 167, 168, 169] (e' := [(10, _), (12, _), (13, _), (14, _), (161, _), (162, _), (163, _), (164, _), (165, _), (166, _), (167, _), (168, _), (169, _)]) rfl ?_))
   refine k_blk_n (k_then_n (c_plain (.q 0 (.q 1 (.q 2 (.done)))) (by kernel_rfl) ?_))
   refine q_move rfl rfl rfl rfl (q_int rfl rfl rfl rfl rfl (b_add' _ (by exact fits_i64 (by omega) (by omega))) ?_)
   refine q_assign rfl rfl rfl rfl (r_done (k_then_n ?_))
   refine loop_next (x := i) (i + 1) ?_ ?_ ?_ ?_
   · exact by show i + 1 ≤ sn; omega
   · show sn - (i + 1) < sn - i; omega
   · exact ⟨rfl, rfl, rfl, rfl, trivial⟩
   · (try simp only [List.cons_append, List.nil_append]); exact Tf
  refine c_exit (k_then_exit (k_then_exit (k_blk_here (k_then_n (c_seq (c_plain (.q 0 (.q 1 (.q 2 (.q 3 (.q 4 (.q 5 (.q 6 (.q 7 (.q 8 (.q 9 (.done))))))))))) (by kernel_rfl) ?_))))))
  refine q_move rfl rfl rfl rfl (q_move rfl rfl rfl rfl (q_move rfl rfl rfl rfl (q_move rfl rfl rfl rfl (q_len rfl rfl rfl rfl Try.underlying73 ?_))))
  refine q_idxO (sz := 0) (k := sn) (enc := encA) (xs := (((ws.map plN).map (ptr T.O)) ++ [(none : Option Addr)])) rfl rfl rfl rfl rfl Try.underlying73 Try.sizeOf25 hnn (by first | rfl | omega) (by omega) Tk ?_
  intro ib176 io176 ha176 hl176 hc176
  refine q_load_O (v := (.pointer none)) (j := 0) (k' := sn) (enc := encA) (off := io176) rfl rfl rfl rfl Try.isAgg25 ha176 encA_len hnn Tk (by first | rfl | exact (Nat.add_zero _).symm | omega) (by rfl) ?_
  refine q_eq_nil rfl rfl rfl rfl Try.underlying25 ?_
  refine s_eq 178 rfl (v' := .bool true) rfl ?_
  refine q_pick_t rfl rfl rfl rfl rfl (q_assign rfl rfl rfl rfl (r_done (s_keep [4] (e' := [(4, _)]) rfl ?_)))
  refine k_then_n (c_ret ?_)
  rw [rel_J hrel]
  refine tab_fold (b := b) ⟨T.O.set (plN on) (a, m.map (fun t => if badP T.O (ws.map plN) then t else jnP T.O t (ws.map plN))), T.Q.set (plN on) (r, m.map (fun t => if badP T.O (ws.map plN) then t else jnP T.O t (ws.map plN))), T.C, T.W⟩ Ts (map_same hp hx) (map_same hq hy) rfl rfl ?_
  refine ret1 rfl rfl (⟨T.O.set (plN on) (a, m.map (fun t => if badP T.O (ws.map plN) then t else jnP T.O t (ws.map plN))), T.Q.set (plN on) (r, m.map (fun t => if badP T.O (ws.map plN) then t else jnP T.O t (ws.map plN))), T.C, T.W⟩) (by first | rfl | (first | rfl | (congr 1; done) | (congr 1 <;> first | rfl | omega | (simp; done) | (simp; omega)))) (by exact tok_set hT (plN on) a r _) ?_
  exact Tf
 refine c_draw rfl (.q 0 (.q 1 (.q 2 (.q 3 (.q 4 (.q 5 (.q 6 (.q 7 (.q 8 (.q 9 (.q 12 (.q 13 (.q 14 (.q 15 (.q 16 (.q 17 (.q 18 ((.l 10 [17] ((.l 11 [17] ((.l 19 [] (.q 20 (.q 21 (.done)))))))))))))))))))))))))) (by kernel_rfl) ?_
 refine q_move rfl rfl rfl rfl (q_move rfl rfl rfl rfl (q_nil_p rfl rfl rfl rfl (q_field (k := 0) rfl rfl rfl rfl Try.underlying62 rfl Try.sizeOf57 rfl ?_)))
 refine q_idxA (k := (plN on)) rfl rfl rfl rfl rfl Try.underlying57 Try.sizeOf25 (by first | rfl | omega) (by omega) ?_
 refine q_load_c (j := 0 + (plN on)) rfl rfl rfl rfl Try.isAgg25 Tk (by omega) (tc_o hp hx) ?_
 refine q_move rfl rfl rfl rfl (q_move rfl rfl rfl rfl (q_len rfl rfl rfl rfl Try.underlying73 ?_))
 refine q_cut_hi (h' := sn) rfl rfl rfl rfl rfl Try.underlying73 Try.sizeOf25 (by first | rfl | omega) (by omega) ?_
 refine s_take (A := own 1 encA ao107 cp107 (((ws.map plN).map (ptr T.O)) ++ [(none : Option Addr)])) Tk ?_
 refine own_fc fun f_17a f_17b f_17c => ?_
 refine q_move rfl rfl rfl rfl (q_move rfl rfl rfl rfl (q_nil_p rfl rfl rfl rfl (q_field (k := 3) rfl rfl rfl rfl Try.underlying62 rfl Try.sizeOf59 rfl ?_)))
 refine q_idxA (k := (plN on)) rfl rfl rfl rfl rfl Try.underlying59 Try.sizeOf58 (by first | rfl | omega) (by omega) ?_
 refine q_load_c (j := 3 + (plN on)) rfl rfl rfl rfl Try.isAgg58 Tk (by omega) (tc_q hq hy) ?_
 refine q_move rfl rfl rfl rfl ?_
 have sp_18 := Vp.o_meet T.O (ws.map plN) (fun p hp_ => by obtain ⟨z, -, rfl⟩ := List.mem_map.1 hp_; have := plN_lt z; omega) ao107 sn cp107 (own 1 encA ao107 cp107 (((ws.map plN).map (ptr T.O)) ++ [(none : Option Addr)])) (own_front encA_len wt2 wt3) (by simpa using hws) (by omega) hx
 refine l_call rfl rfl rfl rfl rfl rfl Try.call38 (sp_18) Ts ?_
 rintro ⟨⟩ -
 try simp only [List.cons_append, List.nil_append]
 refine ag_load_c (q := 3 + (plN on)) rfl rfl rfl Try.isAgg58 Tk (by omega) (tc_q hq hy) ?_
 refine ag_nil ?_
 have sp_19 := Vc.num_spec (if m = none then 1 else oE T.O (ws.map plN))
 refine l_call rfl rfl rfl rfl rfl rfl Try.call23 (sp_19) Ts ?_
 rintro ⟨⟩ -
 try simp only [List.cons_append, List.nil_append]
 refine ag_load_c (q := 3 + (plN on)) rfl rfl rfl Try.isAgg58 Tk (by omega) (tc_q hq hy) ?_
 refine ag_nil (s_take (A := own 1 encA ma mc ((ws.map plN).map (ptr T.Q))) Tk ?_)
 refine own_fc fun f_20a f_20b f_20c => ?_
 have sp_21 := Vp.r_meet T.Q (ws.map plN) (fun p hp_ => by obtain ⟨z, -, rfl⟩ := List.mem_map.1 hp_; have := plN_lt z; omega) ma sn mc (own 1 encA ma mc ((ws.map plN).map (ptr T.Q))) (rds_own encA_len (fun h => (f_20b h).1) f_20c) (by simpa using hws) (by omega) hy
 refine l_call rfl rfl rfl rfl rfl rfl Try.call56 (sp_21) Ts ?_
 rintro ⟨⟩ -
 try simp only [List.cons_append, List.nil_append]
 refine ag_nil (q_int rfl rfl rfl rfl rfl (b_eql _ _ _ _) ?_)
 refine s_eq 152 rfl (v' := .bool true) (by rw [rel_oE hrel]; simp) ?_
 refine q_assign rfl rfl rfl rfl (r_done (s_keep [10, 12, 13] (e' := [(10, _), (12, _), (13, _)]) rfl ?_))
 refine k_then_n (c_seq (c_seq (c_plain (.q 0 (.done)) (by kernel_rfl) ?_)))
 refine q_assign rfl rfl rfl rfl (r_done (k_then_n (c_block ?_)))
 refine c_loop2 (α := Nat) (fun (i : Nat) => i ≤ sn) (fun (i : Nat) => [(13, .bool true), (14, .int .i64 ((i : Nat) : Int))]) (fun (i : Nat) => []) (fun (i : Nat) => sn - i) [10, 12] (er := [(10, _), (12, _)]) rfl (0) ?_ (by exact ⟨rfl, rfl, trivial⟩) (by (try dsimp only); (try simp only [Nat.add_zero, Nat.zero_add]); (repeat ((with_reducible apply Z2); focus (first | (with_reducible (repeat (first | exact Z0 | apply Z1)); done) | (repeat (first | exact Z0 | apply Z1))))); exact Z3) ?_
 · exact Nat.zero_le _
 rintro i hle_i
 try simp only [List.cons_append, List.nil_append]
 refine c_seq (c_seq (c_plain (.q 0 (.q 1 (.q 2 (.q 3 (.done))))) (by kernel_rfl) ?_))
 refine q_move rfl rfl rfl rfl (q_move rfl rfl rfl rfl (q_len rfl rfl rfl rfl Try.underlying73 ?_))
 refine q_int rfl rfl rfl rfl rfl (b_lss _ _ _ _) ?_
 refine r_done (k_then_n ?_)
 refine c_cond_p rfl (fun hlt => ?_) (fun hlt => ?_)
 ·
  obtain ⟨x, hx1⟩ := get_lt (l := ((ws.map plN).map (ptr T.O))) (i := i) (by omega)
  have hx2 : (((ws.map plN).map (ptr T.O)) ++ [(none : Option Addr)])[i]? = some x := by rw [List.getElem?_append_left (by omega)]; exact hx1
  refine c_skip (k_then_n (c_seq (c_block (c_draw rfl (.q 0 (.q 1 (.q 2 (.q 3 (.q 4 (.q 5 (.q 6 (.q 7 (.q 8 (.q 9 (.q 10 (.q 11 ((.l 12 [] (.done))))))))))))))) (by kernel_rfl) ?_))))
  refine q_move rfl rfl rfl rfl (q_move rfl rfl rfl rfl (q_move rfl rfl rfl rfl (q_move rfl rfl rfl rfl (q_idxO (sz := 0) (k := i) (enc := encA) (xs := (((ws.map plN).map (ptr T.O)) ++ [(none : Option Addr)])) rfl rfl rfl rfl rfl Try.underlying73 Try.sizeOf25 hx2 (by first | rfl | omega) (by omega) Tk ?_))))
  intro ib163 io163 ha163 hl163 hc163
  refine q_load_O (v := (.pointer x)) (j := 0) (k' := i) (enc := encA) (off := io163) rfl rfl rfl rfl Try.isAgg25 ha163 encA_len hx2 Tk (by first | rfl | exact (Nat.add_zero _).symm | omega) (by rfl) ?_
  refine q_move rfl rfl rfl rfl (q_move rfl rfl rfl rfl (q_idxO (sz := 0) (k := i) (enc := encA) (xs := ((ws.map plN).map (ptr T.O))) rfl rfl rfl rfl rfl Try.underlying73 Try.sizeOf25 hx1 (by first | rfl | omega) (by omega) Tk ?_))
  intro ib167 io167 ha167 hl167 hc167
  refine q_load_O (v := (.pointer x)) (j := 0) (k' := i) (enc := encA) (off := io167) rfl rfl rfl rfl Try.isAgg25 ha167 encA_len hx1 Tk (by first | rfl | exact (Nat.add_zero _).symm | omega) (by rfl) ?_
  refine q_eqS (j := Try.t64) rfl rfl rfl rfl rfl Try.underlying25 (by kernel_rfl) ?_
  refine q_pick_t rfl rfl rfl rfl rfl (l_assign rfl rfl rfl rfl ?_)
  refine ag_nil (r_done (s_keep [10, 12, 13, 14, 161, 162, 163, 164, 165, 166, 167, 168, 169] (e' := [(10, _), (12, _), (13, _), (14, _), (161, _), (162, _), (163, _), (164, _), (165, _), (166, _), (167, _), (168, _), (169, _)]) rfl ?_))
  refine k_blk_n (k_then_n (c_plain (.q 0 (.q 1 (.q 2 (.done)))) (by kernel_rfl) ?_))
  refine q_move rfl rfl rfl rfl (q_int rfl rfl rfl rfl rfl (b_add' _ (by exact fits_i64 (by omega) (by omega))) ?_)
  refine q_assign rfl rfl rfl rfl (r_done (k_then_n ?_))
  refine loop_next (x := i) (i + 1) ?_ ?_ ?_ ?_
  · exact by show i + 1 ≤ sn; omega
  · show sn - (i + 1) < sn - i; omega
  · exact ⟨rfl, rfl, rfl, rfl, trivial⟩
  · (try simp only [List.cons_append, List.nil_append]); exact Tf
 refine c_exit (k_then_exit (k_then_exit (k_blk_here (k_then_n (c_seq (c_plain (.q 0 (.q 1 (.q 2 (.q 3 (.q 4 (.q 5 (.q 6 (.q 7 (.q 8 (.q 9 (.done))))))))))) (by kernel_rfl) ?_))))))
 refine q_move rfl rfl rfl rfl (q_move rfl rfl rfl rfl (q_move rfl rfl rfl rfl (q_move rfl rfl rfl rfl (q_len rfl rfl rfl rfl Try.underlying73 ?_))))
 refine q_idxO (sz := 0) (k := sn) (enc := encA) (xs := (((ws.map plN).map (ptr T.O)) ++ [(none : Option Addr)])) rfl rfl rfl rfl rfl Try.underlying73 Try.sizeOf25 hnn (by first | rfl | omega) (by omega) Tk ?_
 intro ib176 io176 ha176 hl176 hc176
 refine q_load_O (v := (.pointer none)) (j := 0) (k' := sn) (enc := encA) (off := io176) rfl rfl rfl rfl Try.isAgg25 ha176 encA_len hnn Tk (by first | rfl | exact (Nat.add_zero _).symm | omega) (by rfl) ?_
 refine q_eq_nil rfl rfl rfl rfl Try.underlying25 ?_
 refine s_eq 178 rfl (v' := .bool true) rfl ?_
 refine q_pick_t rfl rfl rfl rfl rfl (q_assign rfl rfl rfl rfl (r_done (s_keep [4] (e' := [(4, _)]) rfl ?_)))
 refine k_then_n (c_ret ?_)
 rw [rel_M hrel]
 refine tab_fold (b := b) ⟨T.O.set (plN on) (a, m.map (fun t => if badP T.O (ws.map plN) then t else mtP T.O t (ws.map plN))), T.Q.set (plN on) (r, m.map (fun t => if badP T.O (ws.map plN) then t else mtP T.O t (ws.map plN))), T.C, T.W⟩ Ts (map_same hp hx) (map_same hq hy) rfl rfl ?_
 refine ret1 rfl rfl (⟨T.O.set (plN on) (a, m.map (fun t => if badP T.O (ws.map plN) then t else mtP T.O t (ws.map plN))), T.Q.set (plN on) (r, m.map (fun t => if badP T.O (ws.map plN) then t else mtP T.O t (ws.map plN))), T.C, T.W⟩) (by first | rfl | (first | rfl | (congr 1; done) | (congr 1 <;> first | rfl | omega | (simp; done) | (simp; omega)))) (by exact tok_set hT (plN on) a r _) ?_
 exact Tf
end Go.Ab.Vp
set_option linter.unusedVariables false
set_option linter.unusedSimpArgs false
set_option maxRecDepth 100000
namespace Go.Ab.Vp
open Go Go.Proofs Go.Ab Go.Ab.Vc Go.Ab.Rv
theorem gM_at {m : Option (List Int)} {i : Nat} {x : Int} (h : (lM m)[i]? = some x) : gM (i : Int) m = x := by
  cases m with
  | none => simp [lM] at h
  | some t => show gZ t (i : Int) = x; rw [gZ_nat]; exact Vc.getD_mem h
theorem nz_skip {l : List Int} {i : Nat} (h : l[i]? = some 0) : nz l (i + 1) = nz l i := if_pos (Vc.getD_mem h)
theorem nz_more {l : List Int} {i : Nat} {x : Int} (h : l[i]? = some x) (hx : x ≠ 0) : nz l (i + 1) = nz l i ++ [(i : Int)] := if_neg (by rw [Vc.getD_mem h]; exact hx)
theorem nz_pre (l : List Int) (i j : Nat) (h : i ≤ j) : ∃ s, nz l j = nz l i ++ s := by
  induction j with
  | zero => obtain rfl : i = 0 := by omega
            exact ⟨[], by simp⟩
  | succ j ih =>
    rcases Nat.lt_or_ge j i with h1 | h1
    · obtain rfl : i = j + 1 := by omega
      exact ⟨[], by simp⟩
    · obtain ⟨s, hs⟩ := ih h1
      show ∃ s, (if l.getD j 0 = 0 then nz l j else nz l j ++ [(j : Int)]) = nz l i ++ s
      split
      · exact ⟨s, hs⟩
      · exact ⟨s ++ [(j : Int)], by rw [hs, List.append_assoc]⟩
theorem nz_at {l : List Int} {i : Nat} {x : Int} (h : l[i]? = some x) (hx : x ≠ 0) : (nz l l.length)[(nz l i).length]? = some (i : Int) := by
  obtain ⟨s, hs⟩ := nz_pre l (i + 1) l.length (List.getElem?_eq_some_iff.1 h).1
  rw [hs, nz_more h hx, List.append_assoc]
  simp
theorem big_len {w0 : World} {ds : List Deferred} {n : Nat} {e : Env} {Γ Γ' : List HProp} {X : Act → World → Prop} {L : List Pl} {i : Nat} {a : Option Addr} {m : Option (List Int)} (tk : Take Γ (bigS (plF owB) L) Γ') (hx : L[i]? = some (a, m)) (k : (lM m).length ≤ 65535 → Le (St w0 ds n e Γ) X) : Le (St w0 ds n e Γ) X := s_know (fun h s => by
  obtain ⟨h1, l1, a1, s1⟩ := big_take (f := plF owB) hx (tk h s)
  cases m with
  | none => exact Nat.zero_le _
  | some t =>
    obtain ⟨b, hb, ao, cap, hc, -⟩ := a1
    exact hc.len) k
theorem walk_spec (b : Nat) (T : TS) (p0 p1 p2 p3 p4 p5 ca wa : Option Addr) (cc wc : Nat) (hp : [p0, p1, p2] = T.O.map (·.1)) (hq : [p3, p4, p5] = T.Q.map (·.1)) (hrel : T.O.map (·.2) = T.Q.map (·.2)) (kd on th ck lv : Int) (ep : Nat) (ws : List Int) (so : Option Addr) (sn sc : Nat) (cs : List Int) (ko : Option Addr) (kn kc : Nat) (A : HProp) (hrw : RdS A so (ws.flatMap encZ)) (hws : ws.length = sn) (hsb : sn ≤ 4000000) (hrc : RdS A ko (cs.flatMap encU)) (hcs : cs.length = kn) (hkb : kn ≤ 4000000) (hc0 : ∀ x ∈ cs, 0 ≤ x) (hck : 0 ≤ ck) (hep : ep < 18446744073709551616) {a r : Option Addr} {m : Option (List Int)} (hx : T.O[plN on]? = some (a, m)) (hy : T.Q[plN on]? = some (r, m)) : Spec Try.prog 61 [.pointer (some ⟨b, 0, none⟩), .agg #[.int .i64 kd, .int .i64 on, .slice so sn sc, .int .i64 th, .int .u64 ck, .slice ko kn kc, .int .u64 ((ep : Nat) : Int), .int .i64 lv]] [cells b 0 [.pointer p0, .pointer p1, .pointer p2, .pointer p3, .pointer p4, .pointer p5, .slice ca T.C.length cc, .slice wa T.W.length wc], bigS (plF owB) T.O, bigS (plF ckB) T.Q] (fun (_ : Unit) => .bool true) (fun _ => True) (fun _ => [cells b 0 [.pointer p0, .pointer p1, .pointer p2, .pointer p3, .pointer p4, .pointer p5, .slice ca T.C.length cc, .slice wa T.W.length wc], bigS (plF owB) T.O, bigS (plF ckB) T.Q]) := by
 refine spec_mkM (n := 108) Try.func61 rfl rfl rfl ?_
 intro Γ w0
 simp only [argE, List.cons_append, List.nil_append, Nat.zero_add, Nat.reduceAdd]
 have hO3 := len3 hp
 have hQ3 := len3 hq
 refine big_len (L := T.O) Tk hx fun hml => ?_
 have hnl_ := nz_len (lM m) (lM m).length
 have hnw : (nzM m).length ≤ 65535 := by unfold nzM; omega
 refine c_seq (c_plain ((.l 0 [] ((.l 1 [] ((.l 2 [] (.done))))))) (by kernel_rfl) ?_)
 refine l_box rfl rfl rfl rfl (us := [_]) rfl ?_
 intro b2
 refine ag_nil (l_box rfl rfl rfl rfl (us := [_, _, _, _, _, _, _, _]) rfl ?_)
 intro b3
 refine ag_nil (l_alloc rfl rfl rfl Try.zeroValue4 (zs := [.bool false]) rfl ?_)
 intro b4
 refine ag_nil (r_done (k_then_n (c_seq (c_plain (.q 0 (.q 1 ((.l 2 [] ((.l 3 [] ((.l 4 [] (.done))))))))) (by kernel_rfl) ?_))))
 refine q_field (k := 1) rfl rfl rfl rfl Try.underlying68 rfl Try.sizeOf3 rfl ?_
 refine q_load_c (j := 1) rfl rfl rfl rfl Try.isAgg3 Tk Az (by rfl) ?_
 have sp_1 := Vp.place_spec on
 refine l_call rfl rfl rfl rfl rfl rfl Try.call48 (sp_1) Ts ?_
 rintro ⟨⟩ -
 have hpl_ := plN_lt on
 try simp only [List.cons_append, List.nil_append]
 refine ag_nil (l_alloc rfl rfl rfl Try.zeroValue3 (zs := [.int .i64 0]) rfl ?_)
 intro b5
 refine ag_nil (l_store (j := 0) rfl rfl rfl rfl Try.sizeOf3 (us := [_]) rfl rfl rfl Tk Az (by first | decide | (simp; done) | omega) ?_)
 simp only [setL, List.set]
 refine ag_nil (r_done (s_keep [2, 3, 4, 5] (e' := [(2, _), (3, _), (4, _), (5, _)]) rfl ?_))
 refine k_then_n (c_seq (c_draw rfl (.q 0 (.q 1 (.q 2 (.q 3 (.q 4 (.q 5 ((.alt (.l 6 [] ((.l 7 [] ((.l 8 [] (.done)))))) (.l 7 [0, 1, 5] ((.l 6 [] ((.l 8 [] (.done)))))))))))))) (by kernel_rfl) ?_))
 refine q_load_c (j := 0) rfl rfl rfl rfl Try.isAgg56 Tk Az (by rfl) ?_
 refine q_load_c (j := 0) rfl rfl rfl rfl Try.isAgg3 Tk Az (by rfl) ?_
 refine q_nil_p rfl rfl rfl rfl (q_field (k := 3) rfl rfl rfl rfl Try.underlying62 rfl Try.sizeOf59 rfl ?_)
 refine q_idxA (k := (plN on)) rfl rfl rfl rfl rfl Try.underlying59 Try.sizeOf58 (by first | rfl | omega) (by omega) ?_
 refine q_load_c (j := 3 + (plN on)) rfl rfl rfl rfl Try.isAgg58 Tk (by omega) (tc_q hq hy) ?_
 refine r_alt ?_ ?_
 ·
  have sp_2 := Vp.r_all hy
  refine l_call rfl rfl rfl rfl rfl rfl Try.call72 (sp_2) Ts ?_
  rintro ⟨ra, rc⟩ -
  try simp only [List.cons_append, List.nil_append]
  refine ag_nil (l_alloc rfl rfl rfl Try.zeroValue66 (zs := [.slice none 0 0]) rfl ?_)
  intro b6
  refine ag_nil (l_store (j := 0) rfl rfl rfl rfl Try.sizeOf66 (us := [_]) rfl rfl rfl Tk Az (by first | decide | (simp; done) | omega) ?_)
  simp only [setL, List.set]
  refine ag_nil (r_done (s_keep [2, 3, 4, 5, 6] (e' := [(2, _), (3, _), (4, _), (5, _), (6, _)]) rfl ?_))
  refine k_then_n (c_seq (c_draw rfl (.q 0 (.q 1 (.q 2 (.q 3 (.q 4 (.q 5 ((.l 6 [] (.q 7 (.done)))))))))) (by kernel_rfl) ?_))
  refine q_load_c (j := 0) rfl rfl rfl rfl Try.isAgg56 Tk Az (by rfl) ?_
  refine q_load_c (j := 0) rfl rfl rfl rfl Try.isAgg3 Tk Az (by rfl) ?_
  refine q_nil_p rfl rfl rfl rfl (q_field (k := 0) rfl rfl rfl rfl Try.underlying62 rfl Try.sizeOf57 rfl ?_)
  refine q_idxA (k := (plN on)) rfl rfl rfl rfl rfl Try.underlying57 Try.sizeOf25 (by first | rfl | omega) (by omega) ?_
  refine q_load_c (j := 0 + (plN on)) rfl rfl rfl rfl Try.isAgg25 Tk (by omega) (tc_o hp hx) ?_
  have sp_3 := Vp.o_all hx
  refine l_call rfl rfl rfl rfl rfl rfl Try.call22 (sp_3) Ts ?_
  rintro ⟨qb, qa, qc⟩ -
  try simp only [List.cons_append, List.nil_append]
  refine ag_nil (q_assign rfl rfl rfl rfl (r_done (s_keep [2, 3, 4, 5, 6, 7] (e' := [(2, _), (3, _), (4, _), (5, _), (6, _), (7, _)]) rfl ?_)))
  refine k_then_n (c_seq (c_seq (c_plain (.q 0 (.q 1 (.done))) (by kernel_rfl) ?_)))
  refine q_move rfl rfl rfl rfl (q_eq_nilf rfl rfl rfl rfl Try.underlying41 ?_)
  refine r_done (k_then_n (c_cond_f rfl ?_))
  refine c_skip (k_then_n (c_seq (c_plain ((.l 0 [] ((.l 1 [] (.done))))) (by kernel_rfl) ?_)))
  refine l_alloc rfl rfl rfl Try.zeroValue3 (zs := [.int .i64 0]) rfl ?_
  intro b8
  refine ag_nil (l_store (j := 0) rfl rfl rfl rfl Try.sizeOf3 (us := [_]) rfl rfl rfl Tk Az (by first | decide | (simp; done) | omega) ?_)
  simp only [setL, List.set]
  refine ag_nil (r_done (k_then_n (c_seq (c_seq (c_plain (.q 0 (.done)) (by kernel_rfl) ?_)))))
  refine q_move rfl rfl rfl rfl (r_done (k_then_n (c_block (s_take (A := own 1 encU qa qc (lM m)) Tk ?_))))
  refine own_fc fun hp1 hp2 hp3 => ?_
  refine s_heap (fun _ h => Bun.fold ((by (repeat ((with_reducible apply Z2); focus (first | (with_reducible (repeat (first | exact Z0 | apply Z1)); done) | (repeat (first | exact Z0 | apply Z1))))); exact Z3 : Takes _ [cells b2 0 [.pointer (some ⟨b, 0, none⟩)], cells b3 0 [.int .i64 kd, .int .i64 on, .slice so sn sc, .int .i64 th, .int .u64 ck, .slice ko kn kc, .int .u64 ((ep : Nat) : Int), .int .i64 lv], cells b4 0 [.bool false], cells b5 0 [.int .i64 ((plN on : Nat) : Int)], cells b6 0 [.slice ra (nzM m).length rc], own 1 encZ ra rc (nzM m), cells b8 0 [.int .i64 0], cells b 0 [.pointer p0, .pointer p1, .pointer p2, .pointer p3, .pointer p4, .pointer p5, .slice ca T.C.length cc, .slice wa T.W.length wc], bigS (plF ckB) T.Q] _) _ h)) ?_
  refine c_rangeF _ rfl Try.call65 (fun lp => over1_spec (σ := Nat) (lM m) qa (lM m).length qc qb (own 1 encU qa qc (lM m)) rfl (rds_own encU_len (fun h => (hp2 h).1) hp3) (by omega) (yv lp) (LoopJ lp _ _ _ _ _) (fun k => Bun [cells b2 0 [.pointer (some ⟨b, 0, none⟩)], cells b3 0 [.int .i64 kd, .int .i64 on, .slice so sn sc, .int .i64 th, .int .u64 ck, .slice ko kn kc, .int .u64 ((ep : Nat) : Int), .int .i64 lv], cells b4 0 [.bool false], cells b5 0 [.int .i64 ((plN on : Nat) : Int)], cells b6 0 [.slice ra (nzM m).length rc], own 1 encZ ra rc (nzM m), cells b8 0 [.int .i64 ((k : Nat) : Int)], cells b 0 [.pointer p0, .pointer p1, .pointer p2, .pointer p3, .pointer p4, .pointer p5, .slice ca T.C.length cc, .slice wa T.W.length wc], bigS (plF ckB) T.Q]) (fun i k => k = (nz (lM m) i).length ∧ (lv ≤ 0 ∨ ((k : Nat) : Int) < lv)) (fun k c => c = .exit 0 ∧ ((k : Nat) : Int) = lv ∧ k ≤ (nzM m).length ∧ 1 ≤ k) (fun i x k hxi hxz hI => callF_yield rfl (by decide) (by decide) (fun Γ w0 => ?_)) (fun i k hxi hI => ⟨by rw [nz_skip hxi]; exact hI.1, hI.2⟩) 0 (⟨rfl, by omega⟩)) Ts ?_
  ·
   try simp only [zipE, List.cons_append, List.nil_append]
   obtain ⟨rfl, hI2⟩ := hI
   have hki : (nzM m)[(nz (lM m) i).length]? = some ((i : Nat) : Int) := nz_at hxi hxz
   have hkl := (List.getElem?_eq_some_iff.1 hki).1
   have hil := (List.getElem?_eq_some_iff.1 hxi).1
   have hgx := gM_at hxi
   have hnx := nz_more hxi hxz
   have hnl : (nz (lM m) (i + 1)).length = (nz (lM m) i).length + 1 := by rw [hnx, List.length_append]; rfl
   obtain ⟨k, hk⟩ : ∃ k, k = (nz (lM m) i).length := ⟨_, rfl⟩
   rw [← hk] at hki hkl hnl ⊢
   try rw [← hk] at hI2
   refine s_take (A := Bun [cells b2 0 [.pointer (some ⟨b, 0, none⟩)], cells b3 0 [.int .i64 kd, .int .i64 on, .slice so sn sc, .int .i64 th, .int .u64 ck, .slice ko kn kc, .int .u64 ((ep : Nat) : Int), .int .i64 lv], cells b4 0 [.bool false], cells b5 0 [.int .i64 ((plN on : Nat) : Int)], cells b6 0 [.slice ra (nzM m).length rc], own 1 encZ ra rc (nzM m), cells b8 0 [.int .i64 ((k : Nat) : Int)], cells b 0 [.pointer p0, .pointer p1, .pointer p2, .pointer p3, .pointer p4, .pointer p5, .slice ca T.C.length cc, .slice wa T.W.length wc], bigS (plF ckB) T.Q]) Tk ?_
   refine s_bun ?_
   try simp only [List.cons_append, List.nil_append]
   refine c_seq (c_plain (.q 0 (.done)) (by kernel_rfl) ?_)
   refine q_assign rfl rfl rfl rfl (r_done (k_then_n (c_plain (.q 0 (.done)) (by kernel_rfl) ?_)))
   refine q_assign rfl rfl rfl rfl (r_done (k_then_n (k_begin Tk ?_)))
   refine c_block (c_seq (c_seq (c_draw rfl (.q 0 (.q 1 (.q 2 (.q 3 (.q 4 (.q 5 (.q 6 (.q 7 (.q 8 (.q 9 (.q 10 (.q 11 (.q 12 (.q 13 (.q 14 (.q 15 (.q 16 (.q 17 (.q 18 (.q 19 (.q 20 ((.l 21 [] (.q 22 (.q 23 (.done)))))))))))))))))))))))))) (by kernel_rfl) ?_)))
   refine q_load_c (j := 0) rfl rfl rfl rfl Try.isAgg3 Tk Az (by rfl) ?_
   refine q_load_c (j := 0) rfl rfl rfl rfl Try.isAgg66 Tk Az (by rfl) ?_
   refine q_len rfl rfl rfl rfl Try.underlying66 ?_
   refine q_int rfl rfl rfl rfl rfl (b_geq _ _ _ _) ?_
   refine q_move rfl rfl rfl rfl ?_
   refine s_bool_p 38 rfl (fun hg => by exfalso; omega) (fun hg => ?_)
   refine q_move rfl rfl rfl rfl (q_load_c (j := 0) rfl rfl rfl rfl Try.isAgg66 Tk Az (by rfl) ?_)
   refine q_load_c (j := 0) rfl rfl rfl rfl Try.isAgg3 Tk Az (by rfl) ?_
   refine q_idxO (sz := 0) (k := k) (enc := encZ) (xs := (nzM m)) rfl rfl rfl rfl rfl Try.underlying66 Try.sizeOf3 hki (by first | rfl | omega) (by omega) Tk ?_
   intro ib42 io42 ha42 hl42 hc42
   refine q_load_O (v := (.int .i64 ((i : Nat) : Int))) (j := 0) (k' := k) (enc := encZ) (off := io42) rfl rfl rfl rfl Try.isAgg3 ha42 encZ_len hki Tk (by first | rfl | exact (Nat.add_zero _).symm | omega) (by rfl) ?_
   refine q_int rfl rfl rfl rfl rfl (b_neq _ _ _ _) ?_
   refine s_eq 44 rfl (v' := .bool false) (by simp) ?_
   refine q_pick_f rfl rfl rfl rfl rfl (q_move rfl rfl rfl rfl (q_move rfl rfl rfl rfl (q_load_c (j := 0) rfl rfl rfl rfl Try.isAgg56 Tk Az (by rfl) ?_)))
   refine q_load_c (j := 0) rfl rfl rfl rfl Try.isAgg3 Tk Az (by rfl) ?_
   refine q_nil_p rfl rfl rfl rfl (q_field (k := 3) rfl rfl rfl rfl Try.underlying62 rfl Try.sizeOf59 rfl ?_)
   refine q_idxA (k := (plN on)) rfl rfl rfl rfl rfl Try.underlying59 Try.sizeOf58 (by first | rfl | omega) (by omega) ?_
   refine q_load_c (j := 3 + (plN on)) rfl rfl rfl rfl Try.isAgg58 Tk (by omega) (tc_q hq hy) ?_
   refine q_move rfl rfl rfl rfl ?_
   have sp_4 := Vp.r_get hy ((i : Nat) : Int)
   refine l_call rfl rfl rfl rfl rfl rfl Try.call57 (sp_4) Ts ?_
   rintro ⟨⟩ -
   try simp only [List.cons_append, List.nil_append]
   refine ag_nil (q_int rfl rfl rfl rfl rfl (b_neq _ _ _ _) ?_)
   refine s_eq 56 rfl (v' := .bool false) (by rw [hgx]; simp) ?_
   refine q_pick_f rfl rfl rfl rfl rfl (r_done (s_keep [3, 4, 8, 57] (e' := [(3, _), (4, _), (8, _), (57, _)]) rfl ?_))
   refine k_then_n (c_cond_f rfl ?_)
   refine c_skip (k_then_n (c_seq (c_plain (.q 0 (.q 1 ((.l 2 [] (.done))))) (by kernel_rfl) ?_)))
   refine q_load_c (j := 0) rfl rfl rfl rfl Try.isAgg3 Tk Az (by rfl) ?_
   refine q_int rfl rfl rfl rfl rfl (b_add' _ (by exact fits_i64 (by omega) (by omega))) ?_
   refine l_store (j := 0) rfl rfl rfl rfl Try.sizeOf3 (us := [_]) rfl rfl rfl Tk Az (by first | decide | (simp; done) | omega) ?_
   simp only [setL, List.set]
   refine ag_nil (r_done (s_keep [3, 8] (e' := [(3, _), (8, _)]) rfl ?_))
   refine k_then_n (c_seq (c_plain (.q 0 (.q 1 (.q 2 (.q 3 (.done))))) (by kernel_rfl) ?_))
   refine q_load_c (j := 0) rfl rfl rfl rfl Try.isAgg3 Tk Az (by rfl) ?_
   refine q_field (k := 7) rfl rfl rfl rfl Try.underlying68 rfl Try.sizeOf3 rfl ?_
   refine q_load_c (j := 7) rfl rfl rfl rfl Try.isAgg3 Tk Az (by rfl) ?_
   refine q_int rfl rfl rfl rfl rfl (b_eql _ _ _ _) ?_
   refine r_done (s_keep [63] (e' := [(63, _)]) rfl ?_)
   refine k_then_n ?_
   refine c_cond_p rfl (fun hbr => ?_) (fun hbr => ?_)
   ·
    refine c_exit (k_blk_out rfl ?_)
    refine s_heap (fun _ h => Bun.fold ((by (repeat ((with_reducible apply Z2); focus (first | (with_reducible (repeat (first | exact Z0 | apply Z1)); done) | (repeat (first | exact Z0 | apply Z1))))); exact Z3 : Takes _ [cells b2 0 [.pointer (some ⟨b, 0, none⟩)], cells b3 0 [.int .i64 kd, .int .i64 on, .slice so sn sc, .int .i64 th, .int .u64 ck, .slice ko kn kc, .int .u64 ((ep : Nat) : Int), .int .i64 lv], cells b4 0 [.bool false], cells b5 0 [.int .i64 ((plN on : Nat) : Int)], cells b6 0 [.slice ra (nzM m).length rc], own 1 encZ ra rc (nzM m), cells b8 0 [.int .i64 (((k + 1) : Nat) : Int)], cells b 0 [.pointer p0, .pointer p1, .pointer p2, .pointer p3, .pointer p4, .pointer p5, .slice ca T.C.length cc, .slice wa T.W.length wc], bigS (plF ckB) T.Q] _) _ h)) ?_
    refine rr_exit ((k + 1, some (.exit 0))) (by rfl) (by exact ⟨fun h => (by cases h), fun c hc => (by cases hc; exact ⟨rfl, (by omega), (by omega), (by omega)⟩)⟩) Tk ?_
    (try simp only [List.cons_append, List.nil_append]); exact Tf
   refine c_skip (k_blk_n (s_heap (fun _ h => Bun.fold ((by (repeat ((with_reducible apply Z2); focus (first | (with_reducible (repeat (first | exact Z0 | apply Z1)); done) | (repeat (first | exact Z0 | apply Z1))))); exact Z3 : Takes _ [cells b2 0 [.pointer (some ⟨b, 0, none⟩)], cells b3 0 [.int .i64 kd, .int .i64 on, .slice so sn sc, .int .i64 th, .int .u64 ck, .slice ko kn kc, .int .u64 ((ep : Nat) : Int), .int .i64 lv], cells b4 0 [.bool false], cells b5 0 [.int .i64 ((plN on : Nat) : Int)], cells b6 0 [.slice ra (nzM m).length rc], own 1 encZ ra rc (nzM m), cells b8 0 [.int .i64 (((k + 1) : Nat) : Int)], cells b 0 [.pointer p0, .pointer p1, .pointer p2, .pointer p3, .pointer p4, .pointer p5, .slice ca T.C.length cc, .slice wa T.W.length wc], bigS (plF ckB) T.Q] _) _ h)) ?_))
   refine rr_n ((k + 1, none)) (by rfl) (by exact ⟨fun _ => ⟨by rw [hnl], by omega⟩, fun c hc => (by cases hc)⟩) Tk ?_
   (try simp only [List.cons_append, List.nil_append]); exact Tf
  rintro ⟨k, p⟩ (⟨h1, h2, h3⟩ | ⟨c, h1, h2, h3, h4, h5⟩) blk_5
  try simp only [List.cons_append, List.nil_append]
  ·
   simp only at h1 h2 h3
   subst h1
   have hkn : k = (nzM m).length := h2
   show Le _ _
   try simp only [List.cons_append, List.nil_append]
   refine s_take (A := Bun [cells b2 0 [.pointer (some ⟨b, 0, none⟩)], cells b3 0 [.int .i64 kd, .int .i64 on, .slice so sn sc, .int .i64 th, .int .u64 ck, .slice ko kn kc, .int .u64 ((ep : Nat) : Int), .int .i64 lv], cells b4 0 [.bool false], cells b5 0 [.int .i64 ((plN on : Nat) : Int)], cells b6 0 [.slice ra (nzM m).length rc], own 1 encZ ra rc (nzM m), cells b8 0 [.int .i64 ((k : Nat) : Int)], cells b 0 [.pointer p0, .pointer p1, .pointer p2, .pointer p3, .pointer p4, .pointer p5, .slice ca T.C.length cc, .slice wa T.W.length wc], bigS (plF ckB) T.Q]) Tk ?_
   refine s_bun ?_
   try simp only [List.cons_append, List.nil_append]
   refine k_blk_n (k_then_n (c_seq (c_seq (c_plain (.q 0 (.q 1 (.q 2 (.q 3 (.q 4 (.q 5 (.q 6 (.q 7 (.q 8 (.q 9 (.q 10 (.q 11 (.q 12 (.q 13 (.q 14 (.q 15 (.q 16 (.q 17 (.q 18 (.q 19 (.q 20 (.q 21 (.q 22 (.done)))))))))))))))))))))))) (by kernel_rfl) ?_))))
   refine q_field (k := 7) rfl rfl rfl rfl Try.underlying68 rfl Try.sizeOf3 rfl ?_
   refine q_load_c (j := 7) rfl rfl rfl rfl Try.isAgg3 Tk Az (by rfl) ?_
   refine q_int rfl rfl rfl rfl rfl (b_leq _ _ _ _) ?_
   refine q_move rfl rfl rfl rfl ?_
   refine s_bool_p 67 rfl (fun hl1 => ?_) (fun hl1 => ?_)
   ·
    refine q_load_c (j := 0) rfl rfl rfl rfl Try.isAgg3 Tk Az (by rfl) ?_
    refine q_load_c (j := 0) rfl rfl rfl rfl Try.isAgg66 Tk Az (by rfl) ?_
    refine q_len rfl rfl rfl rfl Try.underlying66 ?_
    refine q_int rfl rfl rfl rfl rfl (b_neq _ _ _ _) ?_
    refine q_pick_t rfl rfl rfl rfl rfl (q_move rfl rfl rfl rfl ?_)
    refine s_bool_p 73 rfl (fun hg => by exfalso; omega) (fun hg => ?_)
    refine q_field (k := 7) rfl rfl rfl rfl Try.underlying68 rfl Try.sizeOf3 rfl ?_
    refine q_load_c (j := 7) rfl rfl rfl rfl Try.isAgg3 Tk Az (by rfl) ?_
    refine q_int rfl rfl rfl rfl rfl (b_gtr _ _ _ _) ?_
    refine q_move rfl rfl rfl rfl ?_
    refine s_bool_p 77 rfl (fun hl2 => ?_) (fun hl2 => ?_)
    ·
     refine q_load_c (j := 0) rfl rfl rfl rfl Try.isAgg3 Tk Az (by rfl) ?_
     refine q_field (k := 7) rfl rfl rfl rfl Try.underlying68 rfl Try.sizeOf3 rfl ?_
     refine q_load_c (j := 7) rfl rfl rfl rfl Try.isAgg3 Tk Az (by rfl) ?_
     refine q_load_c (j := 0) rfl rfl rfl rfl Try.isAgg66 Tk Az (by rfl) ?_
     refine q_len rfl rfl rfl rfl Try.underlying66 ?_
     refine q_min rfl rfl rfl rfl rfl ?_
     refine q_int rfl rfl rfl rfl rfl (b_neq _ _ _ _) ?_
     refine s_eq 84 rfl (v' := .bool false) (by exact congrArg Value.bool (decide_eq_false (fun h => h (by omega)))) ?_
     refine q_pick_t rfl rfl rfl rfl rfl (q_pick_f rfl rfl rfl rfl rfl (r_done (s_keep [4, 6, 7, 8, 86] (e' := [(4, _), (6, _), (7, _), (8, _), (86, _)]) rfl ?_)))
     refine k_then_n (c_cond_f rfl ?_)
     refine c_skip (k_then_n (c_seq (c_plain ((.l 0 [] (.done))) (by kernel_rfl) ?_)))
     refine l_store (j := 0) rfl rfl rfl rfl Try.sizeOf3 (us := [_]) rfl rfl rfl Tk Az (by first | decide | (simp; done) | omega) ?_
     simp only [setL, List.set]
     refine ag_nil (r_done (k_then_n (c_seq (c_seq (c_plain (.q 0 (.done)) (by kernel_rfl) ?_)))))
     refine q_move rfl rfl rfl rfl (r_done (k_then_n (c_block (s_heap (fun _ h => Bun.fold ((by (repeat ((with_reducible apply Z2); focus (first | (with_reducible (repeat (first | exact Z0 | apply Z1)); done) | (repeat (first | exact Z0 | apply Z1))))); exact Z3 : Takes _ [cells b2 0 [.pointer (some ⟨b, 0, none⟩)], cells b3 0 [.int .i64 kd, .int .i64 on, .slice so sn sc, .int .i64 th, .int .u64 ck, .slice ko kn kc, .int .u64 ((ep : Nat) : Int), .int .i64 lv], cells b4 0 [.bool false], cells b5 0 [.int .i64 ((plN on : Nat) : Int)], cells b6 0 [.slice ra (nzM m).length rc], own 1 encZ ra rc (nzM m), cells b8 0 [.int .i64 0], cells b 0 [.pointer p0, .pointer p1, .pointer p2, .pointer p3, .pointer p4, .pointer p5, .slice ca T.C.length cc, .slice wa T.W.length wc], bigS (plF ckB) T.Q] _) _ h)) ?_))))
     refine c_rangeF _ rfl Try.call65 (fun lp => over1_spec (σ := Nat) (lM m) qa (lM m).length qc qb (own 1 encU qa qc (lM m)) rfl (rds_own encU_len (fun h => (hp2 h).1) hp3) (by omega) (yv lp) (LoopJ lp _ _ _ _ _) (fun k => Bun [cells b2 0 [.pointer (some ⟨b, 0, none⟩)], cells b3 0 [.int .i64 kd, .int .i64 on, .slice so sn sc, .int .i64 th, .int .u64 ck, .slice ko kn kc, .int .u64 ((ep : Nat) : Int), .int .i64 lv], cells b4 0 [.bool false], cells b5 0 [.int .i64 ((plN on : Nat) : Int)], cells b6 0 [.slice ra (nzM m).length rc], own 1 encZ ra rc (nzM m), cells b8 0 [.int .i64 ((k : Nat) : Int)], cells b 0 [.pointer p0, .pointer p1, .pointer p2, .pointer p3, .pointer p4, .pointer p5, .slice ca T.C.length cc, .slice wa T.W.length wc], bigS (plF ckB) T.Q]) (fun i k => k = (nz (lM m) i).length ∧ True) (fun k c => False) (fun i x k hxi hxz hI => callF_yield rfl (by decide) (by decide) (fun Γ w0 => ?_)) (fun i k hxi hI => ⟨by rw [nz_skip hxi]; exact hI.1, hI.2⟩) 0 (⟨rfl, trivial⟩)) Ts ?_
     ·
      try simp only [zipE, List.cons_append, List.nil_append]
      obtain ⟨rfl, hI2⟩ := hI
      have hki : (nzM m)[(nz (lM m) i).length]? = some ((i : Nat) : Int) := nz_at hxi hxz
      have hkl := (List.getElem?_eq_some_iff.1 hki).1
      have hil := (List.getElem?_eq_some_iff.1 hxi).1
      have hgx := gM_at hxi
      have hnx := nz_more hxi hxz
      have hnl : (nz (lM m) (i + 1)).length = (nz (lM m) i).length + 1 := by rw [hnx, List.length_append]; rfl
      obtain ⟨k, hk⟩ : ∃ k, k = (nz (lM m) i).length := ⟨_, rfl⟩
      rw [← hk] at hki hkl hnl ⊢
      try rw [← hk] at hI2
      refine s_take (A := Bun [cells b2 0 [.pointer (some ⟨b, 0, none⟩)], cells b3 0 [.int .i64 kd, .int .i64 on, .slice so sn sc, .int .i64 th, .int .u64 ck, .slice ko kn kc, .int .u64 ((ep : Nat) : Int), .int .i64 lv], cells b4 0 [.bool false], cells b5 0 [.int .i64 ((plN on : Nat) : Int)], cells b6 0 [.slice ra (nzM m).length rc], own 1 encZ ra rc (nzM m), cells b8 0 [.int .i64 ((k : Nat) : Int)], cells b 0 [.pointer p0, .pointer p1, .pointer p2, .pointer p3, .pointer p4, .pointer p5, .slice ca T.C.length cc, .slice wa T.W.length wc], bigS (plF ckB) T.Q]) Tk ?_
      refine s_bun ?_
      try simp only [List.cons_append, List.nil_append]
      refine c_plain (.q 0 (.done)) (by kernel_rfl) ?_
      refine q_assign rfl rfl rfl rfl (r_done (k_then_n (k_begin Tk ?_)))
      refine c_block (c_seq (c_seq (c_plain (.q 0 (.q 1 (.q 2 (.q 3 (.q 4 (.q 5 (.q 6 (.q 7 (.q 8 (.q 9 (.q 10 (.q 11 (.done))))))))))))) (by kernel_rfl) ?_)))
      refine q_load_c (j := 0) rfl rfl rfl rfl Try.isAgg3 Tk Az (by rfl) ?_
      refine q_load_c (j := 0) rfl rfl rfl rfl Try.isAgg66 Tk Az (by rfl) ?_
      refine q_len rfl rfl rfl rfl Try.underlying66 ?_
      refine q_int rfl rfl rfl rfl rfl (b_geq _ _ _ _) ?_
      refine q_move rfl rfl rfl rfl ?_
      refine s_bool_p 94 rfl (fun hg => by exfalso; omega) (fun hg => ?_)
      refine q_move rfl rfl rfl rfl (q_load_c (j := 0) rfl rfl rfl rfl Try.isAgg66 Tk Az (by rfl) ?_)
      refine q_load_c (j := 0) rfl rfl rfl rfl Try.isAgg3 Tk Az (by rfl) ?_
      refine q_idxO (sz := 0) (k := k) (enc := encZ) (xs := (nzM m)) rfl rfl rfl rfl rfl Try.underlying66 Try.sizeOf3 hki (by first | rfl | omega) (by omega) Tk ?_
      intro ib98 io98 ha98 hl98 hc98
      refine q_load_O (v := (.int .i64 ((i : Nat) : Int))) (j := 0) (k' := k) (enc := encZ) (off := io98) rfl rfl rfl rfl Try.isAgg3 ha98 encZ_len hki Tk (by first | rfl | exact (Nat.add_zero _).symm | omega) (by rfl) ?_
      refine q_int rfl rfl rfl rfl rfl (b_neq _ _ _ _) ?_
      refine s_eq 100 rfl (v' := .bool false) (by simp) ?_
      refine q_pick_f rfl rfl rfl rfl rfl (r_done (s_keep [4, 8, 101] (e' := [(4, _), (8, _), (101, _)]) rfl ?_))
      refine k_then_n (c_cond_f rfl ?_)
      refine c_skip (k_then_n (c_plain (.q 0 (.q 1 ((.l 2 [] (.done))))) (by kernel_rfl) ?_))
      refine q_load_c (j := 0) rfl rfl rfl rfl Try.isAgg3 Tk Az (by rfl) ?_
      refine q_int rfl rfl rfl rfl rfl (b_add' _ (by exact fits_i64 (by omega) (by omega))) ?_
      refine l_store (j := 0) rfl rfl rfl rfl Try.sizeOf3 (us := [_]) rfl rfl rfl Tk Az (by first | decide | (simp; done) | omega) ?_
      simp only [setL, List.set]
      refine ag_nil (r_done (s_keep [] (e' := []) rfl ?_))
      refine k_blk_n (s_heap (fun _ h => Bun.fold ((by (repeat ((with_reducible apply Z2); focus (first | (with_reducible (repeat (first | exact Z0 | apply Z1)); done) | (repeat (first | exact Z0 | apply Z1))))); exact Z3 : Takes _ [cells b2 0 [.pointer (some ⟨b, 0, none⟩)], cells b3 0 [.int .i64 kd, .int .i64 on, .slice so sn sc, .int .i64 th, .int .u64 ck, .slice ko kn kc, .int .u64 ((ep : Nat) : Int), .int .i64 lv], cells b4 0 [.bool false], cells b5 0 [.int .i64 ((plN on : Nat) : Int)], cells b6 0 [.slice ra (nzM m).length rc], own 1 encZ ra rc (nzM m), cells b8 0 [.int .i64 (((k + 1) : Nat) : Int)], cells b 0 [.pointer p0, .pointer p1, .pointer p2, .pointer p3, .pointer p4, .pointer p5, .slice ca T.C.length cc, .slice wa T.W.length wc], bigS (plF ckB) T.Q] _) _ h)) ?_)
      refine rr_n ((k + 1, none)) (by rfl) (by exact ⟨fun _ => ⟨by rw [hnl], trivial⟩, fun c hc => (by cases hc)⟩) Tk ?_
      (try simp only [List.cons_append, List.nil_append]); exact Tf
     rintro ⟨k2, p2⟩ (⟨g1, g2, -⟩ | ⟨c, g1, g2⟩) blk_6
     try simp only [List.cons_append, List.nil_append]
     ·
      simp only at g1 g2
      subst g1
      have hkn2 : k2 = (nzM m).length := g2
      show Le _ _
      try simp only [List.cons_append, List.nil_append]
      refine s_take (A := Bun [cells b2 0 [.pointer (some ⟨b, 0, none⟩)], cells b3 0 [.int .i64 kd, .int .i64 on, .slice so sn sc, .int .i64 th, .int .u64 ck, .slice ko kn kc, .int .u64 ((ep : Nat) : Int), .int .i64 lv], cells b4 0 [.bool false], cells b5 0 [.int .i64 ((plN on : Nat) : Int)], cells b6 0 [.slice ra (nzM m).length rc], own 1 encZ ra rc (nzM m), cells b8 0 [.int .i64 ((k2 : Nat) : Int)], cells b 0 [.pointer p0, .pointer p1, .pointer p2, .pointer p3, .pointer p4, .pointer p5, .slice ca T.C.length cc, .slice wa T.W.length wc], bigS (plF ckB) T.Q]) Tk ?_
      refine s_bun ?_
      try simp only [List.cons_append, List.nil_append]
      refine k_blk_n (k_then_n (c_seq (c_plain (.q 0 (.q 1 (.q 2 (.q 3 ((.l 4 [] (.done))))))) (by kernel_rfl) ?_)))
      refine q_load_c (j := 0) rfl rfl rfl rfl Try.isAgg3 Tk Az (by rfl) ?_
      refine q_load_c (j := 0) rfl rfl rfl rfl Try.isAgg66 Tk Az (by rfl) ?_
      refine q_len rfl rfl rfl rfl Try.underlying66 ?_
      refine q_int rfl rfl rfl rfl rfl (b_eql _ _ _ _) ?_
      refine s_eq 107 rfl (v' := .bool true) (by rw [decide_eq_true (by omega)]) ?_
      refine l_store (j := 0) rfl rfl rfl rfl Try.sizeOf4 (us := [_]) rfl rfl rfl Tk Az (by first | decide | (simp; done) | omega) ?_
      simp only [setL, List.set]
      refine ag_nil (r_done (s_keep [4] (e' := [(4, _)]) rfl ?_))
      refine k_then_n (c_ret (rm_ret ?_))
      refine rm_mark (blk := blk_6) Tk ?_
      refine rm_mark (blk := blk_5) Tk ?_
      refine rm_done (us := [_]) rfl ⟨rv_cell1 rfl Try.isAgg4 Tk (j := 0) rfl rfl, trivial⟩ (()) (by first | rfl | (first | rfl | (congr 1; done) | (congr 1 <;> first | rfl | omega | (simp; done) | (simp; omega)))) (by trivial) ?_
      exact Tf
     exact g2.elim
    refine q_skip rfl rfl rfl rfl (q_skip rfl rfl rfl rfl (q_skip rfl rfl rfl rfl (q_skip rfl rfl rfl rfl (q_skip rfl rfl rfl rfl (q_skip rfl rfl rfl rfl (q_skip rfl rfl rfl rfl (q_pick_f rfl rfl rfl rfl rfl (q_pick_f rfl rfl rfl rfl rfl ?_))))))))
    refine r_done (s_keep [4, 6, 7, 8, 86] (e' := [(4, _), (6, _), (7, _), (8, _), (86, _)]) rfl ?_)
    refine k_then_n (c_cond_f rfl ?_)
    refine c_skip (k_then_n (c_seq (c_plain ((.l 0 [] (.done))) (by kernel_rfl) ?_)))
    refine l_store (j := 0) rfl rfl rfl rfl Try.sizeOf3 (us := [_]) rfl rfl rfl Tk Az (by first | decide | (simp; done) | omega) ?_
    simp only [setL, List.set]
    refine ag_nil (r_done (k_then_n (c_seq (c_seq (c_plain (.q 0 (.done)) (by kernel_rfl) ?_)))))
    refine q_move rfl rfl rfl rfl (r_done (k_then_n (c_block (s_heap (fun _ h => Bun.fold ((by (repeat ((with_reducible apply Z2); focus (first | (with_reducible (repeat (first | exact Z0 | apply Z1)); done) | (repeat (first | exact Z0 | apply Z1))))); exact Z3 : Takes _ [cells b2 0 [.pointer (some ⟨b, 0, none⟩)], cells b3 0 [.int .i64 kd, .int .i64 on, .slice so sn sc, .int .i64 th, .int .u64 ck, .slice ko kn kc, .int .u64 ((ep : Nat) : Int), .int .i64 lv], cells b4 0 [.bool false], cells b5 0 [.int .i64 ((plN on : Nat) : Int)], cells b6 0 [.slice ra (nzM m).length rc], own 1 encZ ra rc (nzM m), cells b8 0 [.int .i64 0], cells b 0 [.pointer p0, .pointer p1, .pointer p2, .pointer p3, .pointer p4, .pointer p5, .slice ca T.C.length cc, .slice wa T.W.length wc], bigS (plF ckB) T.Q] _) _ h)) ?_))))
    refine c_rangeF _ rfl Try.call65 (fun lp => over1_spec (σ := Nat) (lM m) qa (lM m).length qc qb (own 1 encU qa qc (lM m)) rfl (rds_own encU_len (fun h => (hp2 h).1) hp3) (by omega) (yv lp) (LoopJ lp _ _ _ _ _) (fun k => Bun [cells b2 0 [.pointer (some ⟨b, 0, none⟩)], cells b3 0 [.int .i64 kd, .int .i64 on, .slice so sn sc, .int .i64 th, .int .u64 ck, .slice ko kn kc, .int .u64 ((ep : Nat) : Int), .int .i64 lv], cells b4 0 [.bool false], cells b5 0 [.int .i64 ((plN on : Nat) : Int)], cells b6 0 [.slice ra (nzM m).length rc], own 1 encZ ra rc (nzM m), cells b8 0 [.int .i64 ((k : Nat) : Int)], cells b 0 [.pointer p0, .pointer p1, .pointer p2, .pointer p3, .pointer p4, .pointer p5, .slice ca T.C.length cc, .slice wa T.W.length wc], bigS (plF ckB) T.Q]) (fun i k => k = (nz (lM m) i).length ∧ True) (fun k c => False) (fun i x k hxi hxz hI => callF_yield rfl (by decide) (by decide) (fun Γ w0 => ?_)) (fun i k hxi hI => ⟨by rw [nz_skip hxi]; exact hI.1, hI.2⟩) 0 (⟨rfl, trivial⟩)) Ts ?_
    ·
     try simp only [zipE, List.cons_append, List.nil_append]
     obtain ⟨rfl, hI2⟩ := hI
     have hki : (nzM m)[(nz (lM m) i).length]? = some ((i : Nat) : Int) := nz_at hxi hxz
     have hkl := (List.getElem?_eq_some_iff.1 hki).1
     have hil := (List.getElem?_eq_some_iff.1 hxi).1
     have hgx := gM_at hxi
     have hnx := nz_more hxi hxz
     have hnl : (nz (lM m) (i + 1)).length = (nz (lM m) i).length + 1 := by rw [hnx, List.length_append]; rfl
     obtain ⟨k, hk⟩ : ∃ k, k = (nz (lM m) i).length := ⟨_, rfl⟩
     rw [← hk] at hki hkl hnl ⊢
     try rw [← hk] at hI2
     refine s_take (A := Bun [cells b2 0 [.pointer (some ⟨b, 0, none⟩)], cells b3 0 [.int .i64 kd, .int .i64 on, .slice so sn sc, .int .i64 th, .int .u64 ck, .slice ko kn kc, .int .u64 ((ep : Nat) : Int), .int .i64 lv], cells b4 0 [.bool false], cells b5 0 [.int .i64 ((plN on : Nat) : Int)], cells b6 0 [.slice ra (nzM m).length rc], own 1 encZ ra rc (nzM m), cells b8 0 [.int .i64 ((k : Nat) : Int)], cells b 0 [.pointer p0, .pointer p1, .pointer p2, .pointer p3, .pointer p4, .pointer p5, .slice ca T.C.length cc, .slice wa T.W.length wc], bigS (plF ckB) T.Q]) Tk ?_
     refine s_bun ?_
     try simp only [List.cons_append, List.nil_append]
     refine c_plain (.q 0 (.done)) (by kernel_rfl) ?_
     refine q_assign rfl rfl rfl rfl (r_done (k_then_n (k_begin Tk ?_)))
     refine c_block (c_seq (c_seq (c_plain (.q 0 (.q 1 (.q 2 (.q 3 (.q 4 (.q 5 (.q 6 (.q 7 (.q 8 (.q 9 (.q 10 (.q 11 (.done))))))))))))) (by kernel_rfl) ?_)))
     refine q_load_c (j := 0) rfl rfl rfl rfl Try.isAgg3 Tk Az (by rfl) ?_
     refine q_load_c (j := 0) rfl rfl rfl rfl Try.isAgg66 Tk Az (by rfl) ?_
     refine q_len rfl rfl rfl rfl Try.underlying66 ?_
     refine q_int rfl rfl rfl rfl rfl (b_geq _ _ _ _) ?_
     refine q_move rfl rfl rfl rfl ?_
     refine s_bool_p 94 rfl (fun hg => by exfalso; omega) (fun hg => ?_)
     refine q_move rfl rfl rfl rfl (q_load_c (j := 0) rfl rfl rfl rfl Try.isAgg66 Tk Az (by rfl) ?_)
     refine q_load_c (j := 0) rfl rfl rfl rfl Try.isAgg3 Tk Az (by rfl) ?_
     refine q_idxO (sz := 0) (k := k) (enc := encZ) (xs := (nzM m)) rfl rfl rfl rfl rfl Try.underlying66 Try.sizeOf3 hki (by first | rfl | omega) (by omega) Tk ?_
     intro ib98 io98 ha98 hl98 hc98
     refine q_load_O (v := (.int .i64 ((i : Nat) : Int))) (j := 0) (k' := k) (enc := encZ) (off := io98) rfl rfl rfl rfl Try.isAgg3 ha98 encZ_len hki Tk (by first | rfl | exact (Nat.add_zero _).symm | omega) (by rfl) ?_
     refine q_int rfl rfl rfl rfl rfl (b_neq _ _ _ _) ?_
     refine s_eq 100 rfl (v' := .bool false) (by simp) ?_
     refine q_pick_f rfl rfl rfl rfl rfl (r_done (s_keep [4, 8, 101] (e' := [(4, _), (8, _), (101, _)]) rfl ?_))
     refine k_then_n (c_cond_f rfl ?_)
     refine c_skip (k_then_n (c_plain (.q 0 (.q 1 ((.l 2 [] (.done))))) (by kernel_rfl) ?_))
     refine q_load_c (j := 0) rfl rfl rfl rfl Try.isAgg3 Tk Az (by rfl) ?_
     refine q_int rfl rfl rfl rfl rfl (b_add' _ (by exact fits_i64 (by omega) (by omega))) ?_
     refine l_store (j := 0) rfl rfl rfl rfl Try.sizeOf3 (us := [_]) rfl rfl rfl Tk Az (by first | decide | (simp; done) | omega) ?_
     simp only [setL, List.set]
     refine ag_nil (r_done (s_keep [] (e' := []) rfl ?_))
     refine k_blk_n (s_heap (fun _ h => Bun.fold ((by (repeat ((with_reducible apply Z2); focus (first | (with_reducible (repeat (first | exact Z0 | apply Z1)); done) | (repeat (first | exact Z0 | apply Z1))))); exact Z3 : Takes _ [cells b2 0 [.pointer (some ⟨b, 0, none⟩)], cells b3 0 [.int .i64 kd, .int .i64 on, .slice so sn sc, .int .i64 th, .int .u64 ck, .slice ko kn kc, .int .u64 ((ep : Nat) : Int), .int .i64 lv], cells b4 0 [.bool false], cells b5 0 [.int .i64 ((plN on : Nat) : Int)], cells b6 0 [.slice ra (nzM m).length rc], own 1 encZ ra rc (nzM m), cells b8 0 [.int .i64 (((k + 1) : Nat) : Int)], cells b 0 [.pointer p0, .pointer p1, .pointer p2, .pointer p3, .pointer p4, .pointer p5, .slice ca T.C.length cc, .slice wa T.W.length wc], bigS (plF ckB) T.Q] _) _ h)) ?_)
     refine rr_n ((k + 1, none)) (by rfl) (by exact ⟨fun _ => ⟨by rw [hnl], trivial⟩, fun c hc => (by cases hc)⟩) Tk ?_
     (try simp only [List.cons_append, List.nil_append]); exact Tf
    rintro ⟨k2, p2⟩ (⟨g1, g2, -⟩ | ⟨c, g1, g2⟩) blk_7
    try simp only [List.cons_append, List.nil_append]
    ·
     simp only at g1 g2
     subst g1
     have hkn2 : k2 = (nzM m).length := g2
     show Le _ _
     try simp only [List.cons_append, List.nil_append]
     refine s_take (A := Bun [cells b2 0 [.pointer (some ⟨b, 0, none⟩)], cells b3 0 [.int .i64 kd, .int .i64 on, .slice so sn sc, .int .i64 th, .int .u64 ck, .slice ko kn kc, .int .u64 ((ep : Nat) : Int), .int .i64 lv], cells b4 0 [.bool false], cells b5 0 [.int .i64 ((plN on : Nat) : Int)], cells b6 0 [.slice ra (nzM m).length rc], own 1 encZ ra rc (nzM m), cells b8 0 [.int .i64 ((k2 : Nat) : Int)], cells b 0 [.pointer p0, .pointer p1, .pointer p2, .pointer p3, .pointer p4, .pointer p5, .slice ca T.C.length cc, .slice wa T.W.length wc], bigS (plF ckB) T.Q]) Tk ?_
     refine s_bun ?_
     try simp only [List.cons_append, List.nil_append]
     refine k_blk_n (k_then_n (c_seq (c_plain (.q 0 (.q 1 (.q 2 (.q 3 ((.l 4 [] (.done))))))) (by kernel_rfl) ?_)))
     refine q_load_c (j := 0) rfl rfl rfl rfl Try.isAgg3 Tk Az (by rfl) ?_
     refine q_load_c (j := 0) rfl rfl rfl rfl Try.isAgg66 Tk Az (by rfl) ?_
     refine q_len rfl rfl rfl rfl Try.underlying66 ?_
     refine q_int rfl rfl rfl rfl rfl (b_eql _ _ _ _) ?_
     refine s_eq 107 rfl (v' := .bool true) (by rw [decide_eq_true (by omega)]) ?_
     refine l_store (j := 0) rfl rfl rfl rfl Try.sizeOf4 (us := [_]) rfl rfl rfl Tk Az (by first | decide | (simp; done) | omega) ?_
     simp only [setL, List.set]
     refine ag_nil (r_done (s_keep [4] (e' := [(4, _)]) rfl ?_))
     refine k_then_n (c_ret (rm_ret ?_))
     refine rm_mark (blk := blk_7) Tk ?_
     refine rm_mark (blk := blk_5) Tk ?_
     refine rm_done (us := [_]) rfl ⟨rv_cell1 rfl Try.isAgg4 Tk (j := 0) rfl rfl, trivial⟩ (()) (by first | rfl | (first | rfl | (congr 1; done) | (congr 1 <;> first | rfl | omega | (simp; done) | (simp; omega)))) (by trivial) ?_
     exact Tf
    exact g2.elim
   refine q_skip rfl rfl rfl rfl (q_skip rfl rfl rfl rfl (q_skip rfl rfl rfl rfl (q_skip rfl rfl rfl rfl (q_pick_f rfl rfl rfl rfl rfl (q_move rfl rfl rfl rfl (q_field (k := 7) rfl rfl rfl rfl Try.underlying68 rfl Try.sizeOf3 rfl ?_))))))
   refine q_load_c (j := 7) rfl rfl rfl rfl Try.isAgg3 Tk Az (by rfl) ?_
   refine q_int rfl rfl rfl rfl rfl (b_gtr _ _ _ _) ?_
   refine q_move rfl rfl rfl rfl ?_
   refine s_bool_p 77 rfl (fun hl2 => ?_) (fun hl2 => ?_)
   ·
    refine q_load_c (j := 0) rfl rfl rfl rfl Try.isAgg3 Tk Az (by rfl) ?_
    refine q_field (k := 7) rfl rfl rfl rfl Try.underlying68 rfl Try.sizeOf3 rfl ?_
    refine q_load_c (j := 7) rfl rfl rfl rfl Try.isAgg3 Tk Az (by rfl) ?_
    refine q_load_c (j := 0) rfl rfl rfl rfl Try.isAgg66 Tk Az (by rfl) ?_
    refine q_len rfl rfl rfl rfl Try.underlying66 ?_
    refine q_min rfl rfl rfl rfl rfl ?_
    refine q_int rfl rfl rfl rfl rfl (b_neq _ _ _ _) ?_
    refine s_eq 84 rfl (v' := .bool false) (by exact congrArg Value.bool (decide_eq_false (fun h => h (by omega)))) ?_
    refine q_pick_t rfl rfl rfl rfl rfl (q_pick_f rfl rfl rfl rfl rfl (r_done (s_keep [4, 6, 7, 8, 86] (e' := [(4, _), (6, _), (7, _), (8, _), (86, _)]) rfl ?_)))
    refine k_then_n (c_cond_f rfl ?_)
    refine c_skip (k_then_n (c_seq (c_plain ((.l 0 [] (.done))) (by kernel_rfl) ?_)))
    refine l_store (j := 0) rfl rfl rfl rfl Try.sizeOf3 (us := [_]) rfl rfl rfl Tk Az (by first | decide | (simp; done) | omega) ?_
    simp only [setL, List.set]
    refine ag_nil (r_done (k_then_n (c_seq (c_seq (c_plain (.q 0 (.done)) (by kernel_rfl) ?_)))))
    refine q_move rfl rfl rfl rfl (r_done (k_then_n (c_block (s_heap (fun _ h => Bun.fold ((by (repeat ((with_reducible apply Z2); focus (first | (with_reducible (repeat (first | exact Z0 | apply Z1)); done) | (repeat (first | exact Z0 | apply Z1))))); exact Z3 : Takes _ [cells b2 0 [.pointer (some ⟨b, 0, none⟩)], cells b3 0 [.int .i64 kd, .int .i64 on, .slice so sn sc, .int .i64 th, .int .u64 ck, .slice ko kn kc, .int .u64 ((ep : Nat) : Int), .int .i64 lv], cells b4 0 [.bool false], cells b5 0 [.int .i64 ((plN on : Nat) : Int)], cells b6 0 [.slice ra (nzM m).length rc], own 1 encZ ra rc (nzM m), cells b8 0 [.int .i64 0], cells b 0 [.pointer p0, .pointer p1, .pointer p2, .pointer p3, .pointer p4, .pointer p5, .slice ca T.C.length cc, .slice wa T.W.length wc], bigS (plF ckB) T.Q] _) _ h)) ?_))))
    refine c_rangeF _ rfl Try.call65 (fun lp => over1_spec (σ := Nat) (lM m) qa (lM m).length qc qb (own 1 encU qa qc (lM m)) rfl (rds_own encU_len (fun h => (hp2 h).1) hp3) (by omega) (yv lp) (LoopJ lp _ _ _ _ _) (fun k => Bun [cells b2 0 [.pointer (some ⟨b, 0, none⟩)], cells b3 0 [.int .i64 kd, .int .i64 on, .slice so sn sc, .int .i64 th, .int .u64 ck, .slice ko kn kc, .int .u64 ((ep : Nat) : Int), .int .i64 lv], cells b4 0 [.bool false], cells b5 0 [.int .i64 ((plN on : Nat) : Int)], cells b6 0 [.slice ra (nzM m).length rc], own 1 encZ ra rc (nzM m), cells b8 0 [.int .i64 ((k : Nat) : Int)], cells b 0 [.pointer p0, .pointer p1, .pointer p2, .pointer p3, .pointer p4, .pointer p5, .slice ca T.C.length cc, .slice wa T.W.length wc], bigS (plF ckB) T.Q]) (fun i k => k = (nz (lM m) i).length ∧ True) (fun k c => False) (fun i x k hxi hxz hI => callF_yield rfl (by decide) (by decide) (fun Γ w0 => ?_)) (fun i k hxi hI => ⟨by rw [nz_skip hxi]; exact hI.1, hI.2⟩) 0 (⟨rfl, trivial⟩)) Ts ?_
    ·
     try simp only [zipE, List.cons_append, List.nil_append]
     obtain ⟨rfl, hI2⟩ := hI
     have hki : (nzM m)[(nz (lM m) i).length]? = some ((i : Nat) : Int) := nz_at hxi hxz
     have hkl := (List.getElem?_eq_some_iff.1 hki).1
     have hil := (List.getElem?_eq_some_iff.1 hxi).1
     have hgx := gM_at hxi
     have hnx := nz_more hxi hxz
     have hnl : (nz (lM m) (i + 1)).length = (nz (lM m) i).length + 1 := by rw [hnx, List.length_append]; rfl
     obtain ⟨k, hk⟩ : ∃ k, k = (nz (lM m) i).length := ⟨_, rfl⟩
     rw [← hk] at hki hkl hnl ⊢
     try rw [← hk] at hI2
     refine s_take (A := Bun [cells b2 0 [.pointer (some ⟨b, 0, none⟩)], cells b3 0 [.int .i64 kd, .int .i64 on, .slice so sn sc, .int .i64 th, .int .u64 ck, .slice ko kn kc, .int .u64 ((ep : Nat) : Int), .int .i64 lv], cells b4 0 [.bool false], cells b5 0 [.int .i64 ((plN on : Nat) : Int)], cells b6 0 [.slice ra (nzM m).length rc], own 1 encZ ra rc (nzM m), cells b8 0 [.int .i64 ((k : Nat) : Int)], cells b 0 [.pointer p0, .pointer p1, .pointer p2, .pointer p3, .pointer p4, .pointer p5, .slice ca T.C.length cc, .slice wa T.W.length wc], bigS (plF ckB) T.Q]) Tk ?_
     refine s_bun ?_
     try simp only [List.cons_append, List.nil_append]
     refine c_plain (.q 0 (.done)) (by kernel_rfl) ?_
     refine q_assign rfl rfl rfl rfl (r_done (k_then_n (k_begin Tk ?_)))
     refine c_block (c_seq (c_seq (c_plain (.q 0 (.q 1 (.q 2 (.q 3 (.q 4 (.q 5 (.q 6 (.q 7 (.q 8 (.q 9 (.q 10 (.q 11 (.done))))))))))))) (by kernel_rfl) ?_)))
     refine q_load_c (j := 0) rfl rfl rfl rfl Try.isAgg3 Tk Az (by rfl) ?_
     refine q_load_c (j := 0) rfl rfl rfl rfl Try.isAgg66 Tk Az (by rfl) ?_
     refine q_len rfl rfl rfl rfl Try.underlying66 ?_
     refine q_int rfl rfl rfl rfl rfl (b_geq _ _ _ _) ?_
     refine q_move rfl rfl rfl rfl ?_
     refine s_bool_p 94 rfl (fun hg => by exfalso; omega) (fun hg => ?_)
     refine q_move rfl rfl rfl rfl (q_load_c (j := 0) rfl rfl rfl rfl Try.isAgg66 Tk Az (by rfl) ?_)
     refine q_load_c (j := 0) rfl rfl rfl rfl Try.isAgg3 Tk Az (by rfl) ?_
     refine q_idxO (sz := 0) (k := k) (enc := encZ) (xs := (nzM m)) rfl rfl rfl rfl rfl Try.underlying66 Try.sizeOf3 hki (by first | rfl | omega) (by omega) Tk ?_
     intro ib98 io98 ha98 hl98 hc98
     refine q_load_O (v := (.int .i64 ((i : Nat) : Int))) (j := 0) (k' := k) (enc := encZ) (off := io98) rfl rfl rfl rfl Try.isAgg3 ha98 encZ_len hki Tk (by first | rfl | exact (Nat.add_zero _).symm | omega) (by rfl) ?_
     refine q_int rfl rfl rfl rfl rfl (b_neq _ _ _ _) ?_
     refine s_eq 100 rfl (v' := .bool false) (by simp) ?_
     refine q_pick_f rfl rfl rfl rfl rfl (r_done (s_keep [4, 8, 101] (e' := [(4, _), (8, _), (101, _)]) rfl ?_))
     refine k_then_n (c_cond_f rfl ?_)
     refine c_skip (k_then_n (c_plain (.q 0 (.q 1 ((.l 2 [] (.done))))) (by kernel_rfl) ?_))
     refine q_load_c (j := 0) rfl rfl rfl rfl Try.isAgg3 Tk Az (by rfl) ?_
     refine q_int rfl rfl rfl rfl rfl (b_add' _ (by exact fits_i64 (by omega) (by omega))) ?_
     refine l_store (j := 0) rfl rfl rfl rfl Try.sizeOf3 (us := [_]) rfl rfl rfl Tk Az (by first | decide | (simp; done) | omega) ?_
     simp only [setL, List.set]
     refine ag_nil (r_done (s_keep [] (e' := []) rfl ?_))
     refine k_blk_n (s_heap (fun _ h => Bun.fold ((by (repeat ((with_reducible apply Z2); focus (first | (with_reducible (repeat (first | exact Z0 | apply Z1)); done) | (repeat (first | exact Z0 | apply Z1))))); exact Z3 : Takes _ [cells b2 0 [.pointer (some ⟨b, 0, none⟩)], cells b3 0 [.int .i64 kd, .int .i64 on, .slice so sn sc, .int .i64 th, .int .u64 ck, .slice ko kn kc, .int .u64 ((ep : Nat) : Int), .int .i64 lv], cells b4 0 [.bool false], cells b5 0 [.int .i64 ((plN on : Nat) : Int)], cells b6 0 [.slice ra (nzM m).length rc], own 1 encZ ra rc (nzM m), cells b8 0 [.int .i64 (((k + 1) : Nat) : Int)], cells b 0 [.pointer p0, .pointer p1, .pointer p2, .pointer p3, .pointer p4, .pointer p5, .slice ca T.C.length cc, .slice wa T.W.length wc], bigS (plF ckB) T.Q] _) _ h)) ?_)
     refine rr_n ((k + 1, none)) (by rfl) (by exact ⟨fun _ => ⟨by rw [hnl], trivial⟩, fun c hc => (by cases hc)⟩) Tk ?_
     (try simp only [List.cons_append, List.nil_append]); exact Tf
    rintro ⟨k2, p2⟩ (⟨g1, g2, -⟩ | ⟨c, g1, g2⟩) blk_8
    try simp only [List.cons_append, List.nil_append]
    ·
     simp only at g1 g2
     subst g1
     have hkn2 : k2 = (nzM m).length := g2
     show Le _ _
     try simp only [List.cons_append, List.nil_append]
     refine s_take (A := Bun [cells b2 0 [.pointer (some ⟨b, 0, none⟩)], cells b3 0 [.int .i64 kd, .int .i64 on, .slice so sn sc, .int .i64 th, .int .u64 ck, .slice ko kn kc, .int .u64 ((ep : Nat) : Int), .int .i64 lv], cells b4 0 [.bool false], cells b5 0 [.int .i64 ((plN on : Nat) : Int)], cells b6 0 [.slice ra (nzM m).length rc], own 1 encZ ra rc (nzM m), cells b8 0 [.int .i64 ((k2 : Nat) : Int)], cells b 0 [.pointer p0, .pointer p1, .pointer p2, .pointer p3, .pointer p4, .pointer p5, .slice ca T.C.length cc, .slice wa T.W.length wc], bigS (plF ckB) T.Q]) Tk ?_
     refine s_bun ?_
     try simp only [List.cons_append, List.nil_append]
     refine k_blk_n (k_then_n (c_seq (c_plain (.q 0 (.q 1 (.q 2 (.q 3 ((.l 4 [] (.done))))))) (by kernel_rfl) ?_)))
     refine q_load_c (j := 0) rfl rfl rfl rfl Try.isAgg3 Tk Az (by rfl) ?_
     refine q_load_c (j := 0) rfl rfl rfl rfl Try.isAgg66 Tk Az (by rfl) ?_
     refine q_len rfl rfl rfl rfl Try.underlying66 ?_
     refine q_int rfl rfl rfl rfl rfl (b_eql _ _ _ _) ?_
     refine s_eq 107 rfl (v' := .bool true) (by rw [decide_eq_true (by omega)]) ?_
     refine l_store (j := 0) rfl rfl rfl rfl Try.sizeOf4 (us := [_]) rfl rfl rfl Tk Az (by first | decide | (simp; done) | omega) ?_
     simp only [setL, List.set]
     refine ag_nil (r_done (s_keep [4] (e' := [(4, _)]) rfl ?_))
     refine k_then_n (c_ret (rm_ret ?_))
     refine rm_mark (blk := blk_8) Tk ?_
     refine rm_mark (blk := blk_5) Tk ?_
     refine rm_done (us := [_]) rfl ⟨rv_cell1 rfl Try.isAgg4 Tk (j := 0) rfl rfl, trivial⟩ (()) (by first | rfl | (first | rfl | (congr 1; done) | (congr 1 <;> first | rfl | omega | (simp; done) | (simp; omega)))) (by trivial) ?_
     exact Tf
    exact g2.elim
   refine q_skip rfl rfl rfl rfl (q_skip rfl rfl rfl rfl (q_skip rfl rfl rfl rfl (q_skip rfl rfl rfl rfl (q_skip rfl rfl rfl rfl (q_skip rfl rfl rfl rfl (q_skip rfl rfl rfl rfl (q_pick_f rfl rfl rfl rfl rfl (q_pick_f rfl rfl rfl rfl rfl ?_))))))))
   refine r_done (s_keep [4, 6, 7, 8, 86] (e' := [(4, _), (6, _), (7, _), (8, _), (86, _)]) rfl ?_)
   refine k_then_n (c_cond_f rfl ?_)
   refine c_skip (k_then_n (c_seq (c_plain ((.l 0 [] (.done))) (by kernel_rfl) ?_)))
   refine l_store (j := 0) rfl rfl rfl rfl Try.sizeOf3 (us := [_]) rfl rfl rfl Tk Az (by first | decide | (simp; done) | omega) ?_
   simp only [setL, List.set]
   refine ag_nil (r_done (k_then_n (c_seq (c_seq (c_plain (.q 0 (.done)) (by kernel_rfl) ?_)))))
   refine q_move rfl rfl rfl rfl (r_done (k_then_n (c_block (s_heap (fun _ h => Bun.fold ((by (repeat ((with_reducible apply Z2); focus (first | (with_reducible (repeat (first | exact Z0 | apply Z1)); done) | (repeat (first | exact Z0 | apply Z1))))); exact Z3 : Takes _ [cells b2 0 [.pointer (some ⟨b, 0, none⟩)], cells b3 0 [.int .i64 kd, .int .i64 on, .slice so sn sc, .int .i64 th, .int .u64 ck, .slice ko kn kc, .int .u64 ((ep : Nat) : Int), .int .i64 lv], cells b4 0 [.bool false], cells b5 0 [.int .i64 ((plN on : Nat) : Int)], cells b6 0 [.slice ra (nzM m).length rc], own 1 encZ ra rc (nzM m), cells b8 0 [.int .i64 0], cells b 0 [.pointer p0, .pointer p1, .pointer p2, .pointer p3, .pointer p4, .pointer p5, .slice ca T.C.length cc, .slice wa T.W.length wc], bigS (plF ckB) T.Q] _) _ h)) ?_))))
   refine c_rangeF _ rfl Try.call65 (fun lp => over1_spec (σ := Nat) (lM m) qa (lM m).length qc qb (own 1 encU qa qc (lM m)) rfl (rds_own encU_len (fun h => (hp2 h).1) hp3) (by omega) (yv lp) (LoopJ lp _ _ _ _ _) (fun k => Bun [cells b2 0 [.pointer (some ⟨b, 0, none⟩)], cells b3 0 [.int .i64 kd, .int .i64 on, .slice so sn sc, .int .i64 th, .int .u64 ck, .slice ko kn kc, .int .u64 ((ep : Nat) : Int), .int .i64 lv], cells b4 0 [.bool false], cells b5 0 [.int .i64 ((plN on : Nat) : Int)], cells b6 0 [.slice ra (nzM m).length rc], own 1 encZ ra rc (nzM m), cells b8 0 [.int .i64 ((k : Nat) : Int)], cells b 0 [.pointer p0, .pointer p1, .pointer p2, .pointer p3, .pointer p4, .pointer p5, .slice ca T.C.length cc, .slice wa T.W.length wc], bigS (plF ckB) T.Q]) (fun i k => k = (nz (lM m) i).length ∧ True) (fun k c => False) (fun i x k hxi hxz hI => callF_yield rfl (by decide) (by decide) (fun Γ w0 => ?_)) (fun i k hxi hI => ⟨by rw [nz_skip hxi]; exact hI.1, hI.2⟩) 0 (⟨rfl, trivial⟩)) Ts ?_
   ·
    try simp only [zipE, List.cons_append, List.nil_append]
    obtain ⟨rfl, hI2⟩ := hI
    have hki : (nzM m)[(nz (lM m) i).length]? = some ((i : Nat) : Int) := nz_at hxi hxz
    have hkl := (List.getElem?_eq_some_iff.1 hki).1
    have hil := (List.getElem?_eq_some_iff.1 hxi).1
    have hgx := gM_at hxi
    have hnx := nz_more hxi hxz
    have hnl : (nz (lM m) (i + 1)).length = (nz (lM m) i).length + 1 := by rw [hnx, List.length_append]; rfl
    obtain ⟨k, hk⟩ : ∃ k, k = (nz (lM m) i).length := ⟨_, rfl⟩
    rw [← hk] at hki hkl hnl ⊢
    try rw [← hk] at hI2
    refine s_take (A := Bun [cells b2 0 [.pointer (some ⟨b, 0, none⟩)], cells b3 0 [.int .i64 kd, .int .i64 on, .slice so sn sc, .int .i64 th, .int .u64 ck, .slice ko kn kc, .int .u64 ((ep : Nat) : Int), .int .i64 lv], cells b4 0 [.bool false], cells b5 0 [.int .i64 ((plN on : Nat) : Int)], cells b6 0 [.slice ra (nzM m).length rc], own 1 encZ ra rc (nzM m), cells b8 0 [.int .i64 ((k : Nat) : Int)], cells b 0 [.pointer p0, .pointer p1, .pointer p2, .pointer p3, .pointer p4, .pointer p5, .slice ca T.C.length cc, .slice wa T.W.length wc], bigS (plF ckB) T.Q]) Tk ?_
    refine s_bun ?_
    try simp only [List.cons_append, List.nil_append]
    refine c_plain (.q 0 (.done)) (by kernel_rfl) ?_
    refine q_assign rfl rfl rfl rfl (r_done (k_then_n (k_begin Tk ?_)))
    refine c_block (c_seq (c_seq (c_plain (.q 0 (.q 1 (.q 2 (.q 3 (.q 4 (.q 5 (.q 6 (.q 7 (.q 8 (.q 9 (.q 10 (.q 11 (.done))))))))))))) (by kernel_rfl) ?_)))
    refine q_load_c (j := 0) rfl rfl rfl rfl Try.isAgg3 Tk Az (by rfl) ?_
    refine q_load_c (j := 0) rfl rfl rfl rfl Try.isAgg66 Tk Az (by rfl) ?_
    refine q_len rfl rfl rfl rfl Try.underlying66 ?_
    refine q_int rfl rfl rfl rfl rfl (b_geq _ _ _ _) ?_
    refine q_move rfl rfl rfl rfl ?_
    refine s_bool_p 94 rfl (fun hg => by exfalso; omega) (fun hg => ?_)
    refine q_move rfl rfl rfl rfl (q_load_c (j := 0) rfl rfl rfl rfl Try.isAgg66 Tk Az (by rfl) ?_)
    refine q_load_c (j := 0) rfl rfl rfl rfl Try.isAgg3 Tk Az (by rfl) ?_
    refine q_idxO (sz := 0) (k := k) (enc := encZ) (xs := (nzM m)) rfl rfl rfl rfl rfl Try.underlying66 Try.sizeOf3 hki (by first | rfl | omega) (by omega) Tk ?_
    intro ib98 io98 ha98 hl98 hc98
    refine q_load_O (v := (.int .i64 ((i : Nat) : Int))) (j := 0) (k' := k) (enc := encZ) (off := io98) rfl rfl rfl rfl Try.isAgg3 ha98 encZ_len hki Tk (by first | rfl | exact (Nat.add_zero _).symm | omega) (by rfl) ?_
    refine q_int rfl rfl rfl rfl rfl (b_neq _ _ _ _) ?_
    refine s_eq 100 rfl (v' := .bool false) (by simp) ?_
    refine q_pick_f rfl rfl rfl rfl rfl (r_done (s_keep [4, 8, 101] (e' := [(4, _), (8, _), (101, _)]) rfl ?_))
    refine k_then_n (c_cond_f rfl ?_)
    refine c_skip (k_then_n (c_plain (.q 0 (.q 1 ((.l 2 [] (.done))))) (by kernel_rfl) ?_))
    refine q_load_c (j := 0) rfl rfl rfl rfl Try.isAgg3 Tk Az (by rfl) ?_
    refine q_int rfl rfl rfl rfl rfl (b_add' _ (by exact fits_i64 (by omega) (by omega))) ?_
    refine l_store (j := 0) rfl rfl rfl rfl Try.sizeOf3 (us := [_]) rfl rfl rfl Tk Az (by first | decide | (simp; done) | omega) ?_
    simp only [setL, List.set]
    refine ag_nil (r_done (s_keep [] (e' := []) rfl ?_))
    refine k_blk_n (s_heap (fun _ h => Bun.fold ((by (repeat ((with_reducible apply Z2); focus (first | (with_reducible (repeat (first | exact Z0 | apply Z1)); done) | (repeat (first | exact Z0 | apply Z1))))); exact Z3 : Takes _ [cells b2 0 [.pointer (some ⟨b, 0, none⟩)], cells b3 0 [.int .i64 kd, .int .i64 on, .slice so sn sc, .int .i64 th, .int .u64 ck, .slice ko kn kc, .int .u64 ((ep : Nat) : Int), .int .i64 lv], cells b4 0 [.bool false], cells b5 0 [.int .i64 ((plN on : Nat) : Int)], cells b6 0 [.slice ra (nzM m).length rc], own 1 encZ ra rc (nzM m), cells b8 0 [.int .i64 (((k + 1) : Nat) : Int)], cells b 0 [.pointer p0, .pointer p1, .pointer p2, .pointer p3, .pointer p4, .pointer p5, .slice ca T.C.length cc, .slice wa T.W.length wc], bigS (plF ckB) T.Q] _) _ h)) ?_)
    refine rr_n ((k + 1, none)) (by rfl) (by exact ⟨fun _ => ⟨by rw [hnl], trivial⟩, fun c hc => (by cases hc)⟩) Tk ?_
    (try simp only [List.cons_append, List.nil_append]); exact Tf
   rintro ⟨k2, p2⟩ (⟨g1, g2, -⟩ | ⟨c, g1, g2⟩) blk_9
   try simp only [List.cons_append, List.nil_append]
   ·
    simp only at g1 g2
    subst g1
    have hkn2 : k2 = (nzM m).length := g2
    show Le _ _
    try simp only [List.cons_append, List.nil_append]
    refine s_take (A := Bun [cells b2 0 [.pointer (some ⟨b, 0, none⟩)], cells b3 0 [.int .i64 kd, .int .i64 on, .slice so sn sc, .int .i64 th, .int .u64 ck, .slice ko kn kc, .int .u64 ((ep : Nat) : Int), .int .i64 lv], cells b4 0 [.bool false], cells b5 0 [.int .i64 ((plN on : Nat) : Int)], cells b6 0 [.slice ra (nzM m).length rc], own 1 encZ ra rc (nzM m), cells b8 0 [.int .i64 ((k2 : Nat) : Int)], cells b 0 [.pointer p0, .pointer p1, .pointer p2, .pointer p3, .pointer p4, .pointer p5, .slice ca T.C.length cc, .slice wa T.W.length wc], bigS (plF ckB) T.Q]) Tk ?_
    refine s_bun ?_
    try simp only [List.cons_append, List.nil_append]
    refine k_blk_n (k_then_n (c_seq (c_plain (.q 0 (.q 1 (.q 2 (.q 3 ((.l 4 [] (.done))))))) (by kernel_rfl) ?_)))
    refine q_load_c (j := 0) rfl rfl rfl rfl Try.isAgg3 Tk Az (by rfl) ?_
    refine q_load_c (j := 0) rfl rfl rfl rfl Try.isAgg66 Tk Az (by rfl) ?_
    refine q_len rfl rfl rfl rfl Try.underlying66 ?_
    refine q_int rfl rfl rfl rfl rfl (b_eql _ _ _ _) ?_
    refine s_eq 107 rfl (v' := .bool true) (by rw [decide_eq_true (by omega)]) ?_
    refine l_store (j := 0) rfl rfl rfl rfl Try.sizeOf4 (us := [_]) rfl rfl rfl Tk Az (by first | decide | (simp; done) | omega) ?_
    simp only [setL, List.set]
    refine ag_nil (r_done (s_keep [4] (e' := [(4, _)]) rfl ?_))
    refine k_then_n (c_ret (rm_ret ?_))
    refine rm_mark (blk := blk_9) Tk ?_
    refine rm_mark (blk := blk_5) Tk ?_
    refine rm_done (us := [_]) rfl ⟨rv_cell1 rfl Try.isAgg4 Tk (j := 0) rfl rfl, trivial⟩ (()) (by first | rfl | (first | rfl | (congr 1; done) | (congr 1 <;> first | rfl | omega | (simp; done) | (simp; omega)))) (by trivial) ?_
    exact Tf
   exact g2.elim
  simp only at h1 h2 h3 h4 h5
  subst h2
  subst h1
  show Le _ _
  try simp only [List.cons_append, List.nil_append]
  refine s_take (A := Bun [cells b2 0 [.pointer (some ⟨b, 0, none⟩)], cells b3 0 [.int .i64 kd, .int .i64 on, .slice so sn sc, .int .i64 th, .int .u64 ck, .slice ko kn kc, .int .u64 ((ep : Nat) : Int), .int .i64 lv], cells b4 0 [.bool false], cells b5 0 [.int .i64 ((plN on : Nat) : Int)], cells b6 0 [.slice ra (nzM m).length rc], own 1 encZ ra rc (nzM m), cells b8 0 [.int .i64 ((k : Nat) : Int)], cells b 0 [.pointer p0, .pointer p1, .pointer p2, .pointer p3, .pointer p4, .pointer p5, .slice ca T.C.length cc, .slice wa T.W.length wc], bigS (plF ckB) T.Q]) Tk ?_
  refine s_bun ?_
  try simp only [List.cons_append, List.nil_append]
  refine c_exit (k_blk_here (k_then_n (c_seq (c_seq (c_plain (.q 0 (.q 1 (.q 2 (.q 3 (.q 4 (.q 5 (.q 6 (.q 7 (.q 8 (.q 9 (.q 10 (.q 11 (.q 12 (.q 13 (.q 14 (.q 15 (.q 16 (.q 17 (.q 18 (.q 19 (.q 20 (.q 21 (.q 22 (.done)))))))))))))))))))))))) (by kernel_rfl) ?_)))))
  refine q_field (k := 7) rfl rfl rfl rfl Try.underlying68 rfl Try.sizeOf3 rfl ?_
  refine q_load_c (j := 7) rfl rfl rfl rfl Try.isAgg3 Tk Az (by rfl) ?_
  refine q_int rfl rfl rfl rfl rfl (b_leq _ _ _ _) ?_
  refine q_move rfl rfl rfl rfl ?_
  refine s_bool_p 67 rfl (fun hl1 => ?_) (fun hl1 => ?_)
  ·
   refine q_load_c (j := 0) rfl rfl rfl rfl Try.isAgg3 Tk Az (by rfl) ?_
   refine q_load_c (j := 0) rfl rfl rfl rfl Try.isAgg66 Tk Az (by rfl) ?_
   refine q_len rfl rfl rfl rfl Try.underlying66 ?_
   refine q_int rfl rfl rfl rfl rfl (b_neq _ _ _ _) ?_
   refine q_pick_t rfl rfl rfl rfl rfl (q_move rfl rfl rfl rfl ?_)
   refine s_bool_p 73 rfl (fun hg => by exfalso; omega) (fun hg => ?_)
   refine q_field (k := 7) rfl rfl rfl rfl Try.underlying68 rfl Try.sizeOf3 rfl ?_
   refine q_load_c (j := 7) rfl rfl rfl rfl Try.isAgg3 Tk Az (by rfl) ?_
   refine q_int rfl rfl rfl rfl rfl (b_gtr _ _ _ _) ?_
   refine q_move rfl rfl rfl rfl ?_
   refine s_bool_p 77 rfl (fun hl2 => ?_) (fun hl2 => ?_)
   ·
    refine q_load_c (j := 0) rfl rfl rfl rfl Try.isAgg3 Tk Az (by rfl) ?_
    refine q_field (k := 7) rfl rfl rfl rfl Try.underlying68 rfl Try.sizeOf3 rfl ?_
    refine q_load_c (j := 7) rfl rfl rfl rfl Try.isAgg3 Tk Az (by rfl) ?_
    refine q_load_c (j := 0) rfl rfl rfl rfl Try.isAgg66 Tk Az (by rfl) ?_
    refine q_len rfl rfl rfl rfl Try.underlying66 ?_
    refine q_min rfl rfl rfl rfl rfl ?_
    refine q_int rfl rfl rfl rfl rfl (b_neq _ _ _ _) ?_
    refine s_eq 84 rfl (v' := .bool false) (by exact congrArg Value.bool (decide_eq_false (fun h => h (by omega)))) ?_
    refine q_pick_t rfl rfl rfl rfl rfl (q_pick_f rfl rfl rfl rfl rfl (r_done (s_keep [4, 6, 7, 8, 86] (e' := [(4, _), (6, _), (7, _), (8, _), (86, _)]) rfl ?_)))
    refine k_then_n (c_cond_f rfl ?_)
    refine c_skip (k_then_n (c_seq (c_plain ((.l 0 [] (.done))) (by kernel_rfl) ?_)))
    refine l_store (j := 0) rfl rfl rfl rfl Try.sizeOf3 (us := [_]) rfl rfl rfl Tk Az (by first | decide | (simp; done) | omega) ?_
    simp only [setL, List.set]
    refine ag_nil (r_done (k_then_n (c_seq (c_seq (c_plain (.q 0 (.done)) (by kernel_rfl) ?_)))))
    refine q_move rfl rfl rfl rfl (r_done (k_then_n (c_block (s_heap (fun _ h => Bun.fold ((by (repeat ((with_reducible apply Z2); focus (first | (with_reducible (repeat (first | exact Z0 | apply Z1)); done) | (repeat (first | exact Z0 | apply Z1))))); exact Z3 : Takes _ [cells b2 0 [.pointer (some ⟨b, 0, none⟩)], cells b3 0 [.int .i64 kd, .int .i64 on, .slice so sn sc, .int .i64 th, .int .u64 ck, .slice ko kn kc, .int .u64 ((ep : Nat) : Int), .int .i64 lv], cells b4 0 [.bool false], cells b5 0 [.int .i64 ((plN on : Nat) : Int)], cells b6 0 [.slice ra (nzM m).length rc], own 1 encZ ra rc (nzM m), cells b8 0 [.int .i64 0], cells b 0 [.pointer p0, .pointer p1, .pointer p2, .pointer p3, .pointer p4, .pointer p5, .slice ca T.C.length cc, .slice wa T.W.length wc], bigS (plF ckB) T.Q] _) _ h)) ?_))))
    refine c_rangeF _ rfl Try.call65 (fun lp => over1_spec (σ := Nat) (lM m) qa (lM m).length qc qb (own 1 encU qa qc (lM m)) rfl (rds_own encU_len (fun h => (hp2 h).1) hp3) (by omega) (yv lp) (LoopJ lp _ _ _ _ _) (fun k => Bun [cells b2 0 [.pointer (some ⟨b, 0, none⟩)], cells b3 0 [.int .i64 kd, .int .i64 on, .slice so sn sc, .int .i64 th, .int .u64 ck, .slice ko kn kc, .int .u64 ((ep : Nat) : Int), .int .i64 lv], cells b4 0 [.bool false], cells b5 0 [.int .i64 ((plN on : Nat) : Int)], cells b6 0 [.slice ra (nzM m).length rc], own 1 encZ ra rc (nzM m), cells b8 0 [.int .i64 ((k : Nat) : Int)], cells b 0 [.pointer p0, .pointer p1, .pointer p2, .pointer p3, .pointer p4, .pointer p5, .slice ca T.C.length cc, .slice wa T.W.length wc], bigS (plF ckB) T.Q]) (fun i k => k = (nz (lM m) i).length ∧ True) (fun k c => False) (fun i x k hxi hxz hI => callF_yield rfl (by decide) (by decide) (fun Γ w0 => ?_)) (fun i k hxi hI => ⟨by rw [nz_skip hxi]; exact hI.1, hI.2⟩) 0 (⟨rfl, trivial⟩)) Ts ?_
    ·
     try simp only [zipE, List.cons_append, List.nil_append]
     obtain ⟨rfl, hI2⟩ := hI
     have hki : (nzM m)[(nz (lM m) i).length]? = some ((i : Nat) : Int) := nz_at hxi hxz
     have hkl := (List.getElem?_eq_some_iff.1 hki).1
     have hil := (List.getElem?_eq_some_iff.1 hxi).1
     have hgx := gM_at hxi
     have hnx := nz_more hxi hxz
     have hnl : (nz (lM m) (i + 1)).length = (nz (lM m) i).length + 1 := by rw [hnx, List.length_append]; rfl
     obtain ⟨k, hk⟩ : ∃ k, k = (nz (lM m) i).length := ⟨_, rfl⟩
     rw [← hk] at hki hkl hnl ⊢
     try rw [← hk] at hI2
     refine s_take (A := Bun [cells b2 0 [.pointer (some ⟨b, 0, none⟩)], cells b3 0 [.int .i64 kd, .int .i64 on, .slice so sn sc, .int .i64 th, .int .u64 ck, .slice ko kn kc, .int .u64 ((ep : Nat) : Int), .int .i64 lv], cells b4 0 [.bool false], cells b5 0 [.int .i64 ((plN on : Nat) : Int)], cells b6 0 [.slice ra (nzM m).length rc], own 1 encZ ra rc (nzM m), cells b8 0 [.int .i64 ((k : Nat) : Int)], cells b 0 [.pointer p0, .pointer p1, .pointer p2, .pointer p3, .pointer p4, .pointer p5, .slice ca T.C.length cc, .slice wa T.W.length wc], bigS (plF ckB) T.Q]) Tk ?_
     refine s_bun ?_
     try simp only [List.cons_append, List.nil_append]
     refine c_plain (.q 0 (.done)) (by kernel_rfl) ?_
     refine q_assign rfl rfl rfl rfl (r_done (k_then_n (k_begin Tk ?_)))
     refine c_block (c_seq (c_seq (c_plain (.q 0 (.q 1 (.q 2 (.q 3 (.q 4 (.q 5 (.q 6 (.q 7 (.q 8 (.q 9 (.q 10 (.q 11 (.done))))))))))))) (by kernel_rfl) ?_)))
     refine q_load_c (j := 0) rfl rfl rfl rfl Try.isAgg3 Tk Az (by rfl) ?_
     refine q_load_c (j := 0) rfl rfl rfl rfl Try.isAgg66 Tk Az (by rfl) ?_
     refine q_len rfl rfl rfl rfl Try.underlying66 ?_
     refine q_int rfl rfl rfl rfl rfl (b_geq _ _ _ _) ?_
     refine q_move rfl rfl rfl rfl ?_
     refine s_bool_p 94 rfl (fun hg => by exfalso; omega) (fun hg => ?_)
     refine q_move rfl rfl rfl rfl (q_load_c (j := 0) rfl rfl rfl rfl Try.isAgg66 Tk Az (by rfl) ?_)
     refine q_load_c (j := 0) rfl rfl rfl rfl Try.isAgg3 Tk Az (by rfl) ?_
     refine q_idxO (sz := 0) (k := k) (enc := encZ) (xs := (nzM m)) rfl rfl rfl rfl rfl Try.underlying66 Try.sizeOf3 hki (by first | rfl | omega) (by omega) Tk ?_
     intro ib98 io98 ha98 hl98 hc98
     refine q_load_O (v := (.int .i64 ((i : Nat) : Int))) (j := 0) (k' := k) (enc := encZ) (off := io98) rfl rfl rfl rfl Try.isAgg3 ha98 encZ_len hki Tk (by first | rfl | exact (Nat.add_zero _).symm | omega) (by rfl) ?_
     refine q_int rfl rfl rfl rfl rfl (b_neq _ _ _ _) ?_
     refine s_eq 100 rfl (v' := .bool false) (by simp) ?_
     refine q_pick_f rfl rfl rfl rfl rfl (r_done (s_keep [4, 8, 101] (e' := [(4, _), (8, _), (101, _)]) rfl ?_))
     refine k_then_n (c_cond_f rfl ?_)
     refine c_skip (k_then_n (c_plain (.q 0 (.q 1 ((.l 2 [] (.done))))) (by kernel_rfl) ?_))
     refine q_load_c (j := 0) rfl rfl rfl rfl Try.isAgg3 Tk Az (by rfl) ?_
     refine q_int rfl rfl rfl rfl rfl (b_add' _ (by exact fits_i64 (by omega) (by omega))) ?_
     refine l_store (j := 0) rfl rfl rfl rfl Try.sizeOf3 (us := [_]) rfl rfl rfl Tk Az (by first | decide | (simp; done) | omega) ?_
     simp only [setL, List.set]
     refine ag_nil (r_done (s_keep [] (e' := []) rfl ?_))
     refine k_blk_n (s_heap (fun _ h => Bun.fold ((by (repeat ((with_reducible apply Z2); focus (first | (with_reducible (repeat (first | exact Z0 | apply Z1)); done) | (repeat (first | exact Z0 | apply Z1))))); exact Z3 : Takes _ [cells b2 0 [.pointer (some ⟨b, 0, none⟩)], cells b3 0 [.int .i64 kd, .int .i64 on, .slice so sn sc, .int .i64 th, .int .u64 ck, .slice ko kn kc, .int .u64 ((ep : Nat) : Int), .int .i64 lv], cells b4 0 [.bool false], cells b5 0 [.int .i64 ((plN on : Nat) : Int)], cells b6 0 [.slice ra (nzM m).length rc], own 1 encZ ra rc (nzM m), cells b8 0 [.int .i64 (((k + 1) : Nat) : Int)], cells b 0 [.pointer p0, .pointer p1, .pointer p2, .pointer p3, .pointer p4, .pointer p5, .slice ca T.C.length cc, .slice wa T.W.length wc], bigS (plF ckB) T.Q] _) _ h)) ?_)
     refine rr_n ((k + 1, none)) (by rfl) (by exact ⟨fun _ => ⟨by rw [hnl], trivial⟩, fun c hc => (by cases hc)⟩) Tk ?_
     (try simp only [List.cons_append, List.nil_append]); exact Tf
    rintro ⟨k2, p2⟩ (⟨g1, g2, -⟩ | ⟨c, g1, g2⟩) blk_10
    try simp only [List.cons_append, List.nil_append]
    ·
     simp only at g1 g2
     subst g1
     have hkn2 : k2 = (nzM m).length := g2
     show Le _ _
     try simp only [List.cons_append, List.nil_append]
     refine s_take (A := Bun [cells b2 0 [.pointer (some ⟨b, 0, none⟩)], cells b3 0 [.int .i64 kd, .int .i64 on, .slice so sn sc, .int .i64 th, .int .u64 ck, .slice ko kn kc, .int .u64 ((ep : Nat) : Int), .int .i64 lv], cells b4 0 [.bool false], cells b5 0 [.int .i64 ((plN on : Nat) : Int)], cells b6 0 [.slice ra (nzM m).length rc], own 1 encZ ra rc (nzM m), cells b8 0 [.int .i64 ((k2 : Nat) : Int)], cells b 0 [.pointer p0, .pointer p1, .pointer p2, .pointer p3, .pointer p4, .pointer p5, .slice ca T.C.length cc, .slice wa T.W.length wc], bigS (plF ckB) T.Q]) Tk ?_
     refine s_bun ?_
     try simp only [List.cons_append, List.nil_append]
     refine k_blk_n (k_then_n (c_seq (c_plain (.q 0 (.q 1 (.q 2 (.q 3 ((.l 4 [] (.done))))))) (by kernel_rfl) ?_)))
     refine q_load_c (j := 0) rfl rfl rfl rfl Try.isAgg3 Tk Az (by rfl) ?_
     refine q_load_c (j := 0) rfl rfl rfl rfl Try.isAgg66 Tk Az (by rfl) ?_
     refine q_len rfl rfl rfl rfl Try.underlying66 ?_
     refine q_int rfl rfl rfl rfl rfl (b_eql _ _ _ _) ?_
     refine s_eq 107 rfl (v' := .bool true) (by rw [decide_eq_true (by omega)]) ?_
     refine l_store (j := 0) rfl rfl rfl rfl Try.sizeOf4 (us := [_]) rfl rfl rfl Tk Az (by first | decide | (simp; done) | omega) ?_
     simp only [setL, List.set]
     refine ag_nil (r_done (s_keep [4] (e' := [(4, _)]) rfl ?_))
     refine k_then_n (c_ret (rm_ret ?_))
     refine rm_mark (blk := blk_10) Tk ?_
     refine rm_mark (blk := blk_5) Tk ?_
     refine rm_done (us := [_]) rfl ⟨rv_cell1 rfl Try.isAgg4 Tk (j := 0) rfl rfl, trivial⟩ (()) (by first | rfl | (first | rfl | (congr 1; done) | (congr 1 <;> first | rfl | omega | (simp; done) | (simp; omega)))) (by trivial) ?_
     exact Tf
    exact g2.elim
   refine q_skip rfl rfl rfl rfl (q_skip rfl rfl rfl rfl (q_skip rfl rfl rfl rfl (q_skip rfl rfl rfl rfl (q_skip rfl rfl rfl rfl (q_skip rfl rfl rfl rfl (q_skip rfl rfl rfl rfl (q_pick_f rfl rfl rfl rfl rfl (q_pick_f rfl rfl rfl rfl rfl ?_))))))))
   refine r_done (s_keep [4, 6, 7, 8, 86] (e' := [(4, _), (6, _), (7, _), (8, _), (86, _)]) rfl ?_)
   refine k_then_n (c_cond_f rfl ?_)
   refine c_skip (k_then_n (c_seq (c_plain ((.l 0 [] (.done))) (by kernel_rfl) ?_)))
   refine l_store (j := 0) rfl rfl rfl rfl Try.sizeOf3 (us := [_]) rfl rfl rfl Tk Az (by first | decide | (simp; done) | omega) ?_
   simp only [setL, List.set]
   refine ag_nil (r_done (k_then_n (c_seq (c_seq (c_plain (.q 0 (.done)) (by kernel_rfl) ?_)))))
   refine q_move rfl rfl rfl rfl (r_done (k_then_n (c_block (s_heap (fun _ h => Bun.fold ((by (repeat ((with_reducible apply Z2); focus (first | (with_reducible (repeat (first | exact Z0 | apply Z1)); done) | (repeat (first | exact Z0 | apply Z1))))); exact Z3 : Takes _ [cells b2 0 [.pointer (some ⟨b, 0, none⟩)], cells b3 0 [.int .i64 kd, .int .i64 on, .slice so sn sc, .int .i64 th, .int .u64 ck, .slice ko kn kc, .int .u64 ((ep : Nat) : Int), .int .i64 lv], cells b4 0 [.bool false], cells b5 0 [.int .i64 ((plN on : Nat) : Int)], cells b6 0 [.slice ra (nzM m).length rc], own 1 encZ ra rc (nzM m), cells b8 0 [.int .i64 0], cells b 0 [.pointer p0, .pointer p1, .pointer p2, .pointer p3, .pointer p4, .pointer p5, .slice ca T.C.length cc, .slice wa T.W.length wc], bigS (plF ckB) T.Q] _) _ h)) ?_))))
   refine c_rangeF _ rfl Try.call65 (fun lp => over1_spec (σ := Nat) (lM m) qa (lM m).length qc qb (own 1 encU qa qc (lM m)) rfl (rds_own encU_len (fun h => (hp2 h).1) hp3) (by omega) (yv lp) (LoopJ lp _ _ _ _ _) (fun k => Bun [cells b2 0 [.pointer (some ⟨b, 0, none⟩)], cells b3 0 [.int .i64 kd, .int .i64 on, .slice so sn sc, .int .i64 th, .int .u64 ck, .slice ko kn kc, .int .u64 ((ep : Nat) : Int), .int .i64 lv], cells b4 0 [.bool false], cells b5 0 [.int .i64 ((plN on : Nat) : Int)], cells b6 0 [.slice ra (nzM m).length rc], own 1 encZ ra rc (nzM m), cells b8 0 [.int .i64 ((k : Nat) : Int)], cells b 0 [.pointer p0, .pointer p1, .pointer p2, .pointer p3, .pointer p4, .pointer p5, .slice ca T.C.length cc, .slice wa T.W.length wc], bigS (plF ckB) T.Q]) (fun i k => k = (nz (lM m) i).length ∧ True) (fun k c => False) (fun i x k hxi hxz hI => callF_yield rfl (by decide) (by decide) (fun Γ w0 => ?_)) (fun i k hxi hI => ⟨by rw [nz_skip hxi]; exact hI.1, hI.2⟩) 0 (⟨rfl, trivial⟩)) Ts ?_
   ·
    try simp only [zipE, List.cons_append, List.nil_append]
    obtain ⟨rfl, hI2⟩ := hI
    have hki : (nzM m)[(nz (lM m) i).length]? = some ((i : Nat) : Int) := nz_at hxi hxz
    have hkl := (List.getElem?_eq_some_iff.1 hki).1
    have hil := (List.getElem?_eq_some_iff.1 hxi).1
    have hgx := gM_at hxi
    have hnx := nz_more hxi hxz
    have hnl : (nz (lM m) (i + 1)).length = (nz (lM m) i).length + 1 := by rw [hnx, List.length_append]; rfl
    obtain ⟨k, hk⟩ : ∃ k, k = (nz (lM m) i).length := ⟨_, rfl⟩
    rw [← hk] at hki hkl hnl ⊢
    try rw [← hk] at hI2
    refine s_take (A := Bun [cells b2 0 [.pointer (some ⟨b, 0, none⟩)], cells b3 0 [.int .i64 kd, .int .i64 on, .slice so sn sc, .int .i64 th, .int .u64 ck, .slice ko kn kc, .int .u64 ((ep : Nat) : Int), .int .i64 lv], cells b4 0 [.bool false], cells b5 0 [.int .i64 ((plN on : Nat) : Int)], cells b6 0 [.slice ra (nzM m).length rc], own 1 encZ ra rc (nzM m), cells b8 0 [.int .i64 ((k : Nat) : Int)], cells b 0 [.pointer p0, .pointer p1, .pointer p2, .pointer p3, .pointer p4, .pointer p5, .slice ca T.C.length cc, .slice wa T.W.length wc], bigS (plF ckB) T.Q]) Tk ?_
    refine s_bun ?_
    try simp only [List.cons_append, List.nil_append]
    refine c_plain (.q 0 (.done)) (by kernel_rfl) ?_
    refine q_assign rfl rfl rfl rfl (r_done (k_then_n (k_begin Tk ?_)))
    refine c_block (c_seq (c_seq (c_plain (.q 0 (.q 1 (.q 2 (.q 3 (.q 4 (.q 5 (.q 6 (.q 7 (.q 8 (.q 9 (.q 10 (.q 11 (.done))))))))))))) (by kernel_rfl) ?_)))
    refine q_load_c (j := 0) rfl rfl rfl rfl Try.isAgg3 Tk Az (by rfl) ?_
    refine q_load_c (j := 0) rfl rfl rfl rfl Try.isAgg66 Tk Az (by rfl) ?_
    refine q_len rfl rfl rfl rfl Try.underlying66 ?_
    refine q_int rfl rfl rfl rfl rfl (b_geq _ _ _ _) ?_
    refine q_move rfl rfl rfl rfl ?_
    refine s_bool_p 94 rfl (fun hg => by exfalso; omega) (fun hg => ?_)
    refine q_move rfl rfl rfl rfl (q_load_c (j := 0) rfl rfl rfl rfl Try.isAgg66 Tk Az (by rfl) ?_)
    refine q_load_c (j := 0) rfl rfl rfl rfl Try.isAgg3 Tk Az (by rfl) ?_
    refine q_idxO (sz := 0) (k := k) (enc := encZ) (xs := (nzM m)) rfl rfl rfl rfl rfl Try.underlying66 Try.sizeOf3 hki (by first | rfl | omega) (by omega) Tk ?_
    intro ib98 io98 ha98 hl98 hc98
    refine q_load_O (v := (.int .i64 ((i : Nat) : Int))) (j := 0) (k' := k) (enc := encZ) (off := io98) rfl rfl rfl rfl Try.isAgg3 ha98 encZ_len hki Tk (by first | rfl | exact (Nat.add_zero _).symm | omega) (by rfl) ?_
    refine q_int rfl rfl rfl rfl rfl (b_neq _ _ _ _) ?_
    refine s_eq 100 rfl (v' := .bool false) (by simp) ?_
    refine q_pick_f rfl rfl rfl rfl rfl (r_done (s_keep [4, 8, 101] (e' := [(4, _), (8, _), (101, _)]) rfl ?_))
    refine k_then_n (c_cond_f rfl ?_)
    refine c_skip (k_then_n (c_plain (.q 0 (.q 1 ((.l 2 [] (.done))))) (by kernel_rfl) ?_))
    refine q_load_c (j := 0) rfl rfl rfl rfl Try.isAgg3 Tk Az (by rfl) ?_
    refine q_int rfl rfl rfl rfl rfl (b_add' _ (by exact fits_i64 (by omega) (by omega))) ?_
    refine l_store (j := 0) rfl rfl rfl rfl Try.sizeOf3 (us := [_]) rfl rfl rfl Tk Az (by first | decide | (simp; done) | omega) ?_
    simp only [setL, List.set]
    refine ag_nil (r_done (s_keep [] (e' := []) rfl ?_))
    refine k_blk_n (s_heap (fun _ h => Bun.fold ((by (repeat ((with_reducible apply Z2); focus (first | (with_reducible (repeat (first | exact Z0 | apply Z1)); done) | (repeat (first | exact Z0 | apply Z1))))); exact Z3 : Takes _ [cells b2 0 [.pointer (some ⟨b, 0, none⟩)], cells b3 0 [.int .i64 kd, .int .i64 on, .slice so sn sc, .int .i64 th, .int .u64 ck, .slice ko kn kc, .int .u64 ((ep : Nat) : Int), .int .i64 lv], cells b4 0 [.bool false], cells b5 0 [.int .i64 ((plN on : Nat) : Int)], cells b6 0 [.slice ra (nzM m).length rc], own 1 encZ ra rc (nzM m), cells b8 0 [.int .i64 (((k + 1) : Nat) : Int)], cells b 0 [.pointer p0, .pointer p1, .pointer p2, .pointer p3, .pointer p4, .pointer p5, .slice ca T.C.length cc, .slice wa T.W.length wc], bigS (plF ckB) T.Q] _) _ h)) ?_)
    refine rr_n ((k + 1, none)) (by rfl) (by exact ⟨fun _ => ⟨by rw [hnl], trivial⟩, fun c hc => (by cases hc)⟩) Tk ?_
    (try simp only [List.cons_append, List.nil_append]); exact Tf
   rintro ⟨k2, p2⟩ (⟨g1, g2, -⟩ | ⟨c, g1, g2⟩) blk_11
   try simp only [List.cons_append, List.nil_append]
   ·
    simp only at g1 g2
    subst g1
    have hkn2 : k2 = (nzM m).length := g2
    show Le _ _
    try simp only [List.cons_append, List.nil_append]
    refine s_take (A := Bun [cells b2 0 [.pointer (some ⟨b, 0, none⟩)], cells b3 0 [.int .i64 kd, .int .i64 on, .slice so sn sc, .int .i64 th, .int .u64 ck, .slice ko kn kc, .int .u64 ((ep : Nat) : Int), .int .i64 lv], cells b4 0 [.bool false], cells b5 0 [.int .i64 ((plN on : Nat) : Int)], cells b6 0 [.slice ra (nzM m).length rc], own 1 encZ ra rc (nzM m), cells b8 0 [.int .i64 ((k2 : Nat) : Int)], cells b 0 [.pointer p0, .pointer p1, .pointer p2, .pointer p3, .pointer p4, .pointer p5, .slice ca T.C.length cc, .slice wa T.W.length wc], bigS (plF ckB) T.Q]) Tk ?_
    refine s_bun ?_
    try simp only [List.cons_append, List.nil_append]
    refine k_blk_n (k_then_n (c_seq (c_plain (.q 0 (.q 1 (.q 2 (.q 3 ((.l 4 [] (.done))))))) (by kernel_rfl) ?_)))
    refine q_load_c (j := 0) rfl rfl rfl rfl Try.isAgg3 Tk Az (by rfl) ?_
    refine q_load_c (j := 0) rfl rfl rfl rfl Try.isAgg66 Tk Az (by rfl) ?_
    refine q_len rfl rfl rfl rfl Try.underlying66 ?_
    refine q_int rfl rfl rfl rfl rfl (b_eql _ _ _ _) ?_
    refine s_eq 107 rfl (v' := .bool true) (by rw [decide_eq_true (by omega)]) ?_
    refine l_store (j := 0) rfl rfl rfl rfl Try.sizeOf4 (us := [_]) rfl rfl rfl Tk Az (by first | decide | (simp; done) | omega) ?_
    simp only [setL, List.set]
    refine ag_nil (r_done (s_keep [4] (e' := [(4, _)]) rfl ?_))
    refine k_then_n (c_ret (rm_ret ?_))
    refine rm_mark (blk := blk_11) Tk ?_
    refine rm_mark (blk := blk_5) Tk ?_
    refine rm_done (us := [_]) rfl ⟨rv_cell1 rfl Try.isAgg4 Tk (j := 0) rfl rfl, trivial⟩ (()) (by first | rfl | (first | rfl | (congr 1; done) | (congr 1 <;> first | rfl | omega | (simp; done) | (simp; omega)))) (by trivial) ?_
    exact Tf
   exact g2.elim
  refine q_skip rfl rfl rfl rfl (q_skip rfl rfl rfl rfl (q_skip rfl rfl rfl rfl (q_skip rfl rfl rfl rfl (q_pick_f rfl rfl rfl rfl rfl (q_move rfl rfl rfl rfl (q_field (k := 7) rfl rfl rfl rfl Try.underlying68 rfl Try.sizeOf3 rfl ?_))))))
  refine q_load_c (j := 7) rfl rfl rfl rfl Try.isAgg3 Tk Az (by rfl) ?_
  refine q_int rfl rfl rfl rfl rfl (b_gtr _ _ _ _) ?_
  refine q_move rfl rfl rfl rfl ?_
  refine s_bool_p 77 rfl (fun hl2 => ?_) (fun hl2 => ?_)
  ·
   refine q_load_c (j := 0) rfl rfl rfl rfl Try.isAgg3 Tk Az (by rfl) ?_
   refine q_field (k := 7) rfl rfl rfl rfl Try.underlying68 rfl Try.sizeOf3 rfl ?_
   refine q_load_c (j := 7) rfl rfl rfl rfl Try.isAgg3 Tk Az (by rfl) ?_
   refine q_load_c (j := 0) rfl rfl rfl rfl Try.isAgg66 Tk Az (by rfl) ?_
   refine q_len rfl rfl rfl rfl Try.underlying66 ?_
   refine q_min rfl rfl rfl rfl rfl ?_
   refine q_int rfl rfl rfl rfl rfl (b_neq _ _ _ _) ?_
   refine s_eq 84 rfl (v' := .bool false) (by exact congrArg Value.bool (decide_eq_false (fun h => h (by omega)))) ?_
   refine q_pick_t rfl rfl rfl rfl rfl (q_pick_f rfl rfl rfl rfl rfl (r_done (s_keep [4, 6, 7, 8, 86] (e' := [(4, _), (6, _), (7, _), (8, _), (86, _)]) rfl ?_)))
   refine k_then_n (c_cond_f rfl ?_)
   refine c_skip (k_then_n (c_seq (c_plain ((.l 0 [] (.done))) (by kernel_rfl) ?_)))
   refine l_store (j := 0) rfl rfl rfl rfl Try.sizeOf3 (us := [_]) rfl rfl rfl Tk Az (by first | decide | (simp; done) | omega) ?_
   simp only [setL, List.set]
   refine ag_nil (r_done (k_then_n (c_seq (c_seq (c_plain (.q 0 (.done)) (by kernel_rfl) ?_)))))
   refine q_move rfl rfl rfl rfl (r_done (k_then_n (c_block (s_heap (fun _ h => Bun.fold ((by (repeat ((with_reducible apply Z2); focus (first | (with_reducible (repeat (first | exact Z0 | apply Z1)); done) | (repeat (first | exact Z0 | apply Z1))))); exact Z3 : Takes _ [cells b2 0 [.pointer (some ⟨b, 0, none⟩)], cells b3 0 [.int .i64 kd, .int .i64 on, .slice so sn sc, .int .i64 th, .int .u64 ck, .slice ko kn kc, .int .u64 ((ep : Nat) : Int), .int .i64 lv], cells b4 0 [.bool false], cells b5 0 [.int .i64 ((plN on : Nat) : Int)], cells b6 0 [.slice ra (nzM m).length rc], own 1 encZ ra rc (nzM m), cells b8 0 [.int .i64 0], cells b 0 [.pointer p0, .pointer p1, .pointer p2, .pointer p3, .pointer p4, .pointer p5, .slice ca T.C.length cc, .slice wa T.W.length wc], bigS (plF ckB) T.Q] _) _ h)) ?_))))
   refine c_rangeF _ rfl Try.call65 (fun lp => over1_spec (σ := Nat) (lM m) qa (lM m).length qc qb (own 1 encU qa qc (lM m)) rfl (rds_own encU_len (fun h => (hp2 h).1) hp3) (by omega) (yv lp) (LoopJ lp _ _ _ _ _) (fun k => Bun [cells b2 0 [.pointer (some ⟨b, 0, none⟩)], cells b3 0 [.int .i64 kd, .int .i64 on, .slice so sn sc, .int .i64 th, .int .u64 ck, .slice ko kn kc, .int .u64 ((ep : Nat) : Int), .int .i64 lv], cells b4 0 [.bool false], cells b5 0 [.int .i64 ((plN on : Nat) : Int)], cells b6 0 [.slice ra (nzM m).length rc], own 1 encZ ra rc (nzM m), cells b8 0 [.int .i64 ((k : Nat) : Int)], cells b 0 [.pointer p0, .pointer p1, .pointer p2, .pointer p3, .pointer p4, .pointer p5, .slice ca T.C.length cc, .slice wa T.W.length wc], bigS (plF ckB) T.Q]) (fun i k => k = (nz (lM m) i).length ∧ True) (fun k c => False) (fun i x k hxi hxz hI => callF_yield rfl (by decide) (by decide) (fun Γ w0 => ?_)) (fun i k hxi hI => ⟨by rw [nz_skip hxi]; exact hI.1, hI.2⟩) 0 (⟨rfl, trivial⟩)) Ts ?_
   ·
    try simp only [zipE, List.cons_append, List.nil_append]
    obtain ⟨rfl, hI2⟩ := hI
    have hki : (nzM m)[(nz (lM m) i).length]? = some ((i : Nat) : Int) := nz_at hxi hxz
    have hkl := (List.getElem?_eq_some_iff.1 hki).1
    have hil := (List.getElem?_eq_some_iff.1 hxi).1
    have hgx := gM_at hxi
    have hnx := nz_more hxi hxz
    have hnl : (nz (lM m) (i + 1)).length = (nz (lM m) i).length + 1 := by rw [hnx, List.length_append]; rfl
    obtain ⟨k, hk⟩ : ∃ k, k = (nz (lM m) i).length := ⟨_, rfl⟩
    rw [← hk] at hki hkl hnl ⊢
    try rw [← hk] at hI2
    refine s_take (A := Bun [cells b2 0 [.pointer (some ⟨b, 0, none⟩)], cells b3 0 [.int .i64 kd, .int .i64 on, .slice so sn sc, .int .i64 th, .int .u64 ck, .slice ko kn kc, .int .u64 ((ep : Nat) : Int), .int .i64 lv], cells b4 0 [.bool false], cells b5 0 [.int .i64 ((plN on : Nat) : Int)], cells b6 0 [.slice ra (nzM m).length rc], own 1 encZ ra rc (nzM m), cells b8 0 [.int .i64 ((k : Nat) : Int)], cells b 0 [.pointer p0, .pointer p1, .pointer p2, .pointer p3, .pointer p4, .pointer p5, .slice ca T.C.length cc, .slice wa T.W.length wc], bigS (plF ckB) T.Q]) Tk ?_
    refine s_bun ?_
    try simp only [List.cons_append, List.nil_append]
    refine c_plain (.q 0 (.done)) (by kernel_rfl) ?_
    refine q_assign rfl rfl rfl rfl (r_done (k_then_n (k_begin Tk ?_)))
    refine c_block (c_seq (c_seq (c_plain (.q 0 (.q 1 (.q 2 (.q 3 (.q 4 (.q 5 (.q 6 (.q 7 (.q 8 (.q 9 (.q 10 (.q 11 (.done))))))))))))) (by kernel_rfl) ?_)))
    refine q_load_c (j := 0) rfl rfl rfl rfl Try.isAgg3 Tk Az (by rfl) ?_
    refine q_load_c (j := 0) rfl rfl rfl rfl Try.isAgg66 Tk Az (by rfl) ?_
    refine q_len rfl rfl rfl rfl Try.underlying66 ?_
    refine q_int rfl rfl rfl rfl rfl (b_geq _ _ _ _) ?_
    refine q_move rfl rfl rfl rfl ?_
    refine s_bool_p 94 rfl (fun hg => by exfalso; omega) (fun hg => ?_)
    refine q_move rfl rfl rfl rfl (q_load_c (j := 0) rfl rfl rfl rfl Try.isAgg66 Tk Az (by rfl) ?_)
    refine q_load_c (j := 0) rfl rfl rfl rfl Try.isAgg3 Tk Az (by rfl) ?_
    refine q_idxO (sz := 0) (k := k) (enc := encZ) (xs := (nzM m)) rfl rfl rfl rfl rfl Try.underlying66 Try.sizeOf3 hki (by first | rfl | omega) (by omega) Tk ?_
    intro ib98 io98 ha98 hl98 hc98
    refine q_load_O (v := (.int .i64 ((i : Nat) : Int))) (j := 0) (k' := k) (enc := encZ) (off := io98) rfl rfl rfl rfl Try.isAgg3 ha98 encZ_len hki Tk (by first | rfl | exact (Nat.add_zero _).symm | omega) (by rfl) ?_
    refine q_int rfl rfl rfl rfl rfl (b_neq _ _ _ _) ?_
    refine s_eq 100 rfl (v' := .bool false) (by simp) ?_
    refine q_pick_f rfl rfl rfl rfl rfl (r_done (s_keep [4, 8, 101] (e' := [(4, _), (8, _), (101, _)]) rfl ?_))
    refine k_then_n (c_cond_f rfl ?_)
    refine c_skip (k_then_n (c_plain (.q 0 (.q 1 ((.l 2 [] (.done))))) (by kernel_rfl) ?_))
    refine q_load_c (j := 0) rfl rfl rfl rfl Try.isAgg3 Tk Az (by rfl) ?_
    refine q_int rfl rfl rfl rfl rfl (b_add' _ (by exact fits_i64 (by omega) (by omega))) ?_
    refine l_store (j := 0) rfl rfl rfl rfl Try.sizeOf3 (us := [_]) rfl rfl rfl Tk Az (by first | decide | (simp; done) | omega) ?_
    simp only [setL, List.set]
    refine ag_nil (r_done (s_keep [] (e' := []) rfl ?_))
    refine k_blk_n (s_heap (fun _ h => Bun.fold ((by (repeat ((with_reducible apply Z2); focus (first | (with_reducible (repeat (first | exact Z0 | apply Z1)); done) | (repeat (first | exact Z0 | apply Z1))))); exact Z3 : Takes _ [cells b2 0 [.pointer (some ⟨b, 0, none⟩)], cells b3 0 [.int .i64 kd, .int .i64 on, .slice so sn sc, .int .i64 th, .int .u64 ck, .slice ko kn kc, .int .u64 ((ep : Nat) : Int), .int .i64 lv], cells b4 0 [.bool false], cells b5 0 [.int .i64 ((plN on : Nat) : Int)], cells b6 0 [.slice ra (nzM m).length rc], own 1 encZ ra rc (nzM m), cells b8 0 [.int .i64 (((k + 1) : Nat) : Int)], cells b 0 [.pointer p0, .pointer p1, .pointer p2, .pointer p3, .pointer p4, .pointer p5, .slice ca T.C.length cc, .slice wa T.W.length wc], bigS (plF ckB) T.Q] _) _ h)) ?_)
    refine rr_n ((k + 1, none)) (by rfl) (by exact ⟨fun _ => ⟨by rw [hnl], trivial⟩, fun c hc => (by cases hc)⟩) Tk ?_
    (try simp only [List.cons_append, List.nil_append]); exact Tf
   rintro ⟨k2, p2⟩ (⟨g1, g2, -⟩ | ⟨c, g1, g2⟩) blk_12
   try simp only [List.cons_append, List.nil_append]
   ·
    simp only at g1 g2
    subst g1
    have hkn2 : k2 = (nzM m).length := g2
    show Le _ _
    try simp only [List.cons_append, List.nil_append]
    refine s_take (A := Bun [cells b2 0 [.pointer (some ⟨b, 0, none⟩)], cells b3 0 [.int .i64 kd, .int .i64 on, .slice so sn sc, .int .i64 th, .int .u64 ck, .slice ko kn kc, .int .u64 ((ep : Nat) : Int), .int .i64 lv], cells b4 0 [.bool false], cells b5 0 [.int .i64 ((plN on : Nat) : Int)], cells b6 0 [.slice ra (nzM m).length rc], own 1 encZ ra rc (nzM m), cells b8 0 [.int .i64 ((k2 : Nat) : Int)], cells b 0 [.pointer p0, .pointer p1, .pointer p2, .pointer p3, .pointer p4, .pointer p5, .slice ca T.C.length cc, .slice wa T.W.length wc], bigS (plF ckB) T.Q]) Tk ?_
    refine s_bun ?_
    try simp only [List.cons_append, List.nil_append]
    refine k_blk_n (k_then_n (c_seq (c_plain (.q 0 (.q 1 (.q 2 (.q 3 ((.l 4 [] (.done))))))) (by kernel_rfl) ?_)))
    refine q_load_c (j := 0) rfl rfl rfl rfl Try.isAgg3 Tk Az (by rfl) ?_
    refine q_load_c (j := 0) rfl rfl rfl rfl Try.isAgg66 Tk Az (by rfl) ?_
    refine q_len rfl rfl rfl rfl Try.underlying66 ?_
    refine q_int rfl rfl rfl rfl rfl (b_eql _ _ _ _) ?_
    refine s_eq 107 rfl (v' := .bool true) (by rw [decide_eq_true (by omega)]) ?_
    refine l_store (j := 0) rfl rfl rfl rfl Try.sizeOf4 (us := [_]) rfl rfl rfl Tk Az (by first | decide | (simp; done) | omega) ?_
    simp only [setL, List.set]
    refine ag_nil (r_done (s_keep [4] (e' := [(4, _)]) rfl ?_))
    refine k_then_n (c_ret (rm_ret ?_))
    refine rm_mark (blk := blk_12) Tk ?_
    refine rm_mark (blk := blk_5) Tk ?_
    refine rm_done (us := [_]) rfl ⟨rv_cell1 rfl Try.isAgg4 Tk (j := 0) rfl rfl, trivial⟩ (()) (by first | rfl | (first | rfl | (congr 1; done) | (congr 1 <;> first | rfl | omega | (simp; done) | (simp; omega)))) (by trivial) ?_
    exact Tf
   exact g2.elim
  refine q_skip rfl rfl rfl rfl (q_skip rfl rfl rfl rfl (q_skip rfl rfl rfl rfl (q_skip rfl rfl rfl rfl (q_skip rfl rfl rfl rfl (q_skip rfl rfl rfl rfl (q_skip rfl rfl rfl rfl (q_pick_f rfl rfl rfl rfl rfl (q_pick_f rfl rfl rfl rfl rfl ?_))))))))
  refine r_done (s_keep [4, 6, 7, 8, 86] (e' := [(4, _), (6, _), (7, _), (8, _), (86, _)]) rfl ?_)
  refine k_then_n (c_cond_f rfl ?_)
  refine c_skip (k_then_n (c_seq (c_plain ((.l 0 [] (.done))) (by kernel_rfl) ?_)))
  refine l_store (j := 0) rfl rfl rfl rfl Try.sizeOf3 (us := [_]) rfl rfl rfl Tk Az (by first | decide | (simp; done) | omega) ?_
  simp only [setL, List.set]
  refine ag_nil (r_done (k_then_n (c_seq (c_seq (c_plain (.q 0 (.done)) (by kernel_rfl) ?_)))))
  refine q_move rfl rfl rfl rfl (r_done (k_then_n (c_block (s_heap (fun _ h => Bun.fold ((by (repeat ((with_reducible apply Z2); focus (first | (with_reducible (repeat (first | exact Z0 | apply Z1)); done) | (repeat (first | exact Z0 | apply Z1))))); exact Z3 : Takes _ [cells b2 0 [.pointer (some ⟨b, 0, none⟩)], cells b3 0 [.int .i64 kd, .int .i64 on, .slice so sn sc, .int .i64 th, .int .u64 ck, .slice ko kn kc, .int .u64 ((ep : Nat) : Int), .int .i64 lv], cells b4 0 [.bool false], cells b5 0 [.int .i64 ((plN on : Nat) : Int)], cells b6 0 [.slice ra (nzM m).length rc], own 1 encZ ra rc (nzM m), cells b8 0 [.int .i64 0], cells b 0 [.pointer p0, .pointer p1, .pointer p2, .pointer p3, .pointer p4, .pointer p5, .slice ca T.C.length cc, .slice wa T.W.length wc], bigS (plF ckB) T.Q] _) _ h)) ?_))))
  refine c_rangeF _ rfl Try.call65 (fun lp => over1_spec (σ := Nat) (lM m) qa (lM m).length qc qb (own 1 encU qa qc (lM m)) rfl (rds_own encU_len (fun h => (hp2 h).1) hp3) (by omega) (yv lp) (LoopJ lp _ _ _ _ _) (fun k => Bun [cells b2 0 [.pointer (some ⟨b, 0, none⟩)], cells b3 0 [.int .i64 kd, .int .i64 on, .slice so sn sc, .int .i64 th, .int .u64 ck, .slice ko kn kc, .int .u64 ((ep : Nat) : Int), .int .i64 lv], cells b4 0 [.bool false], cells b5 0 [.int .i64 ((plN on : Nat) : Int)], cells b6 0 [.slice ra (nzM m).length rc], own 1 encZ ra rc (nzM m), cells b8 0 [.int .i64 ((k : Nat) : Int)], cells b 0 [.pointer p0, .pointer p1, .pointer p2, .pointer p3, .pointer p4, .pointer p5, .slice ca T.C.length cc, .slice wa T.W.length wc], bigS (plF ckB) T.Q]) (fun i k => k = (nz (lM m) i).length ∧ True) (fun k c => False) (fun i x k hxi hxz hI => callF_yield rfl (by decide) (by decide) (fun Γ w0 => ?_)) (fun i k hxi hI => ⟨by rw [nz_skip hxi]; exact hI.1, hI.2⟩) 0 (⟨rfl, trivial⟩)) Ts ?_
  ·
   try simp only [zipE, List.cons_append, List.nil_append]
   obtain ⟨rfl, hI2⟩ := hI
   have hki : (nzM m)[(nz (lM m) i).length]? = some ((i : Nat) : Int) := nz_at hxi hxz
   have hkl := (List.getElem?_eq_some_iff.1 hki).1
   have hil := (List.getElem?_eq_some_iff.1 hxi).1
   have hgx := gM_at hxi
   have hnx := nz_more hxi hxz
   have hnl : (nz (lM m) (i + 1)).length = (nz (lM m) i).length + 1 := by rw [hnx, List.length_append]; rfl
   obtain ⟨k, hk⟩ : ∃ k, k = (nz (lM m) i).length := ⟨_, rfl⟩
   rw [← hk] at hki hkl hnl ⊢
   try rw [← hk] at hI2
   refine s_take (A := Bun [cells b2 0 [.pointer (some ⟨b, 0, none⟩)], cells b3 0 [.int .i64 kd, .int .i64 on, .slice so sn sc, .int .i64 th, .int .u64 ck, .slice ko kn kc, .int .u64 ((ep : Nat) : Int), .int .i64 lv], cells b4 0 [.bool false], cells b5 0 [.int .i64 ((plN on : Nat) : Int)], cells b6 0 [.slice ra (nzM m).length rc], own 1 encZ ra rc (nzM m), cells b8 0 [.int .i64 ((k : Nat) : Int)], cells b 0 [.pointer p0, .pointer p1, .pointer p2, .pointer p3, .pointer p4, .pointer p5, .slice ca T.C.length cc, .slice wa T.W.length wc], bigS (plF ckB) T.Q]) Tk ?_
   refine s_bun ?_
   try simp only [List.cons_append, List.nil_append]
   refine c_plain (.q 0 (.done)) (by kernel_rfl) ?_
   refine q_assign rfl rfl rfl rfl (r_done (k_then_n (k_begin Tk ?_)))
   refine c_block (c_seq (c_seq (c_plain (.q 0 (.q 1 (.q 2 (.q 3 (.q 4 (.q 5 (.q 6 (.q 7 (.q 8 (.q 9 (.q 10 (.q 11 (.done))))))))))))) (by kernel_rfl) ?_)))
   refine q_load_c (j := 0) rfl rfl rfl rfl Try.isAgg3 Tk Az (by rfl) ?_
   refine q_load_c (j := 0) rfl rfl rfl rfl Try.isAgg66 Tk Az (by rfl) ?_
   refine q_len rfl rfl rfl rfl Try.underlying66 ?_
   refine q_int rfl rfl rfl rfl rfl (b_geq _ _ _ _) ?_
   refine q_move rfl rfl rfl rfl ?_
   refine s_bool_p 94 rfl (fun hg => by exfalso; omega) (fun hg => ?_)
   refine q_move rfl rfl rfl rfl (q_load_c (j := 0) rfl rfl rfl rfl Try.isAgg66 Tk Az (by rfl) ?_)
   refine q_load_c (j := 0) rfl rfl rfl rfl Try.isAgg3 Tk Az (by rfl) ?_
   refine q_idxO (sz := 0) (k := k) (enc := encZ) (xs := (nzM m)) rfl rfl rfl rfl rfl Try.underlying66 Try.sizeOf3 hki (by first | rfl | omega) (by omega) Tk ?_
   intro ib98 io98 ha98 hl98 hc98
   refine q_load_O (v := (.int .i64 ((i : Nat) : Int))) (j := 0) (k' := k) (enc := encZ) (off := io98) rfl rfl rfl rfl Try.isAgg3 ha98 encZ_len hki Tk (by first | rfl | exact (Nat.add_zero _).symm | omega) (by rfl) ?_
   refine q_int rfl rfl rfl rfl rfl (b_neq _ _ _ _) ?_
   refine s_eq 100 rfl (v' := .bool false) (by simp) ?_
   refine q_pick_f rfl rfl rfl rfl rfl (r_done (s_keep [4, 8, 101] (e' := [(4, _), (8, _), (101, _)]) rfl ?_))
   refine k_then_n (c_cond_f rfl ?_)
   refine c_skip (k_then_n (c_plain (.q 0 (.q 1 ((.l 2 [] (.done))))) (by kernel_rfl) ?_))
   refine q_load_c (j := 0) rfl rfl rfl rfl Try.isAgg3 Tk Az (by rfl) ?_
   refine q_int rfl rfl rfl rfl rfl (b_add' _ (by exact fits_i64 (by omega) (by omega))) ?_
   refine l_store (j := 0) rfl rfl rfl rfl Try.sizeOf3 (us := [_]) rfl rfl rfl Tk Az (by first | decide | (simp; done) | omega) ?_
   simp only [setL, List.set]
   refine ag_nil (r_done (s_keep [] (e' := []) rfl ?_))
   refine k_blk_n (s_heap (fun _ h => Bun.fold ((by (repeat ((with_reducible apply Z2); focus (first | (with_reducible (repeat (first | exact Z0 | apply Z1)); done) | (repeat (first | exact Z0 | apply Z1))))); exact Z3 : Takes _ [cells b2 0 [.pointer (some ⟨b, 0, none⟩)], cells b3 0 [.int .i64 kd, .int .i64 on, .slice so sn sc, .int .i64 th, .int .u64 ck, .slice ko kn kc, .int .u64 ((ep : Nat) : Int), .int .i64 lv], cells b4 0 [.bool false], cells b5 0 [.int .i64 ((plN on : Nat) : Int)], cells b6 0 [.slice ra (nzM m).length rc], own 1 encZ ra rc (nzM m), cells b8 0 [.int .i64 (((k + 1) : Nat) : Int)], cells b 0 [.pointer p0, .pointer p1, .pointer p2, .pointer p3, .pointer p4, .pointer p5, .slice ca T.C.length cc, .slice wa T.W.length wc], bigS (plF ckB) T.Q] _) _ h)) ?_)
   refine rr_n ((k + 1, none)) (by rfl) (by exact ⟨fun _ => ⟨by rw [hnl], trivial⟩, fun c hc => (by cases hc)⟩) Tk ?_
   (try simp only [List.cons_append, List.nil_append]); exact Tf
  rintro ⟨k2, p2⟩ (⟨g1, g2, -⟩ | ⟨c, g1, g2⟩) blk_13
  try simp only [List.cons_append, List.nil_append]
  ·
   simp only at g1 g2
   subst g1
   have hkn2 : k2 = (nzM m).length := g2
   show Le _ _
   try simp only [List.cons_append, List.nil_append]
   refine s_take (A := Bun [cells b2 0 [.pointer (some ⟨b, 0, none⟩)], cells b3 0 [.int .i64 kd, .int .i64 on, .slice so sn sc, .int .i64 th, .int .u64 ck, .slice ko kn kc, .int .u64 ((ep : Nat) : Int), .int .i64 lv], cells b4 0 [.bool false], cells b5 0 [.int .i64 ((plN on : Nat) : Int)], cells b6 0 [.slice ra (nzM m).length rc], own 1 encZ ra rc (nzM m), cells b8 0 [.int .i64 ((k2 : Nat) : Int)], cells b 0 [.pointer p0, .pointer p1, .pointer p2, .pointer p3, .pointer p4, .pointer p5, .slice ca T.C.length cc, .slice wa T.W.length wc], bigS (plF ckB) T.Q]) Tk ?_
   refine s_bun ?_
   try simp only [List.cons_append, List.nil_append]
   refine k_blk_n (k_then_n (c_seq (c_plain (.q 0 (.q 1 (.q 2 (.q 3 ((.l 4 [] (.done))))))) (by kernel_rfl) ?_)))
   refine q_load_c (j := 0) rfl rfl rfl rfl Try.isAgg3 Tk Az (by rfl) ?_
   refine q_load_c (j := 0) rfl rfl rfl rfl Try.isAgg66 Tk Az (by rfl) ?_
   refine q_len rfl rfl rfl rfl Try.underlying66 ?_
   refine q_int rfl rfl rfl rfl rfl (b_eql _ _ _ _) ?_
   refine s_eq 107 rfl (v' := .bool true) (by rw [decide_eq_true (by omega)]) ?_
   refine l_store (j := 0) rfl rfl rfl rfl Try.sizeOf4 (us := [_]) rfl rfl rfl Tk Az (by first | decide | (simp; done) | omega) ?_
   simp only [setL, List.set]
   refine ag_nil (r_done (s_keep [4] (e' := [(4, _)]) rfl ?_))
   refine k_then_n (c_ret (rm_ret ?_))
   refine rm_mark (blk := blk_13) Tk ?_
   refine rm_mark (blk := blk_5) Tk ?_
   refine rm_done (us := [_]) rfl ⟨rv_cell1 rfl Try.isAgg4 Tk (j := 0) rfl rfl, trivial⟩ (()) (by first | rfl | (first | rfl | (congr 1; done) | (congr 1 <;> first | rfl | omega | (simp; done) | (simp; omega)))) (by trivial) ?_
   exact Tf
  exact g2.elim
 refine l_alloc rfl rfl rfl Try.zeroValue66 (zs := [.slice none 0 0]) rfl ?_
 intro b6
 refine ag_load_c (q := 0) rfl rfl rfl Try.isAgg56 Tk Az (by rfl) ?_
 refine ag_load_c (q := 0) rfl rfl rfl Try.isAgg3 Tk Az (by rfl) ?_
 refine ag_load_c (q := 3 + (plN on)) rfl rfl rfl Try.isAgg58 Tk (by omega) (tc_q hq hy) ?_
 refine ag_nil ?_
 have sp_14 := Vp.r_all hy
 refine l_call rfl rfl rfl rfl rfl rfl Try.call72 (sp_14) Ts ?_
 rintro ⟨ra, rc⟩ -
 try simp only [List.cons_append, List.nil_append]
 refine ag_nil (l_store (j := 0) rfl rfl rfl rfl Try.sizeOf66 (us := [_]) rfl rfl rfl Tk Az (by first | decide | (simp; done) | omega) ?_)
 simp only [setL, List.set]
 refine ag_nil (r_done (s_keep [2, 3, 4, 5, 6] (e' := [(2, _), (3, _), (4, _), (5, _), (6, _)]) rfl ?_))
 refine k_then_n (c_seq (c_draw rfl (.q 0 (.q 1 (.q 2 (.q 3 (.q 4 (.q 5 ((.l 6 [] (.q 7 (.done)))))))))) (by kernel_rfl) ?_))
 refine q_load_c (j := 0) rfl rfl rfl rfl Try.isAgg56 Tk Az (by rfl) ?_
 refine q_load_c (j := 0) rfl rfl rfl rfl Try.isAgg3 Tk Az (by rfl) ?_
 refine q_nil_p rfl rfl rfl rfl (q_field (k := 0) rfl rfl rfl rfl Try.underlying62 rfl Try.sizeOf57 rfl ?_)
 refine q_idxA (k := (plN on)) rfl rfl rfl rfl rfl Try.underlying57 Try.sizeOf25 (by first | rfl | omega) (by omega) ?_
 refine q_load_c (j := 0 + (plN on)) rfl rfl rfl rfl Try.isAgg25 Tk (by omega) (tc_o hp hx) ?_
 have sp_15 := Vp.o_all hx
 refine l_call rfl rfl rfl rfl rfl rfl Try.call22 (sp_15) Ts ?_
 rintro ⟨qb, qa, qc⟩ -
 try simp only [List.cons_append, List.nil_append]
 refine ag_nil (q_assign rfl rfl rfl rfl (r_done (s_keep [2, 3, 4, 5, 6, 7] (e' := [(2, _), (3, _), (4, _), (5, _), (6, _), (7, _)]) rfl ?_)))
 refine k_then_n (c_seq (c_seq (c_plain (.q 0 (.q 1 (.done))) (by kernel_rfl) ?_)))
 refine q_move rfl rfl rfl rfl (q_eq_nilf rfl rfl rfl rfl Try.underlying41 ?_)
 refine r_done (k_then_n (c_cond_f rfl ?_))
 refine c_skip (k_then_n (c_seq (c_plain ((.l 0 [] ((.l 1 [] (.done))))) (by kernel_rfl) ?_)))
 refine l_alloc rfl rfl rfl Try.zeroValue3 (zs := [.int .i64 0]) rfl ?_
 intro b8
 refine ag_nil (l_store (j := 0) rfl rfl rfl rfl Try.sizeOf3 (us := [_]) rfl rfl rfl Tk Az (by first | decide | (simp; done) | omega) ?_)
 simp only [setL, List.set]
 refine ag_nil (r_done (k_then_n (c_seq (c_seq (c_plain (.q 0 (.done)) (by kernel_rfl) ?_)))))
 refine q_move rfl rfl rfl rfl (r_done (k_then_n (c_block (s_take (A := own 1 encU qa qc (lM m)) Tk ?_))))
 refine own_fc fun hp1 hp2 hp3 => ?_
 refine s_heap (fun _ h => Bun.fold ((by (repeat ((with_reducible apply Z2); focus (first | (with_reducible (repeat (first | exact Z0 | apply Z1)); done) | (repeat (first | exact Z0 | apply Z1))))); exact Z3 : Takes _ [cells b2 0 [.pointer (some ⟨b, 0, none⟩)], cells b3 0 [.int .i64 kd, .int .i64 on, .slice so sn sc, .int .i64 th, .int .u64 ck, .slice ko kn kc, .int .u64 ((ep : Nat) : Int), .int .i64 lv], cells b4 0 [.bool false], cells b5 0 [.int .i64 ((plN on : Nat) : Int)], cells b6 0 [.slice ra (nzM m).length rc], own 1 encZ ra rc (nzM m), cells b8 0 [.int .i64 0], cells b 0 [.pointer p0, .pointer p1, .pointer p2, .pointer p3, .pointer p4, .pointer p5, .slice ca T.C.length cc, .slice wa T.W.length wc], bigS (plF ckB) T.Q] _) _ h)) ?_
 refine c_rangeF _ rfl Try.call65 (fun lp => over1_spec (σ := Nat) (lM m) qa (lM m).length qc qb (own 1 encU qa qc (lM m)) rfl (rds_own encU_len (fun h => (hp2 h).1) hp3) (by omega) (yv lp) (LoopJ lp _ _ _ _ _) (fun k => Bun [cells b2 0 [.pointer (some ⟨b, 0, none⟩)], cells b3 0 [.int .i64 kd, .int .i64 on, .slice so sn sc, .int .i64 th, .int .u64 ck, .slice ko kn kc, .int .u64 ((ep : Nat) : Int), .int .i64 lv], cells b4 0 [.bool false], cells b5 0 [.int .i64 ((plN on : Nat) : Int)], cells b6 0 [.slice ra (nzM m).length rc], own 1 encZ ra rc (nzM m), cells b8 0 [.int .i64 ((k : Nat) : Int)], cells b 0 [.pointer p0, .pointer p1, .pointer p2, .pointer p3, .pointer p4, .pointer p5, .slice ca T.C.length cc, .slice wa T.W.length wc], bigS (plF ckB) T.Q]) (fun i k => k = (nz (lM m) i).length ∧ (lv ≤ 0 ∨ ((k : Nat) : Int) < lv)) (fun k c => c = .exit 0 ∧ ((k : Nat) : Int) = lv ∧ k ≤ (nzM m).length ∧ 1 ≤ k) (fun i x k hxi hxz hI => callF_yield rfl (by decide) (by decide) (fun Γ w0 => ?_)) (fun i k hxi hI => ⟨by rw [nz_skip hxi]; exact hI.1, hI.2⟩) 0 (⟨rfl, by omega⟩)) Ts ?_
 ·
  try simp only [zipE, List.cons_append, List.nil_append]
  obtain ⟨rfl, hI2⟩ := hI
  have hki : (nzM m)[(nz (lM m) i).length]? = some ((i : Nat) : Int) := nz_at hxi hxz
  have hkl := (List.getElem?_eq_some_iff.1 hki).1
  have hil := (List.getElem?_eq_some_iff.1 hxi).1
  have hgx := gM_at hxi
  have hnx := nz_more hxi hxz
  have hnl : (nz (lM m) (i + 1)).length = (nz (lM m) i).length + 1 := by rw [hnx, List.length_append]; rfl
  obtain ⟨k, hk⟩ : ∃ k, k = (nz (lM m) i).length := ⟨_, rfl⟩
  rw [← hk] at hki hkl hnl ⊢
  try rw [← hk] at hI2
  refine s_take (A := Bun [cells b2 0 [.pointer (some ⟨b, 0, none⟩)], cells b3 0 [.int .i64 kd, .int .i64 on, .slice so sn sc, .int .i64 th, .int .u64 ck, .slice ko kn kc, .int .u64 ((ep : Nat) : Int), .int .i64 lv], cells b4 0 [.bool false], cells b5 0 [.int .i64 ((plN on : Nat) : Int)], cells b6 0 [.slice ra (nzM m).length rc], own 1 encZ ra rc (nzM m), cells b8 0 [.int .i64 ((k : Nat) : Int)], cells b 0 [.pointer p0, .pointer p1, .pointer p2, .pointer p3, .pointer p4, .pointer p5, .slice ca T.C.length cc, .slice wa T.W.length wc], bigS (plF ckB) T.Q]) Tk ?_
  refine s_bun ?_
  try simp only [List.cons_append, List.nil_append]
  refine c_seq (c_plain (.q 0 (.done)) (by kernel_rfl) ?_)
  refine q_assign rfl rfl rfl rfl (r_done (k_then_n (c_plain (.q 0 (.done)) (by kernel_rfl) ?_)))
  refine q_assign rfl rfl rfl rfl (r_done (k_then_n (k_begin Tk ?_)))
  refine c_block (c_seq (c_seq (c_draw rfl (.q 0 (.q 1 (.q 2 (.q 3 (.q 4 (.q 5 (.q 6 (.q 7 (.q 8 (.q 9 (.q 10 (.q 11 (.q 12 (.q 13 (.q 14 (.q 15 (.q 16 (.q 17 (.q 18 (.q 19 (.q 20 ((.l 21 [] (.q 22 (.q 23 (.done)))))))))))))))))))))))))) (by kernel_rfl) ?_)))
  refine q_load_c (j := 0) rfl rfl rfl rfl Try.isAgg3 Tk Az (by rfl) ?_
  refine q_load_c (j := 0) rfl rfl rfl rfl Try.isAgg66 Tk Az (by rfl) ?_
  refine q_len rfl rfl rfl rfl Try.underlying66 ?_
  refine q_int rfl rfl rfl rfl rfl (b_geq _ _ _ _) ?_
  refine q_move rfl rfl rfl rfl ?_
  refine s_bool_p 38 rfl (fun hg => by exfalso; omega) (fun hg => ?_)
  refine q_move rfl rfl rfl rfl (q_load_c (j := 0) rfl rfl rfl rfl Try.isAgg66 Tk Az (by rfl) ?_)
  refine q_load_c (j := 0) rfl rfl rfl rfl Try.isAgg3 Tk Az (by rfl) ?_
  refine q_idxO (sz := 0) (k := k) (enc := encZ) (xs := (nzM m)) rfl rfl rfl rfl rfl Try.underlying66 Try.sizeOf3 hki (by first | rfl | omega) (by omega) Tk ?_
  intro ib42 io42 ha42 hl42 hc42
  refine q_load_O (v := (.int .i64 ((i : Nat) : Int))) (j := 0) (k' := k) (enc := encZ) (off := io42) rfl rfl rfl rfl Try.isAgg3 ha42 encZ_len hki Tk (by first | rfl | exact (Nat.add_zero _).symm | omega) (by rfl) ?_
  refine q_int rfl rfl rfl rfl rfl (b_neq _ _ _ _) ?_
  refine s_eq 44 rfl (v' := .bool false) (by simp) ?_
  refine q_pick_f rfl rfl rfl rfl rfl (q_move rfl rfl rfl rfl (q_move rfl rfl rfl rfl (q_load_c (j := 0) rfl rfl rfl rfl Try.isAgg56 Tk Az (by rfl) ?_)))
  refine q_load_c (j := 0) rfl rfl rfl rfl Try.isAgg3 Tk Az (by rfl) ?_
  refine q_nil_p rfl rfl rfl rfl (q_field (k := 3) rfl rfl rfl rfl Try.underlying62 rfl Try.sizeOf59 rfl ?_)
  refine q_idxA (k := (plN on)) rfl rfl rfl rfl rfl Try.underlying59 Try.sizeOf58 (by first | rfl | omega) (by omega) ?_
  refine q_load_c (j := 3 + (plN on)) rfl rfl rfl rfl Try.isAgg58 Tk (by omega) (tc_q hq hy) ?_
  refine q_move rfl rfl rfl rfl ?_
  have sp_16 := Vp.r_get hy ((i : Nat) : Int)
  refine l_call rfl rfl rfl rfl rfl rfl Try.call57 (sp_16) Ts ?_
  rintro ⟨⟩ -
  try simp only [List.cons_append, List.nil_append]
  refine ag_nil (q_int rfl rfl rfl rfl rfl (b_neq _ _ _ _) ?_)
  refine s_eq 56 rfl (v' := .bool false) (by rw [hgx]; simp) ?_
  refine q_pick_f rfl rfl rfl rfl rfl (r_done (s_keep [3, 4, 8, 57] (e' := [(3, _), (4, _), (8, _), (57, _)]) rfl ?_))
  refine k_then_n (c_cond_f rfl ?_)
  refine c_skip (k_then_n (c_seq (c_plain (.q 0 (.q 1 ((.l 2 [] (.done))))) (by kernel_rfl) ?_)))
  refine q_load_c (j := 0) rfl rfl rfl rfl Try.isAgg3 Tk Az (by rfl) ?_
  refine q_int rfl rfl rfl rfl rfl (b_add' _ (by exact fits_i64 (by omega) (by omega))) ?_
  refine l_store (j := 0) rfl rfl rfl rfl Try.sizeOf3 (us := [_]) rfl rfl rfl Tk Az (by first | decide | (simp; done) | omega) ?_
  simp only [setL, List.set]
  refine ag_nil (r_done (s_keep [3, 8] (e' := [(3, _), (8, _)]) rfl ?_))
  refine k_then_n (c_seq (c_plain (.q 0 (.q 1 (.q 2 (.q 3 (.done))))) (by kernel_rfl) ?_))
  refine q_load_c (j := 0) rfl rfl rfl rfl Try.isAgg3 Tk Az (by rfl) ?_
  refine q_field (k := 7) rfl rfl rfl rfl Try.underlying68 rfl Try.sizeOf3 rfl ?_
  refine q_load_c (j := 7) rfl rfl rfl rfl Try.isAgg3 Tk Az (by rfl) ?_
  refine q_int rfl rfl rfl rfl rfl (b_eql _ _ _ _) ?_
  refine r_done (s_keep [63] (e' := [(63, _)]) rfl ?_)
  refine k_then_n ?_
  refine c_cond_p rfl (fun hbr => ?_) (fun hbr => ?_)
  ·
   refine c_exit (k_blk_out rfl ?_)
   refine s_heap (fun _ h => Bun.fold ((by (repeat ((with_reducible apply Z2); focus (first | (with_reducible (repeat (first | exact Z0 | apply Z1)); done) | (repeat (first | exact Z0 | apply Z1))))); exact Z3 : Takes _ [cells b2 0 [.pointer (some ⟨b, 0, none⟩)], cells b3 0 [.int .i64 kd, .int .i64 on, .slice so sn sc, .int .i64 th, .int .u64 ck, .slice ko kn kc, .int .u64 ((ep : Nat) : Int), .int .i64 lv], cells b4 0 [.bool false], cells b5 0 [.int .i64 ((plN on : Nat) : Int)], cells b6 0 [.slice ra (nzM m).length rc], own 1 encZ ra rc (nzM m), cells b8 0 [.int .i64 (((k + 1) : Nat) : Int)], cells b 0 [.pointer p0, .pointer p1, .pointer p2, .pointer p3, .pointer p4, .pointer p5, .slice ca T.C.length cc, .slice wa T.W.length wc], bigS (plF ckB) T.Q] _) _ h)) ?_
   refine rr_exit ((k + 1, some (.exit 0))) (by rfl) (by exact ⟨fun h => (by cases h), fun c hc => (by cases hc; exact ⟨rfl, (by omega), (by omega), (by omega)⟩)⟩) Tk ?_
   (try simp only [List.cons_append, List.nil_append]); exact Tf
  refine c_skip (k_blk_n (s_heap (fun _ h => Bun.fold ((by (repeat ((with_reducible apply Z2); focus (first | (with_reducible (repeat (first | exact Z0 | apply Z1)); done) | (repeat (first | exact Z0 | apply Z1))))); exact Z3 : Takes _ [cells b2 0 [.pointer (some ⟨b, 0, none⟩)], cells b3 0 [.int .i64 kd, .int .i64 on, .slice so sn sc, .int .i64 th, .int .u64 ck, .slice ko kn kc, .int .u64 ((ep : Nat) : Int), .int .i64 lv], cells b4 0 [.bool false], cells b5 0 [.int .i64 ((plN on : Nat) : Int)], cells b6 0 [.slice ra (nzM m).length rc], own 1 encZ ra rc (nzM m), cells b8 0 [.int .i64 (((k + 1) : Nat) : Int)], cells b 0 [.pointer p0, .pointer p1, .pointer p2, .pointer p3, .pointer p4, .pointer p5, .slice ca T.C.length cc, .slice wa T.W.length wc], bigS (plF ckB) T.Q] _) _ h)) ?_))
  refine rr_n ((k + 1, none)) (by rfl) (by exact ⟨fun _ => ⟨by rw [hnl], by omega⟩, fun c hc => (by cases hc)⟩) Tk ?_
  (try simp only [List.cons_append, List.nil_append]); exact Tf
 rintro ⟨k, p⟩ (⟨h1, h2, h3⟩ | ⟨c, h1, h2, h3, h4, h5⟩) blk_17
 try simp only [List.cons_append, List.nil_append]
 ·
  simp only at h1 h2 h3
  subst h1
  have hkn : k = (nzM m).length := h2
  show Le _ _
  try simp only [List.cons_append, List.nil_append]
  refine s_take (A := Bun [cells b2 0 [.pointer (some ⟨b, 0, none⟩)], cells b3 0 [.int .i64 kd, .int .i64 on, .slice so sn sc, .int .i64 th, .int .u64 ck, .slice ko kn kc, .int .u64 ((ep : Nat) : Int), .int .i64 lv], cells b4 0 [.bool false], cells b5 0 [.int .i64 ((plN on : Nat) : Int)], cells b6 0 [.slice ra (nzM m).length rc], own 1 encZ ra rc (nzM m), cells b8 0 [.int .i64 ((k : Nat) : Int)], cells b 0 [.pointer p0, .pointer p1, .pointer p2, .pointer p3, .pointer p4, .pointer p5, .slice ca T.C.length cc, .slice wa T.W.length wc], bigS (plF ckB) T.Q]) Tk ?_
  refine s_bun ?_
  try simp only [List.cons_append, List.nil_append]
  refine k_blk_n (k_then_n (c_seq (c_seq (c_plain (.q 0 (.q 1 (.q 2 (.q 3 (.q 4 (.q 5 (.q 6 (.q 7 (.q 8 (.q 9 (.q 10 (.q 11 (.q 12 (.q 13 (.q 14 (.q 15 (.q 16 (.q 17 (.q 18 (.q 19 (.q 20 (.q 21 (.q 22 (.done)))))))))))))))))))))))) (by kernel_rfl) ?_))))
  refine q_field (k := 7) rfl rfl rfl rfl Try.underlying68 rfl Try.sizeOf3 rfl ?_
  refine q_load_c (j := 7) rfl rfl rfl rfl Try.isAgg3 Tk Az (by rfl) ?_
  refine q_int rfl rfl rfl rfl rfl (b_leq _ _ _ _) ?_
  refine q_move rfl rfl rfl rfl ?_
  refine s_bool_p 67 rfl (fun hl1 => ?_) (fun hl1 => ?_)
  ·
   refine q_load_c (j := 0) rfl rfl rfl rfl Try.isAgg3 Tk Az (by rfl) ?_
   refine q_load_c (j := 0) rfl rfl rfl rfl Try.isAgg66 Tk Az (by rfl) ?_
   refine q_len rfl rfl rfl rfl Try.underlying66 ?_
   refine q_int rfl rfl rfl rfl rfl (b_neq _ _ _ _) ?_
   refine q_pick_t rfl rfl rfl rfl rfl (q_move rfl rfl rfl rfl ?_)
   refine s_bool_p 73 rfl (fun hg => by exfalso; omega) (fun hg => ?_)
   refine q_field (k := 7) rfl rfl rfl rfl Try.underlying68 rfl Try.sizeOf3 rfl ?_
   refine q_load_c (j := 7) rfl rfl rfl rfl Try.isAgg3 Tk Az (by rfl) ?_
   refine q_int rfl rfl rfl rfl rfl (b_gtr _ _ _ _) ?_
   refine q_move rfl rfl rfl rfl ?_
   refine s_bool_p 77 rfl (fun hl2 => ?_) (fun hl2 => ?_)
   ·
    refine q_load_c (j := 0) rfl rfl rfl rfl Try.isAgg3 Tk Az (by rfl) ?_
    refine q_field (k := 7) rfl rfl rfl rfl Try.underlying68 rfl Try.sizeOf3 rfl ?_
    refine q_load_c (j := 7) rfl rfl rfl rfl Try.isAgg3 Tk Az (by rfl) ?_
    refine q_load_c (j := 0) rfl rfl rfl rfl Try.isAgg66 Tk Az (by rfl) ?_
    refine q_len rfl rfl rfl rfl Try.underlying66 ?_
    refine q_min rfl rfl rfl rfl rfl ?_
    refine q_int rfl rfl rfl rfl rfl (b_neq _ _ _ _) ?_
    refine s_eq 84 rfl (v' := .bool false) (by exact congrArg Value.bool (decide_eq_false (fun h => h (by omega)))) ?_
    refine q_pick_t rfl rfl rfl rfl rfl (q_pick_f rfl rfl rfl rfl rfl (r_done (s_keep [4, 6, 7, 8, 86] (e' := [(4, _), (6, _), (7, _), (8, _), (86, _)]) rfl ?_)))
    refine k_then_n (c_cond_f rfl ?_)
    refine c_skip (k_then_n (c_seq (c_plain ((.l 0 [] (.done))) (by kernel_rfl) ?_)))
    refine l_store (j := 0) rfl rfl rfl rfl Try.sizeOf3 (us := [_]) rfl rfl rfl Tk Az (by first | decide | (simp; done) | omega) ?_
    simp only [setL, List.set]
    refine ag_nil (r_done (k_then_n (c_seq (c_seq (c_plain (.q 0 (.done)) (by kernel_rfl) ?_)))))
    refine q_move rfl rfl rfl rfl (r_done (k_then_n (c_block (s_heap (fun _ h => Bun.fold ((by (repeat ((with_reducible apply Z2); focus (first | (with_reducible (repeat (first | exact Z0 | apply Z1)); done) | (repeat (first | exact Z0 | apply Z1))))); exact Z3 : Takes _ [cells b2 0 [.pointer (some ⟨b, 0, none⟩)], cells b3 0 [.int .i64 kd, .int .i64 on, .slice so sn sc, .int .i64 th, .int .u64 ck, .slice ko kn kc, .int .u64 ((ep : Nat) : Int), .int .i64 lv], cells b4 0 [.bool false], cells b5 0 [.int .i64 ((plN on : Nat) : Int)], cells b6 0 [.slice ra (nzM m).length rc], own 1 encZ ra rc (nzM m), cells b8 0 [.int .i64 0], cells b 0 [.pointer p0, .pointer p1, .pointer p2, .pointer p3, .pointer p4, .pointer p5, .slice ca T.C.length cc, .slice wa T.W.length wc], bigS (plF ckB) T.Q] _) _ h)) ?_))))
    refine c_rangeF _ rfl Try.call65 (fun lp => over1_spec (σ := Nat) (lM m) qa (lM m).length qc qb (own 1 encU qa qc (lM m)) rfl (rds_own encU_len (fun h => (hp2 h).1) hp3) (by omega) (yv lp) (LoopJ lp _ _ _ _ _) (fun k => Bun [cells b2 0 [.pointer (some ⟨b, 0, none⟩)], cells b3 0 [.int .i64 kd, .int .i64 on, .slice so sn sc, .int .i64 th, .int .u64 ck, .slice ko kn kc, .int .u64 ((ep : Nat) : Int), .int .i64 lv], cells b4 0 [.bool false], cells b5 0 [.int .i64 ((plN on : Nat) : Int)], cells b6 0 [.slice ra (nzM m).length rc], own 1 encZ ra rc (nzM m), cells b8 0 [.int .i64 ((k : Nat) : Int)], cells b 0 [.pointer p0, .pointer p1, .pointer p2, .pointer p3, .pointer p4, .pointer p5, .slice ca T.C.length cc, .slice wa T.W.length wc], bigS (plF ckB) T.Q]) (fun i k => k = (nz (lM m) i).length ∧ True) (fun k c => False) (fun i x k hxi hxz hI => callF_yield rfl (by decide) (by decide) (fun Γ w0 => ?_)) (fun i k hxi hI => ⟨by rw [nz_skip hxi]; exact hI.1, hI.2⟩) 0 (⟨rfl, trivial⟩)) Ts ?_
    ·
     try simp only [zipE, List.cons_append, List.nil_append]
     obtain ⟨rfl, hI2⟩ := hI
     have hki : (nzM m)[(nz (lM m) i).length]? = some ((i : Nat) : Int) := nz_at hxi hxz
     have hkl := (List.getElem?_eq_some_iff.1 hki).1
     have hil := (List.getElem?_eq_some_iff.1 hxi).1
     have hgx := gM_at hxi
     have hnx := nz_more hxi hxz
     have hnl : (nz (lM m) (i + 1)).length = (nz (lM m) i).length + 1 := by rw [hnx, List.length_append]; rfl
     obtain ⟨k, hk⟩ : ∃ k, k = (nz (lM m) i).length := ⟨_, rfl⟩
     rw [← hk] at hki hkl hnl ⊢
     try rw [← hk] at hI2
     refine s_take (A := Bun [cells b2 0 [.pointer (some ⟨b, 0, none⟩)], cells b3 0 [.int .i64 kd, .int .i64 on, .slice so sn sc, .int .i64 th, .int .u64 ck, .slice ko kn kc, .int .u64 ((ep : Nat) : Int), .int .i64 lv], cells b4 0 [.bool false], cells b5 0 [.int .i64 ((plN on : Nat) : Int)], cells b6 0 [.slice ra (nzM m).length rc], own 1 encZ ra rc (nzM m), cells b8 0 [.int .i64 ((k : Nat) : Int)], cells b 0 [.pointer p0, .pointer p1, .pointer p2, .pointer p3, .pointer p4, .pointer p5, .slice ca T.C.length cc, .slice wa T.W.length wc], bigS (plF ckB) T.Q]) Tk ?_
     refine s_bun ?_
     try simp only [List.cons_append, List.nil_append]
     refine c_plain (.q 0 (.done)) (by kernel_rfl) ?_
     refine q_assign rfl rfl rfl rfl (r_done (k_then_n (k_begin Tk ?_)))
     refine c_block (c_seq (c_seq (c_plain (.q 0 (.q 1 (.q 2 (.q 3 (.q 4 (.q 5 (.q 6 (.q 7 (.q 8 (.q 9 (.q 10 (.q 11 (.done))))))))))))) (by kernel_rfl) ?_)))
     refine q_load_c (j := 0) rfl rfl rfl rfl Try.isAgg3 Tk Az (by rfl) ?_
     refine q_load_c (j := 0) rfl rfl rfl rfl Try.isAgg66 Tk Az (by rfl) ?_
     refine q_len rfl rfl rfl rfl Try.underlying66 ?_
     refine q_int rfl rfl rfl rfl rfl (b_geq _ _ _ _) ?_
     refine q_move rfl rfl rfl rfl ?_
     refine s_bool_p 94 rfl (fun hg => by exfalso; omega) (fun hg => ?_)
     refine q_move rfl rfl rfl rfl (q_load_c (j := 0) rfl rfl rfl rfl Try.isAgg66 Tk Az (by rfl) ?_)
     refine q_load_c (j := 0) rfl rfl rfl rfl Try.isAgg3 Tk Az (by rfl) ?_
     refine q_idxO (sz := 0) (k := k) (enc := encZ) (xs := (nzM m)) rfl rfl rfl rfl rfl Try.underlying66 Try.sizeOf3 hki (by first | rfl | omega) (by omega) Tk ?_
     intro ib98 io98 ha98 hl98 hc98
     refine q_load_O (v := (.int .i64 ((i : Nat) : Int))) (j := 0) (k' := k) (enc := encZ) (off := io98) rfl rfl rfl rfl Try.isAgg3 ha98 encZ_len hki Tk (by first | rfl | exact (Nat.add_zero _).symm | omega) (by rfl) ?_
     refine q_int rfl rfl rfl rfl rfl (b_neq _ _ _ _) ?_
     refine s_eq 100 rfl (v' := .bool false) (by simp) ?_
     refine q_pick_f rfl rfl rfl rfl rfl (r_done (s_keep [4, 8, 101] (e' := [(4, _), (8, _), (101, _)]) rfl ?_))
     refine k_then_n (c_cond_f rfl ?_)
     refine c_skip (k_then_n (c_plain (.q 0 (.q 1 ((.l 2 [] (.done))))) (by kernel_rfl) ?_))
     refine q_load_c (j := 0) rfl rfl rfl rfl Try.isAgg3 Tk Az (by rfl) ?_
     refine q_int rfl rfl rfl rfl rfl (b_add' _ (by exact fits_i64 (by omega) (by omega))) ?_
     refine l_store (j := 0) rfl rfl rfl rfl Try.sizeOf3 (us := [_]) rfl rfl rfl Tk Az (by first | decide | (simp; done) | omega) ?_
     simp only [setL, List.set]
     refine ag_nil (r_done (s_keep [] (e' := []) rfl ?_))
     refine k_blk_n (s_heap (fun _ h => Bun.fold ((by (repeat ((with_reducible apply Z2); focus (first | (with_reducible (repeat (first | exact Z0 | apply Z1)); done) | (repeat (first | exact Z0 | apply Z1))))); exact Z3 : Takes _ [cells b2 0 [.pointer (some ⟨b, 0, none⟩)], cells b3 0 [.int .i64 kd, .int .i64 on, .slice so sn sc, .int .i64 th, .int .u64 ck, .slice ko kn kc, .int .u64 ((ep : Nat) : Int), .int .i64 lv], cells b4 0 [.bool false], cells b5 0 [.int .i64 ((plN on : Nat) : Int)], cells b6 0 [.slice ra (nzM m).length rc], own 1 encZ ra rc (nzM m), cells b8 0 [.int .i64 (((k + 1) : Nat) : Int)], cells b 0 [.pointer p0, .pointer p1, .pointer p2, .pointer p3, .pointer p4, .pointer p5, .slice ca T.C.length cc, .slice wa T.W.length wc], bigS (plF ckB) T.Q] _) _ h)) ?_)
     refine rr_n ((k + 1, none)) (by rfl) (by exact ⟨fun _ => ⟨by rw [hnl], trivial⟩, fun c hc => (by cases hc)⟩) Tk ?_
     (try simp only [List.cons_append, List.nil_append]); exact Tf
    rintro ⟨k2, p2⟩ (⟨g1, g2, -⟩ | ⟨c, g1, g2⟩) blk_18
    try simp only [List.cons_append, List.nil_append]
    ·
     simp only at g1 g2
     subst g1
     have hkn2 : k2 = (nzM m).length := g2
     show Le _ _
     try simp only [List.cons_append, List.nil_append]
     refine s_take (A := Bun [cells b2 0 [.pointer (some ⟨b, 0, none⟩)], cells b3 0 [.int .i64 kd, .int .i64 on, .slice so sn sc, .int .i64 th, .int .u64 ck, .slice ko kn kc, .int .u64 ((ep : Nat) : Int), .int .i64 lv], cells b4 0 [.bool false], cells b5 0 [.int .i64 ((plN on : Nat) : Int)], cells b6 0 [.slice ra (nzM m).length rc], own 1 encZ ra rc (nzM m), cells b8 0 [.int .i64 ((k2 : Nat) : Int)], cells b 0 [.pointer p0, .pointer p1, .pointer p2, .pointer p3, .pointer p4, .pointer p5, .slice ca T.C.length cc, .slice wa T.W.length wc], bigS (plF ckB) T.Q]) Tk ?_
     refine s_bun ?_
     try simp only [List.cons_append, List.nil_append]
     refine k_blk_n (k_then_n (c_seq (c_plain (.q 0 (.q 1 (.q 2 (.q 3 ((.l 4 [] (.done))))))) (by kernel_rfl) ?_)))
     refine q_load_c (j := 0) rfl rfl rfl rfl Try.isAgg3 Tk Az (by rfl) ?_
     refine q_load_c (j := 0) rfl rfl rfl rfl Try.isAgg66 Tk Az (by rfl) ?_
     refine q_len rfl rfl rfl rfl Try.underlying66 ?_
     refine q_int rfl rfl rfl rfl rfl (b_eql _ _ _ _) ?_
     refine s_eq 107 rfl (v' := .bool true) (by rw [decide_eq_true (by omega)]) ?_
     refine l_store (j := 0) rfl rfl rfl rfl Try.sizeOf4 (us := [_]) rfl rfl rfl Tk Az (by first | decide | (simp; done) | omega) ?_
     simp only [setL, List.set]
     refine ag_nil (r_done (s_keep [4] (e' := [(4, _)]) rfl ?_))
     refine k_then_n (c_ret (rm_ret ?_))
     refine rm_mark (blk := blk_18) Tk ?_
     refine rm_mark (blk := blk_17) Tk ?_
     refine rm_done (us := [_]) rfl ⟨rv_cell1 rfl Try.isAgg4 Tk (j := 0) rfl rfl, trivial⟩ (()) (by first | rfl | (first | rfl | (congr 1; done) | (congr 1 <;> first | rfl | omega | (simp; done) | (simp; omega)))) (by trivial) ?_
     exact Tf
    exact g2.elim
   refine q_skip rfl rfl rfl rfl (q_skip rfl rfl rfl rfl (q_skip rfl rfl rfl rfl (q_skip rfl rfl rfl rfl (q_skip rfl rfl rfl rfl (q_skip rfl rfl rfl rfl (q_skip rfl rfl rfl rfl (q_pick_f rfl rfl rfl rfl rfl (q_pick_f rfl rfl rfl rfl rfl ?_))))))))
   refine r_done (s_keep [4, 6, 7, 8, 86] (e' := [(4, _), (6, _), (7, _), (8, _), (86, _)]) rfl ?_)
   refine k_then_n (c_cond_f rfl ?_)
   refine c_skip (k_then_n (c_seq (c_plain ((.l 0 [] (.done))) (by kernel_rfl) ?_)))
   refine l_store (j := 0) rfl rfl rfl rfl Try.sizeOf3 (us := [_]) rfl rfl rfl Tk Az (by first | decide | (simp; done) | omega) ?_
   simp only [setL, List.set]
   refine ag_nil (r_done (k_then_n (c_seq (c_seq (c_plain (.q 0 (.done)) (by kernel_rfl) ?_)))))
   refine q_move rfl rfl rfl rfl (r_done (k_then_n (c_block (s_heap (fun _ h => Bun.fold ((by (repeat ((with_reducible apply Z2); focus (first | (with_reducible (repeat (first | exact Z0 | apply Z1)); done) | (repeat (first | exact Z0 | apply Z1))))); exact Z3 : Takes _ [cells b2 0 [.pointer (some ⟨b, 0, none⟩)], cells b3 0 [.int .i64 kd, .int .i64 on, .slice so sn sc, .int .i64 th, .int .u64 ck, .slice ko kn kc, .int .u64 ((ep : Nat) : Int), .int .i64 lv], cells b4 0 [.bool false], cells b5 0 [.int .i64 ((plN on : Nat) : Int)], cells b6 0 [.slice ra (nzM m).length rc], own 1 encZ ra rc (nzM m), cells b8 0 [.int .i64 0], cells b 0 [.pointer p0, .pointer p1, .pointer p2, .pointer p3, .pointer p4, .pointer p5, .slice ca T.C.length cc, .slice wa T.W.length wc], bigS (plF ckB) T.Q] _) _ h)) ?_))))
   refine c_rangeF _ rfl Try.call65 (fun lp => over1_spec (σ := Nat) (lM m) qa (lM m).length qc qb (own 1 encU qa qc (lM m)) rfl (rds_own encU_len (fun h => (hp2 h).1) hp3) (by omega) (yv lp) (LoopJ lp _ _ _ _ _) (fun k => Bun [cells b2 0 [.pointer (some ⟨b, 0, none⟩)], cells b3 0 [.int .i64 kd, .int .i64 on, .slice so sn sc, .int .i64 th, .int .u64 ck, .slice ko kn kc, .int .u64 ((ep : Nat) : Int), .int .i64 lv], cells b4 0 [.bool false], cells b5 0 [.int .i64 ((plN on : Nat) : Int)], cells b6 0 [.slice ra (nzM m).length rc], own 1 encZ ra rc (nzM m), cells b8 0 [.int .i64 ((k : Nat) : Int)], cells b 0 [.pointer p0, .pointer p1, .pointer p2, .pointer p3, .pointer p4, .pointer p5, .slice ca T.C.length cc, .slice wa T.W.length wc], bigS (plF ckB) T.Q]) (fun i k => k = (nz (lM m) i).length ∧ True) (fun k c => False) (fun i x k hxi hxz hI => callF_yield rfl (by decide) (by decide) (fun Γ w0 => ?_)) (fun i k hxi hI => ⟨by rw [nz_skip hxi]; exact hI.1, hI.2⟩) 0 (⟨rfl, trivial⟩)) Ts ?_
   ·
    try simp only [zipE, List.cons_append, List.nil_append]
    obtain ⟨rfl, hI2⟩ := hI
    have hki : (nzM m)[(nz (lM m) i).length]? = some ((i : Nat) : Int) := nz_at hxi hxz
    have hkl := (List.getElem?_eq_some_iff.1 hki).1
    have hil := (List.getElem?_eq_some_iff.1 hxi).1
    have hgx := gM_at hxi
    have hnx := nz_more hxi hxz
    have hnl : (nz (lM m) (i + 1)).length = (nz (lM m) i).length + 1 := by rw [hnx, List.length_append]; rfl
    obtain ⟨k, hk⟩ : ∃ k, k = (nz (lM m) i).length := ⟨_, rfl⟩
    rw [← hk] at hki hkl hnl ⊢
    try rw [← hk] at hI2
    refine s_take (A := Bun [cells b2 0 [.pointer (some ⟨b, 0, none⟩)], cells b3 0 [.int .i64 kd, .int .i64 on, .slice so sn sc, .int .i64 th, .int .u64 ck, .slice ko kn kc, .int .u64 ((ep : Nat) : Int), .int .i64 lv], cells b4 0 [.bool false], cells b5 0 [.int .i64 ((plN on : Nat) : Int)], cells b6 0 [.slice ra (nzM m).length rc], own 1 encZ ra rc (nzM m), cells b8 0 [.int .i64 ((k : Nat) : Int)], cells b 0 [.pointer p0, .pointer p1, .pointer p2, .pointer p3, .pointer p4, .pointer p5, .slice ca T.C.length cc, .slice wa T.W.length wc], bigS (plF ckB) T.Q]) Tk ?_
    refine s_bun ?_
    try simp only [List.cons_append, List.nil_append]
    refine c_plain (.q 0 (.done)) (by kernel_rfl) ?_
    refine q_assign rfl rfl rfl rfl (r_done (k_then_n (k_begin Tk ?_)))
    refine c_block (c_seq (c_seq (c_plain (.q 0 (.q 1 (.q 2 (.q 3 (.q 4 (.q 5 (.q 6 (.q 7 (.q 8 (.q 9 (.q 10 (.q 11 (.done))))))))))))) (by kernel_rfl) ?_)))
    refine q_load_c (j := 0) rfl rfl rfl rfl Try.isAgg3 Tk Az (by rfl) ?_
    refine q_load_c (j := 0) rfl rfl rfl rfl Try.isAgg66 Tk Az (by rfl) ?_
    refine q_len rfl rfl rfl rfl Try.underlying66 ?_
    refine q_int rfl rfl rfl rfl rfl (b_geq _ _ _ _) ?_
    refine q_move rfl rfl rfl rfl ?_
    refine s_bool_p 94 rfl (fun hg => by exfalso; omega) (fun hg => ?_)
    refine q_move rfl rfl rfl rfl (q_load_c (j := 0) rfl rfl rfl rfl Try.isAgg66 Tk Az (by rfl) ?_)
    refine q_load_c (j := 0) rfl rfl rfl rfl Try.isAgg3 Tk Az (by rfl) ?_
    refine q_idxO (sz := 0) (k := k) (enc := encZ) (xs := (nzM m)) rfl rfl rfl rfl rfl Try.underlying66 Try.sizeOf3 hki (by first | rfl | omega) (by omega) Tk ?_
    intro ib98 io98 ha98 hl98 hc98
    refine q_load_O (v := (.int .i64 ((i : Nat) : Int))) (j := 0) (k' := k) (enc := encZ) (off := io98) rfl rfl rfl rfl Try.isAgg3 ha98 encZ_len hki Tk (by first | rfl | exact (Nat.add_zero _).symm | omega) (by rfl) ?_
    refine q_int rfl rfl rfl rfl rfl (b_neq _ _ _ _) ?_
    refine s_eq 100 rfl (v' := .bool false) (by simp) ?_
    refine q_pick_f rfl rfl rfl rfl rfl (r_done (s_keep [4, 8, 101] (e' := [(4, _), (8, _), (101, _)]) rfl ?_))
    refine k_then_n (c_cond_f rfl ?_)
    refine c_skip (k_then_n (c_plain (.q 0 (.q 1 ((.l 2 [] (.done))))) (by kernel_rfl) ?_))
    refine q_load_c (j := 0) rfl rfl rfl rfl Try.isAgg3 Tk Az (by rfl) ?_
    refine q_int rfl rfl rfl rfl rfl (b_add' _ (by exact fits_i64 (by omega) (by omega))) ?_
    refine l_store (j := 0) rfl rfl rfl rfl Try.sizeOf3 (us := [_]) rfl rfl rfl Tk Az (by first | decide | (simp; done) | omega) ?_
    simp only [setL, List.set]
    refine ag_nil (r_done (s_keep [] (e' := []) rfl ?_))
    refine k_blk_n (s_heap (fun _ h => Bun.fold ((by (repeat ((with_reducible apply Z2); focus (first | (with_reducible (repeat (first | exact Z0 | apply Z1)); done) | (repeat (first | exact Z0 | apply Z1))))); exact Z3 : Takes _ [cells b2 0 [.pointer (some ⟨b, 0, none⟩)], cells b3 0 [.int .i64 kd, .int .i64 on, .slice so sn sc, .int .i64 th, .int .u64 ck, .slice ko kn kc, .int .u64 ((ep : Nat) : Int), .int .i64 lv], cells b4 0 [.bool false], cells b5 0 [.int .i64 ((plN on : Nat) : Int)], cells b6 0 [.slice ra (nzM m).length rc], own 1 encZ ra rc (nzM m), cells b8 0 [.int .i64 (((k + 1) : Nat) : Int)], cells b 0 [.pointer p0, .pointer p1, .pointer p2, .pointer p3, .pointer p4, .pointer p5, .slice ca T.C.length cc, .slice wa T.W.length wc], bigS (plF ckB) T.Q] _) _ h)) ?_)
    refine rr_n ((k + 1, none)) (by rfl) (by exact ⟨fun _ => ⟨by rw [hnl], trivial⟩, fun c hc => (by cases hc)⟩) Tk ?_
    (try simp only [List.cons_append, List.nil_append]); exact Tf
   rintro ⟨k2, p2⟩ (⟨g1, g2, -⟩ | ⟨c, g1, g2⟩) blk_19
   try simp only [List.cons_append, List.nil_append]
   ·
    simp only at g1 g2
    subst g1
    have hkn2 : k2 = (nzM m).length := g2
    show Le _ _
    try simp only [List.cons_append, List.nil_append]
    refine s_take (A := Bun [cells b2 0 [.pointer (some ⟨b, 0, none⟩)], cells b3 0 [.int .i64 kd, .int .i64 on, .slice so sn sc, .int .i64 th, .int .u64 ck, .slice ko kn kc, .int .u64 ((ep : Nat) : Int), .int .i64 lv], cells b4 0 [.bool false], cells b5 0 [.int .i64 ((plN on : Nat) : Int)], cells b6 0 [.slice ra (nzM m).length rc], own 1 encZ ra rc (nzM m), cells b8 0 [.int .i64 ((k2 : Nat) : Int)], cells b 0 [.pointer p0, .pointer p1, .pointer p2, .pointer p3, .pointer p4, .pointer p5, .slice ca T.C.length cc, .slice wa T.W.length wc], bigS (plF ckB) T.Q]) Tk ?_
    refine s_bun ?_
    try simp only [List.cons_append, List.nil_append]
    refine k_blk_n (k_then_n (c_seq (c_plain (.q 0 (.q 1 (.q 2 (.q 3 ((.l 4 [] (.done))))))) (by kernel_rfl) ?_)))
    refine q_load_c (j := 0) rfl rfl rfl rfl Try.isAgg3 Tk Az (by rfl) ?_
    refine q_load_c (j := 0) rfl rfl rfl rfl Try.isAgg66 Tk Az (by rfl) ?_
    refine q_len rfl rfl rfl rfl Try.underlying66 ?_
    refine q_int rfl rfl rfl rfl rfl (b_eql _ _ _ _) ?_
    refine s_eq 107 rfl (v' := .bool true) (by rw [decide_eq_true (by omega)]) ?_
    refine l_store (j := 0) rfl rfl rfl rfl Try.sizeOf4 (us := [_]) rfl rfl rfl Tk Az (by first | decide | (simp; done) | omega) ?_
    simp only [setL, List.set]
    refine ag_nil (r_done (s_keep [4] (e' := [(4, _)]) rfl ?_))
    refine k_then_n (c_ret (rm_ret ?_))
    refine rm_mark (blk := blk_19) Tk ?_
    refine rm_mark (blk := blk_17) Tk ?_
    refine rm_done (us := [_]) rfl ⟨rv_cell1 rfl Try.isAgg4 Tk (j := 0) rfl rfl, trivial⟩ (()) (by first | rfl | (first | rfl | (congr 1; done) | (congr 1 <;> first | rfl | omega | (simp; done) | (simp; omega)))) (by trivial) ?_
    exact Tf
   exact g2.elim
  refine q_skip rfl rfl rfl rfl (q_skip rfl rfl rfl rfl (q_skip rfl rfl rfl rfl (q_skip rfl rfl rfl rfl (q_pick_f rfl rfl rfl rfl rfl (q_move rfl rfl rfl rfl (q_field (k := 7) rfl rfl rfl rfl Try.underlying68 rfl Try.sizeOf3 rfl ?_))))))
  refine q_load_c (j := 7) rfl rfl rfl rfl Try.isAgg3 Tk Az (by rfl) ?_
  refine q_int rfl rfl rfl rfl rfl (b_gtr _ _ _ _) ?_
  refine q_move rfl rfl rfl rfl ?_
  refine s_bool_p 77 rfl (fun hl2 => ?_) (fun hl2 => ?_)
  ·
   refine q_load_c (j := 0) rfl rfl rfl rfl Try.isAgg3 Tk Az (by rfl) ?_
   refine q_field (k := 7) rfl rfl rfl rfl Try.underlying68 rfl Try.sizeOf3 rfl ?_
   refine q_load_c (j := 7) rfl rfl rfl rfl Try.isAgg3 Tk Az (by rfl) ?_
   refine q_load_c (j := 0) rfl rfl rfl rfl Try.isAgg66 Tk Az (by rfl) ?_
   refine q_len rfl rfl rfl rfl Try.underlying66 ?_
   refine q_min rfl rfl rfl rfl rfl ?_
   refine q_int rfl rfl rfl rfl rfl (b_neq _ _ _ _) ?_
   refine s_eq 84 rfl (v' := .bool false) (by exact congrArg Value.bool (decide_eq_false (fun h => h (by omega)))) ?_
   refine q_pick_t rfl rfl rfl rfl rfl (q_pick_f rfl rfl rfl rfl rfl (r_done (s_keep [4, 6, 7, 8, 86] (e' := [(4, _), (6, _), (7, _), (8, _), (86, _)]) rfl ?_)))
   refine k_then_n (c_cond_f rfl ?_)
   refine c_skip (k_then_n (c_seq (c_plain ((.l 0 [] (.done))) (by kernel_rfl) ?_)))
   refine l_store (j := 0) rfl rfl rfl rfl Try.sizeOf3 (us := [_]) rfl rfl rfl Tk Az (by first | decide | (simp; done) | omega) ?_
   simp only [setL, List.set]
   refine ag_nil (r_done (k_then_n (c_seq (c_seq (c_plain (.q 0 (.done)) (by kernel_rfl) ?_)))))
   refine q_move rfl rfl rfl rfl (r_done (k_then_n (c_block (s_heap (fun _ h => Bun.fold ((by (repeat ((with_reducible apply Z2); focus (first | (with_reducible (repeat (first | exact Z0 | apply Z1)); done) | (repeat (first | exact Z0 | apply Z1))))); exact Z3 : Takes _ [cells b2 0 [.pointer (some ⟨b, 0, none⟩)], cells b3 0 [.int .i64 kd, .int .i64 on, .slice so sn sc, .int .i64 th, .int .u64 ck, .slice ko kn kc, .int .u64 ((ep : Nat) : Int), .int .i64 lv], cells b4 0 [.bool false], cells b5 0 [.int .i64 ((plN on : Nat) : Int)], cells b6 0 [.slice ra (nzM m).length rc], own 1 encZ ra rc (nzM m), cells b8 0 [.int .i64 0], cells b 0 [.pointer p0, .pointer p1, .pointer p2, .pointer p3, .pointer p4, .pointer p5, .slice ca T.C.length cc, .slice wa T.W.length wc], bigS (plF ckB) T.Q] _) _ h)) ?_))))
   refine c_rangeF _ rfl Try.call65 (fun lp => over1_spec (σ := Nat) (lM m) qa (lM m).length qc qb (own 1 encU qa qc (lM m)) rfl (rds_own encU_len (fun h => (hp2 h).1) hp3) (by omega) (yv lp) (LoopJ lp _ _ _ _ _) (fun k => Bun [cells b2 0 [.pointer (some ⟨b, 0, none⟩)], cells b3 0 [.int .i64 kd, .int .i64 on, .slice so sn sc, .int .i64 th, .int .u64 ck, .slice ko kn kc, .int .u64 ((ep : Nat) : Int), .int .i64 lv], cells b4 0 [.bool false], cells b5 0 [.int .i64 ((plN on : Nat) : Int)], cells b6 0 [.slice ra (nzM m).length rc], own 1 encZ ra rc (nzM m), cells b8 0 [.int .i64 ((k : Nat) : Int)], cells b 0 [.pointer p0, .pointer p1, .pointer p2, .pointer p3, .pointer p4, .pointer p5, .slice ca T.C.length cc, .slice wa T.W.length wc], bigS (plF ckB) T.Q]) (fun i k => k = (nz (lM m) i).length ∧ True) (fun k c => False) (fun i x k hxi hxz hI => callF_yield rfl (by decide) (by decide) (fun Γ w0 => ?_)) (fun i k hxi hI => ⟨by rw [nz_skip hxi]; exact hI.1, hI.2⟩) 0 (⟨rfl, trivial⟩)) Ts ?_
   ·
    try simp only [zipE, List.cons_append, List.nil_append]
    obtain ⟨rfl, hI2⟩ := hI
    have hki : (nzM m)[(nz (lM m) i).length]? = some ((i : Nat) : Int) := nz_at hxi hxz
    have hkl := (List.getElem?_eq_some_iff.1 hki).1
    have hil := (List.getElem?_eq_some_iff.1 hxi).1
    have hgx := gM_at hxi
    have hnx := nz_more hxi hxz
    have hnl : (nz (lM m) (i + 1)).length = (nz (lM m) i).length + 1 := by rw [hnx, List.length_append]; rfl
    obtain ⟨k, hk⟩ : ∃ k, k = (nz (lM m) i).length := ⟨_, rfl⟩
    rw [← hk] at hki hkl hnl ⊢
    try rw [← hk] at hI2
    refine s_take (A := Bun [cells b2 0 [.pointer (some ⟨b, 0, none⟩)], cells b3 0 [.int .i64 kd, .int .i64 on, .slice so sn sc, .int .i64 th, .int .u64 ck, .slice ko kn kc, .int .u64 ((ep : Nat) : Int), .int .i64 lv], cells b4 0 [.bool false], cells b5 0 [.int .i64 ((plN on : Nat) : Int)], cells b6 0 [.slice ra (nzM m).length rc], own 1 encZ ra rc (nzM m), cells b8 0 [.int .i64 ((k : Nat) : Int)], cells b 0 [.pointer p0, .pointer p1, .pointer p2, .pointer p3, .pointer p4, .pointer p5, .slice ca T.C.length cc, .slice wa T.W.length wc], bigS (plF ckB) T.Q]) Tk ?_
    refine s_bun ?_
    try simp only [List.cons_append, List.nil_append]
    refine c_plain (.q 0 (.done)) (by kernel_rfl) ?_
    refine q_assign rfl rfl rfl rfl (r_done (k_then_n (k_begin Tk ?_)))
    refine c_block (c_seq (c_seq (c_plain (.q 0 (.q 1 (.q 2 (.q 3 (.q 4 (.q 5 (.q 6 (.q 7 (.q 8 (.q 9 (.q 10 (.q 11 (.done))))))))))))) (by kernel_rfl) ?_)))
    refine q_load_c (j := 0) rfl rfl rfl rfl Try.isAgg3 Tk Az (by rfl) ?_
    refine q_load_c (j := 0) rfl rfl rfl rfl Try.isAgg66 Tk Az (by rfl) ?_
    refine q_len rfl rfl rfl rfl Try.underlying66 ?_
    refine q_int rfl rfl rfl rfl rfl (b_geq _ _ _ _) ?_
    refine q_move rfl rfl rfl rfl ?_
    refine s_bool_p 94 rfl (fun hg => by exfalso; omega) (fun hg => ?_)
    refine q_move rfl rfl rfl rfl (q_load_c (j := 0) rfl rfl rfl rfl Try.isAgg66 Tk Az (by rfl) ?_)
    refine q_load_c (j := 0) rfl rfl rfl rfl Try.isAgg3 Tk Az (by rfl) ?_
    refine q_idxO (sz := 0) (k := k) (enc := encZ) (xs := (nzM m)) rfl rfl rfl rfl rfl Try.underlying66 Try.sizeOf3 hki (by first | rfl | omega) (by omega) Tk ?_
    intro ib98 io98 ha98 hl98 hc98
    refine q_load_O (v := (.int .i64 ((i : Nat) : Int))) (j := 0) (k' := k) (enc := encZ) (off := io98) rfl rfl rfl rfl Try.isAgg3 ha98 encZ_len hki Tk (by first | rfl | exact (Nat.add_zero _).symm | omega) (by rfl) ?_
    refine q_int rfl rfl rfl rfl rfl (b_neq _ _ _ _) ?_
    refine s_eq 100 rfl (v' := .bool false) (by simp) ?_
    refine q_pick_f rfl rfl rfl rfl rfl (r_done (s_keep [4, 8, 101] (e' := [(4, _), (8, _), (101, _)]) rfl ?_))
    refine k_then_n (c_cond_f rfl ?_)
    refine c_skip (k_then_n (c_plain (.q 0 (.q 1 ((.l 2 [] (.done))))) (by kernel_rfl) ?_))
    refine q_load_c (j := 0) rfl rfl rfl rfl Try.isAgg3 Tk Az (by rfl) ?_
    refine q_int rfl rfl rfl rfl rfl (b_add' _ (by exact fits_i64 (by omega) (by omega))) ?_
    refine l_store (j := 0) rfl rfl rfl rfl Try.sizeOf3 (us := [_]) rfl rfl rfl Tk Az (by first | decide | (simp; done) | omega) ?_
    simp only [setL, List.set]
    refine ag_nil (r_done (s_keep [] (e' := []) rfl ?_))
    refine k_blk_n (s_heap (fun _ h => Bun.fold ((by (repeat ((with_reducible apply Z2); focus (first | (with_reducible (repeat (first | exact Z0 | apply Z1)); done) | (repeat (first | exact Z0 | apply Z1))))); exact Z3 : Takes _ [cells b2 0 [.pointer (some ⟨b, 0, none⟩)], cells b3 0 [.int .i64 kd, .int .i64 on, .slice so sn sc, .int .i64 th, .int .u64 ck, .slice ko kn kc, .int .u64 ((ep : Nat) : Int), .int .i64 lv], cells b4 0 [.bool false], cells b5 0 [.int .i64 ((plN on : Nat) : Int)], cells b6 0 [.slice ra (nzM m).length rc], own 1 encZ ra rc (nzM m), cells b8 0 [.int .i64 (((k + 1) : Nat) : Int)], cells b 0 [.pointer p0, .pointer p1, .pointer p2, .pointer p3, .pointer p4, .pointer p5, .slice ca T.C.length cc, .slice wa T.W.length wc], bigS (plF ckB) T.Q] _) _ h)) ?_)
    refine rr_n ((k + 1, none)) (by rfl) (by exact ⟨fun _ => ⟨by rw [hnl], trivial⟩, fun c hc => (by cases hc)⟩) Tk ?_
    (try simp only [List.cons_append, List.nil_append]); exact Tf
   rintro ⟨k2, p2⟩ (⟨g1, g2, -⟩ | ⟨c, g1, g2⟩) blk_20
   try simp only [List.cons_append, List.nil_append]
   ·
    simp only at g1 g2
    subst g1
    have hkn2 : k2 = (nzM m).length := g2
    show Le _ _
    try simp only [List.cons_append, List.nil_append]
    refine s_take (A := Bun [cells b2 0 [.pointer (some ⟨b, 0, none⟩)], cells b3 0 [.int .i64 kd, .int .i64 on, .slice so sn sc, .int .i64 th, .int .u64 ck, .slice ko kn kc, .int .u64 ((ep : Nat) : Int), .int .i64 lv], cells b4 0 [.bool false], cells b5 0 [.int .i64 ((plN on : Nat) : Int)], cells b6 0 [.slice ra (nzM m).length rc], own 1 encZ ra rc (nzM m), cells b8 0 [.int .i64 ((k2 : Nat) : Int)], cells b 0 [.pointer p0, .pointer p1, .pointer p2, .pointer p3, .pointer p4, .pointer p5, .slice ca T.C.length cc, .slice wa T.W.length wc], bigS (plF ckB) T.Q]) Tk ?_
    refine s_bun ?_
    try simp only [List.cons_append, List.nil_append]
    refine k_blk_n (k_then_n (c_seq (c_plain (.q 0 (.q 1 (.q 2 (.q 3 ((.l 4 [] (.done))))))) (by kernel_rfl) ?_)))
    refine q_load_c (j := 0) rfl rfl rfl rfl Try.isAgg3 Tk Az (by rfl) ?_
    refine q_load_c (j := 0) rfl rfl rfl rfl Try.isAgg66 Tk Az (by rfl) ?_
    refine q_len rfl rfl rfl rfl Try.underlying66 ?_
    refine q_int rfl rfl rfl rfl rfl (b_eql _ _ _ _) ?_
    refine s_eq 107 rfl (v' := .bool true) (by rw [decide_eq_true (by omega)]) ?_
    refine l_store (j := 0) rfl rfl rfl rfl Try.sizeOf4 (us := [_]) rfl rfl rfl Tk Az (by first | decide | (simp; done) | omega) ?_
    simp only [setL, List.set]
    refine ag_nil (r_done (s_keep [4] (e' := [(4, _)]) rfl ?_))
    refine k_then_n (c_ret (rm_ret ?_))
    refine rm_mark (blk := blk_20) Tk ?_
    refine rm_mark (blk := blk_17) Tk ?_
    refine rm_done (us := [_]) rfl ⟨rv_cell1 rfl Try.isAgg4 Tk (j := 0) rfl rfl, trivial⟩ (()) (by first | rfl | (first | rfl | (congr 1; done) | (congr 1 <;> first | rfl | omega | (simp; done) | (simp; omega)))) (by trivial) ?_
    exact Tf
   exact g2.elim
  refine q_skip rfl rfl rfl rfl (q_skip rfl rfl rfl rfl (q_skip rfl rfl rfl rfl (q_skip rfl rfl rfl rfl (q_skip rfl rfl rfl rfl (q_skip rfl rfl rfl rfl (q_skip rfl rfl rfl rfl (q_pick_f rfl rfl rfl rfl rfl (q_pick_f rfl rfl rfl rfl rfl ?_))))))))
  refine r_done (s_keep [4, 6, 7, 8, 86] (e' := [(4, _), (6, _), (7, _), (8, _), (86, _)]) rfl ?_)
  refine k_then_n (c_cond_f rfl ?_)
  refine c_skip (k_then_n (c_seq (c_plain ((.l 0 [] (.done))) (by kernel_rfl) ?_)))
  refine l_store (j := 0) rfl rfl rfl rfl Try.sizeOf3 (us := [_]) rfl rfl rfl Tk Az (by first | decide | (simp; done) | omega) ?_
  simp only [setL, List.set]
  refine ag_nil (r_done (k_then_n (c_seq (c_seq (c_plain (.q 0 (.done)) (by kernel_rfl) ?_)))))
  refine q_move rfl rfl rfl rfl (r_done (k_then_n (c_block (s_heap (fun _ h => Bun.fold ((by (repeat ((with_reducible apply Z2); focus (first | (with_reducible (repeat (first | exact Z0 | apply Z1)); done) | (repeat (first | exact Z0 | apply Z1))))); exact Z3 : Takes _ [cells b2 0 [.pointer (some ⟨b, 0, none⟩)], cells b3 0 [.int .i64 kd, .int .i64 on, .slice so sn sc, .int .i64 th, .int .u64 ck, .slice ko kn kc, .int .u64 ((ep : Nat) : Int), .int .i64 lv], cells b4 0 [.bool false], cells b5 0 [.int .i64 ((plN on : Nat) : Int)], cells b6 0 [.slice ra (nzM m).length rc], own 1 encZ ra rc (nzM m), cells b8 0 [.int .i64 0], cells b 0 [.pointer p0, .pointer p1, .pointer p2, .pointer p3, .pointer p4, .pointer p5, .slice ca T.C.length cc, .slice wa T.W.length wc], bigS (plF ckB) T.Q] _) _ h)) ?_))))
  refine c_rangeF _ rfl Try.call65 (fun lp => over1_spec (σ := Nat) (lM m) qa (lM m).length qc qb (own 1 encU qa qc (lM m)) rfl (rds_own encU_len (fun h => (hp2 h).1) hp3) (by omega) (yv lp) (LoopJ lp _ _ _ _ _) (fun k => Bun [cells b2 0 [.pointer (some ⟨b, 0, none⟩)], cells b3 0 [.int .i64 kd, .int .i64 on, .slice so sn sc, .int .i64 th, .int .u64 ck, .slice ko kn kc, .int .u64 ((ep : Nat) : Int), .int .i64 lv], cells b4 0 [.bool false], cells b5 0 [.int .i64 ((plN on : Nat) : Int)], cells b6 0 [.slice ra (nzM m).length rc], own 1 encZ ra rc (nzM m), cells b8 0 [.int .i64 ((k : Nat) : Int)], cells b 0 [.pointer p0, .pointer p1, .pointer p2, .pointer p3, .pointer p4, .pointer p5, .slice ca T.C.length cc, .slice wa T.W.length wc], bigS (plF ckB) T.Q]) (fun i k => k = (nz (lM m) i).length ∧ True) (fun k c => False) (fun i x k hxi hxz hI => callF_yield rfl (by decide) (by decide) (fun Γ w0 => ?_)) (fun i k hxi hI => ⟨by rw [nz_skip hxi]; exact hI.1, hI.2⟩) 0 (⟨rfl, trivial⟩)) Ts ?_
  ·
   try simp only [zipE, List.cons_append, List.nil_append]
   obtain ⟨rfl, hI2⟩ := hI
   have hki : (nzM m)[(nz (lM m) i).length]? = some ((i : Nat) : Int) := nz_at hxi hxz
   have hkl := (List.getElem?_eq_some_iff.1 hki).1
   have hil := (List.getElem?_eq_some_iff.1 hxi).1
   have hgx := gM_at hxi
   have hnx := nz_more hxi hxz
   have hnl : (nz (lM m) (i + 1)).length = (nz (lM m) i).length + 1 := by rw [hnx, List.length_append]; rfl
   obtain ⟨k, hk⟩ : ∃ k, k = (nz (lM m) i).length := ⟨_, rfl⟩
   rw [← hk] at hki hkl hnl ⊢
   try rw [← hk] at hI2
   refine s_take (A := Bun [cells b2 0 [.pointer (some ⟨b, 0, none⟩)], cells b3 0 [.int .i64 kd, .int .i64 on, .slice so sn sc, .int .i64 th, .int .u64 ck, .slice ko kn kc, .int .u64 ((ep : Nat) : Int), .int .i64 lv], cells b4 0 [.bool false], cells b5 0 [.int .i64 ((plN on : Nat) : Int)], cells b6 0 [.slice ra (nzM m).length rc], own 1 encZ ra rc (nzM m), cells b8 0 [.int .i64 ((k : Nat) : Int)], cells b 0 [.pointer p0, .pointer p1, .pointer p2, .pointer p3, .pointer p4, .pointer p5, .slice ca T.C.length cc, .slice wa T.W.length wc], bigS (plF ckB) T.Q]) Tk ?_
   refine s_bun ?_
   try simp only [List.cons_append, List.nil_append]
   refine c_plain (.q 0 (.done)) (by kernel_rfl) ?_
   refine q_assign rfl rfl rfl rfl (r_done (k_then_n (k_begin Tk ?_)))
   refine c_block (c_seq (c_seq (c_plain (.q 0 (.q 1 (.q 2 (.q 3 (.q 4 (.q 5 (.q 6 (.q 7 (.q 8 (.q 9 (.q 10 (.q 11 (.done))))))))))))) (by kernel_rfl) ?_)))
   refine q_load_c (j := 0) rfl rfl rfl rfl Try.isAgg3 Tk Az (by rfl) ?_
   refine q_load_c (j := 0) rfl rfl rfl rfl Try.isAgg66 Tk Az (by rfl) ?_
   refine q_len rfl rfl rfl rfl Try.underlying66 ?_
   refine q_int rfl rfl rfl rfl rfl (b_geq _ _ _ _) ?_
   refine q_move rfl rfl rfl rfl ?_
   refine s_bool_p 94 rfl (fun hg => by exfalso; omega) (fun hg => ?_)
   refine q_move rfl rfl rfl rfl (q_load_c (j := 0) rfl rfl rfl rfl Try.isAgg66 Tk Az (by rfl) ?_)
   refine q_load_c (j := 0) rfl rfl rfl rfl Try.isAgg3 Tk Az (by rfl) ?_
   refine q_idxO (sz := 0) (k := k) (enc := encZ) (xs := (nzM m)) rfl rfl rfl rfl rfl Try.underlying66 Try.sizeOf3 hki (by first | rfl | omega) (by omega) Tk ?_
   intro ib98 io98 ha98 hl98 hc98
   refine q_load_O (v := (.int .i64 ((i : Nat) : Int))) (j := 0) (k' := k) (enc := encZ) (off := io98) rfl rfl rfl rfl Try.isAgg3 ha98 encZ_len hki Tk (by first | rfl | exact (Nat.add_zero _).symm | omega) (by rfl) ?_
   refine q_int rfl rfl rfl rfl rfl (b_neq _ _ _ _) ?_
   refine s_eq 100 rfl (v' := .bool false) (by simp) ?_
   refine q_pick_f rfl rfl rfl rfl rfl (r_done (s_keep [4, 8, 101] (e' := [(4, _), (8, _), (101, _)]) rfl ?_))
   refine k_then_n (c_cond_f rfl ?_)
   refine c_skip (k_then_n (c_plain (.q 0 (.q 1 ((.l 2 [] (.done))))) (by kernel_rfl) ?_))
   refine q_load_c (j := 0) rfl rfl rfl rfl Try.isAgg3 Tk Az (by rfl) ?_
   refine q_int rfl rfl rfl rfl rfl (b_add' _ (by exact fits_i64 (by omega) (by omega))) ?_
   refine l_store (j := 0) rfl rfl rfl rfl Try.sizeOf3 (us := [_]) rfl rfl rfl Tk Az (by first | decide | (simp; done) | omega) ?_
   simp only [setL, List.set]
   refine ag_nil (r_done (s_keep [] (e' := []) rfl ?_))
   refine k_blk_n (s_heap (fun _ h => Bun.fold ((by (repeat ((with_reducible apply Z2); focus (first | (with_reducible (repeat (first | exact Z0 | apply Z1)); done) | (repeat (first | exact Z0 | apply Z1))))); exact Z3 : Takes _ [cells b2 0 [.pointer (some ⟨b, 0, none⟩)], cells b3 0 [.int .i64 kd, .int .i64 on, .slice so sn sc, .int .i64 th, .int .u64 ck, .slice ko kn kc, .int .u64 ((ep : Nat) : Int), .int .i64 lv], cells b4 0 [.bool false], cells b5 0 [.int .i64 ((plN on : Nat) : Int)], cells b6 0 [.slice ra (nzM m).length rc], own 1 encZ ra rc (nzM m), cells b8 0 [.int .i64 (((k + 1) : Nat) : Int)], cells b 0 [.pointer p0, .pointer p1, .pointer p2, .pointer p3, .pointer p4, .pointer p5, .slice ca T.C.length cc, .slice wa T.W.length wc], bigS (plF ckB) T.Q] _) _ h)) ?_)
   refine rr_n ((k + 1, none)) (by rfl) (by exact ⟨fun _ => ⟨by rw [hnl], trivial⟩, fun c hc => (by cases hc)⟩) Tk ?_
   (try simp only [List.cons_append, List.nil_append]); exact Tf
  rintro ⟨k2, p2⟩ (⟨g1, g2, -⟩ | ⟨c, g1, g2⟩) blk_21
  try simp only [List.cons_append, List.nil_append]
  ·
   simp only at g1 g2
   subst g1
   have hkn2 : k2 = (nzM m).length := g2
   show Le _ _
   try simp only [List.cons_append, List.nil_append]
   refine s_take (A := Bun [cells b2 0 [.pointer (some ⟨b, 0, none⟩)], cells b3 0 [.int .i64 kd, .int .i64 on, .slice so sn sc, .int .i64 th, .int .u64 ck, .slice ko kn kc, .int .u64 ((ep : Nat) : Int), .int .i64 lv], cells b4 0 [.bool false], cells b5 0 [.int .i64 ((plN on : Nat) : Int)], cells b6 0 [.slice ra (nzM m).length rc], own 1 encZ ra rc (nzM m), cells b8 0 [.int .i64 ((k2 : Nat) : Int)], cells b 0 [.pointer p0, .pointer p1, .pointer p2, .pointer p3, .pointer p4, .pointer p5, .slice ca T.C.length cc, .slice wa T.W.length wc], bigS (plF ckB) T.Q]) Tk ?_
   refine s_bun ?_
   try simp only [List.cons_append, List.nil_append]
   refine k_blk_n (k_then_n (c_seq (c_plain (.q 0 (.q 1 (.q 2 (.q 3 ((.l 4 [] (.done))))))) (by kernel_rfl) ?_)))
   refine q_load_c (j := 0) rfl rfl rfl rfl Try.isAgg3 Tk Az (by rfl) ?_
   refine q_load_c (j := 0) rfl rfl rfl rfl Try.isAgg66 Tk Az (by rfl) ?_
   refine q_len rfl rfl rfl rfl Try.underlying66 ?_
   refine q_int rfl rfl rfl rfl rfl (b_eql _ _ _ _) ?_
   refine s_eq 107 rfl (v' := .bool true) (by rw [decide_eq_true (by omega)]) ?_
   refine l_store (j := 0) rfl rfl rfl rfl Try.sizeOf4 (us := [_]) rfl rfl rfl Tk Az (by first | decide | (simp; done) | omega) ?_
   simp only [setL, List.set]
   refine ag_nil (r_done (s_keep [4] (e' := [(4, _)]) rfl ?_))
   refine k_then_n (c_ret (rm_ret ?_))
   refine rm_mark (blk := blk_21) Tk ?_
   refine rm_mark (blk := blk_17) Tk ?_
   refine rm_done (us := [_]) rfl ⟨rv_cell1 rfl Try.isAgg4 Tk (j := 0) rfl rfl, trivial⟩ (()) (by first | rfl | (first | rfl | (congr 1; done) | (congr 1 <;> first | rfl | omega | (simp; done) | (simp; omega)))) (by trivial) ?_
   exact Tf
  exact g2.elim
 simp only at h1 h2 h3 h4 h5
 subst h2
 subst h1
 show Le _ _
 try simp only [List.cons_append, List.nil_append]
 refine s_take (A := Bun [cells b2 0 [.pointer (some ⟨b, 0, none⟩)], cells b3 0 [.int .i64 kd, .int .i64 on, .slice so sn sc, .int .i64 th, .int .u64 ck, .slice ko kn kc, .int .u64 ((ep : Nat) : Int), .int .i64 lv], cells b4 0 [.bool false], cells b5 0 [.int .i64 ((plN on : Nat) : Int)], cells b6 0 [.slice ra (nzM m).length rc], own 1 encZ ra rc (nzM m), cells b8 0 [.int .i64 ((k : Nat) : Int)], cells b 0 [.pointer p0, .pointer p1, .pointer p2, .pointer p3, .pointer p4, .pointer p5, .slice ca T.C.length cc, .slice wa T.W.length wc], bigS (plF ckB) T.Q]) Tk ?_
 refine s_bun ?_
 try simp only [List.cons_append, List.nil_append]
 refine c_exit (k_blk_here (k_then_n (c_seq (c_seq (c_plain (.q 0 (.q 1 (.q 2 (.q 3 (.q 4 (.q 5 (.q 6 (.q 7 (.q 8 (.q 9 (.q 10 (.q 11 (.q 12 (.q 13 (.q 14 (.q 15 (.q 16 (.q 17 (.q 18 (.q 19 (.q 20 (.q 21 (.q 22 (.done)))))))))))))))))))))))) (by kernel_rfl) ?_)))))
 refine q_field (k := 7) rfl rfl rfl rfl Try.underlying68 rfl Try.sizeOf3 rfl ?_
 refine q_load_c (j := 7) rfl rfl rfl rfl Try.isAgg3 Tk Az (by rfl) ?_
 refine q_int rfl rfl rfl rfl rfl (b_leq _ _ _ _) ?_
 refine q_move rfl rfl rfl rfl ?_
 refine s_bool_p 67 rfl (fun hl1 => ?_) (fun hl1 => ?_)
 ·
  refine q_load_c (j := 0) rfl rfl rfl rfl Try.isAgg3 Tk Az (by rfl) ?_
  refine q_load_c (j := 0) rfl rfl rfl rfl Try.isAgg66 Tk Az (by rfl) ?_
  refine q_len rfl rfl rfl rfl Try.underlying66 ?_
  refine q_int rfl rfl rfl rfl rfl (b_neq _ _ _ _) ?_
  refine q_pick_t rfl rfl rfl rfl rfl (q_move rfl rfl rfl rfl ?_)
  refine s_bool_p 73 rfl (fun hg => by exfalso; omega) (fun hg => ?_)
  refine q_field (k := 7) rfl rfl rfl rfl Try.underlying68 rfl Try.sizeOf3 rfl ?_
  refine q_load_c (j := 7) rfl rfl rfl rfl Try.isAgg3 Tk Az (by rfl) ?_
  refine q_int rfl rfl rfl rfl rfl (b_gtr _ _ _ _) ?_
  refine q_move rfl rfl rfl rfl ?_
  refine s_bool_p 77 rfl (fun hl2 => ?_) (fun hl2 => ?_)
  ·
   refine q_load_c (j := 0) rfl rfl rfl rfl Try.isAgg3 Tk Az (by rfl) ?_
   refine q_field (k := 7) rfl rfl rfl rfl Try.underlying68 rfl Try.sizeOf3 rfl ?_
   refine q_load_c (j := 7) rfl rfl rfl rfl Try.isAgg3 Tk Az (by rfl) ?_
   refine q_load_c (j := 0) rfl rfl rfl rfl Try.isAgg66 Tk Az (by rfl) ?_
   refine q_len rfl rfl rfl rfl Try.underlying66 ?_
   refine q_min rfl rfl rfl rfl rfl ?_
   refine q_int rfl rfl rfl rfl rfl (b_neq _ _ _ _) ?_
   refine s_eq 84 rfl (v' := .bool false) (by exact congrArg Value.bool (decide_eq_false (fun h => h (by omega)))) ?_
   refine q_pick_t rfl rfl rfl rfl rfl (q_pick_f rfl rfl rfl rfl rfl (r_done (s_keep [4, 6, 7, 8, 86] (e' := [(4, _), (6, _), (7, _), (8, _), (86, _)]) rfl ?_)))
   refine k_then_n (c_cond_f rfl ?_)
   refine c_skip (k_then_n (c_seq (c_plain ((.l 0 [] (.done))) (by kernel_rfl) ?_)))
   refine l_store (j := 0) rfl rfl rfl rfl Try.sizeOf3 (us := [_]) rfl rfl rfl Tk Az (by first | decide | (simp; done) | omega) ?_
   simp only [setL, List.set]
   refine ag_nil (r_done (k_then_n (c_seq (c_seq (c_plain (.q 0 (.done)) (by kernel_rfl) ?_)))))
   refine q_move rfl rfl rfl rfl (r_done (k_then_n (c_block (s_heap (fun _ h => Bun.fold ((by (repeat ((with_reducible apply Z2); focus (first | (with_reducible (repeat (first | exact Z0 | apply Z1)); done) | (repeat (first | exact Z0 | apply Z1))))); exact Z3 : Takes _ [cells b2 0 [.pointer (some ⟨b, 0, none⟩)], cells b3 0 [.int .i64 kd, .int .i64 on, .slice so sn sc, .int .i64 th, .int .u64 ck, .slice ko kn kc, .int .u64 ((ep : Nat) : Int), .int .i64 lv], cells b4 0 [.bool false], cells b5 0 [.int .i64 ((plN on : Nat) : Int)], cells b6 0 [.slice ra (nzM m).length rc], own 1 encZ ra rc (nzM m), cells b8 0 [.int .i64 0], cells b 0 [.pointer p0, .pointer p1, .pointer p2, .pointer p3, .pointer p4, .pointer p5, .slice ca T.C.length cc, .slice wa T.W.length wc], bigS (plF ckB) T.Q] _) _ h)) ?_))))
   refine c_rangeF _ rfl Try.call65 (fun lp => over1_spec (σ := Nat) (lM m) qa (lM m).length qc qb (own 1 encU qa qc (lM m)) rfl (rds_own encU_len (fun h => (hp2 h).1) hp3) (by omega) (yv lp) (LoopJ lp _ _ _ _ _) (fun k => Bun [cells b2 0 [.pointer (some ⟨b, 0, none⟩)], cells b3 0 [.int .i64 kd, .int .i64 on, .slice so sn sc, .int .i64 th, .int .u64 ck, .slice ko kn kc, .int .u64 ((ep : Nat) : Int), .int .i64 lv], cells b4 0 [.bool false], cells b5 0 [.int .i64 ((plN on : Nat) : Int)], cells b6 0 [.slice ra (nzM m).length rc], own 1 encZ ra rc (nzM m), cells b8 0 [.int .i64 ((k : Nat) : Int)], cells b 0 [.pointer p0, .pointer p1, .pointer p2, .pointer p3, .pointer p4, .pointer p5, .slice ca T.C.length cc, .slice wa T.W.length wc], bigS (plF ckB) T.Q]) (fun i k => k = (nz (lM m) i).length ∧ True) (fun k c => False) (fun i x k hxi hxz hI => callF_yield rfl (by decide) (by decide) (fun Γ w0 => ?_)) (fun i k hxi hI => ⟨by rw [nz_skip hxi]; exact hI.1, hI.2⟩) 0 (⟨rfl, trivial⟩)) Ts ?_
   ·
    try simp only [zipE, List.cons_append, List.nil_append]
    obtain ⟨rfl, hI2⟩ := hI
    have hki : (nzM m)[(nz (lM m) i).length]? = some ((i : Nat) : Int) := nz_at hxi hxz
    have hkl := (List.getElem?_eq_some_iff.1 hki).1
    have hil := (List.getElem?_eq_some_iff.1 hxi).1
    have hgx := gM_at hxi
    have hnx := nz_more hxi hxz
    have hnl : (nz (lM m) (i + 1)).length = (nz (lM m) i).length + 1 := by rw [hnx, List.length_append]; rfl
    obtain ⟨k, hk⟩ : ∃ k, k = (nz (lM m) i).length := ⟨_, rfl⟩
    rw [← hk] at hki hkl hnl ⊢
    try rw [← hk] at hI2
    refine s_take (A := Bun [cells b2 0 [.pointer (some ⟨b, 0, none⟩)], cells b3 0 [.int .i64 kd, .int .i64 on, .slice so sn sc, .int .i64 th, .int .u64 ck, .slice ko kn kc, .int .u64 ((ep : Nat) : Int), .int .i64 lv], cells b4 0 [.bool false], cells b5 0 [.int .i64 ((plN on : Nat) : Int)], cells b6 0 [.slice ra (nzM m).length rc], own 1 encZ ra rc (nzM m), cells b8 0 [.int .i64 ((k : Nat) : Int)], cells b 0 [.pointer p0, .pointer p1, .pointer p2, .pointer p3, .pointer p4, .pointer p5, .slice ca T.C.length cc, .slice wa T.W.length wc], bigS (plF ckB) T.Q]) Tk ?_
    refine s_bun ?_
    try simp only [List.cons_append, List.nil_append]
    refine c_plain (.q 0 (.done)) (by kernel_rfl) ?_
    refine q_assign rfl rfl rfl rfl (r_done (k_then_n (k_begin Tk ?_)))
    refine c_block (c_seq (c_seq (c_plain (.q 0 (.q 1 (.q 2 (.q 3 (.q 4 (.q 5 (.q 6 (.q 7 (.q 8 (.q 9 (.q 10 (.q 11 (.done))))))))))))) (by kernel_rfl) ?_)))
    refine q_load_c (j := 0) rfl rfl rfl rfl Try.isAgg3 Tk Az (by rfl) ?_
    refine q_load_c (j := 0) rfl rfl rfl rfl Try.isAgg66 Tk Az (by rfl) ?_
    refine q_len rfl rfl rfl rfl Try.underlying66 ?_
    refine q_int rfl rfl rfl rfl rfl (b_geq _ _ _ _) ?_
    refine q_move rfl rfl rfl rfl ?_
    refine s_bool_p 94 rfl (fun hg => by exfalso; omega) (fun hg => ?_)
    refine q_move rfl rfl rfl rfl (q_load_c (j := 0) rfl rfl rfl rfl Try.isAgg66 Tk Az (by rfl) ?_)
    refine q_load_c (j := 0) rfl rfl rfl rfl Try.isAgg3 Tk Az (by rfl) ?_
    refine q_idxO (sz := 0) (k := k) (enc := encZ) (xs := (nzM m)) rfl rfl rfl rfl rfl Try.underlying66 Try.sizeOf3 hki (by first | rfl | omega) (by omega) Tk ?_
    intro ib98 io98 ha98 hl98 hc98
    refine q_load_O (v := (.int .i64 ((i : Nat) : Int))) (j := 0) (k' := k) (enc := encZ) (off := io98) rfl rfl rfl rfl Try.isAgg3 ha98 encZ_len hki Tk (by first | rfl | exact (Nat.add_zero _).symm | omega) (by rfl) ?_
    refine q_int rfl rfl rfl rfl rfl (b_neq _ _ _ _) ?_
    refine s_eq 100 rfl (v' := .bool false) (by simp) ?_
    refine q_pick_f rfl rfl rfl rfl rfl (r_done (s_keep [4, 8, 101] (e' := [(4, _), (8, _), (101, _)]) rfl ?_))
    refine k_then_n (c_cond_f rfl ?_)
    refine c_skip (k_then_n (c_plain (.q 0 (.q 1 ((.l 2 [] (.done))))) (by kernel_rfl) ?_))
    refine q_load_c (j := 0) rfl rfl rfl rfl Try.isAgg3 Tk Az (by rfl) ?_
    refine q_int rfl rfl rfl rfl rfl (b_add' _ (by exact fits_i64 (by omega) (by omega))) ?_
    refine l_store (j := 0) rfl rfl rfl rfl Try.sizeOf3 (us := [_]) rfl rfl rfl Tk Az (by first | decide | (simp; done) | omega) ?_
    simp only [setL, List.set]
    refine ag_nil (r_done (s_keep [] (e' := []) rfl ?_))
    refine k_blk_n (s_heap (fun _ h => Bun.fold ((by (repeat ((with_reducible apply Z2); focus (first | (with_reducible (repeat (first | exact Z0 | apply Z1)); done) | (repeat (first | exact Z0 | apply Z1))))); exact Z3 : Takes _ [cells b2 0 [.pointer (some ⟨b, 0, none⟩)], cells b3 0 [.int .i64 kd, .int .i64 on, .slice so sn sc, .int .i64 th, .int .u64 ck, .slice ko kn kc, .int .u64 ((ep : Nat) : Int), .int .i64 lv], cells b4 0 [.bool false], cells b5 0 [.int .i64 ((plN on : Nat) : Int)], cells b6 0 [.slice ra (nzM m).length rc], own 1 encZ ra rc (nzM m), cells b8 0 [.int .i64 (((k + 1) : Nat) : Int)], cells b 0 [.pointer p0, .pointer p1, .pointer p2, .pointer p3, .pointer p4, .pointer p5, .slice ca T.C.length cc, .slice wa T.W.length wc], bigS (plF ckB) T.Q] _) _ h)) ?_)
    refine rr_n ((k + 1, none)) (by rfl) (by exact ⟨fun _ => ⟨by rw [hnl], trivial⟩, fun c hc => (by cases hc)⟩) Tk ?_
    (try simp only [List.cons_append, List.nil_append]); exact Tf
   rintro ⟨k2, p2⟩ (⟨g1, g2, -⟩ | ⟨c, g1, g2⟩) blk_22
   try simp only [List.cons_append, List.nil_append]
   ·
    simp only at g1 g2
    subst g1
    have hkn2 : k2 = (nzM m).length := g2
    show Le _ _
    try simp only [List.cons_append, List.nil_append]
    refine s_take (A := Bun [cells b2 0 [.pointer (some ⟨b, 0, none⟩)], cells b3 0 [.int .i64 kd, .int .i64 on, .slice so sn sc, .int .i64 th, .int .u64 ck, .slice ko kn kc, .int .u64 ((ep : Nat) : Int), .int .i64 lv], cells b4 0 [.bool false], cells b5 0 [.int .i64 ((plN on : Nat) : Int)], cells b6 0 [.slice ra (nzM m).length rc], own 1 encZ ra rc (nzM m), cells b8 0 [.int .i64 ((k2 : Nat) : Int)], cells b 0 [.pointer p0, .pointer p1, .pointer p2, .pointer p3, .pointer p4, .pointer p5, .slice ca T.C.length cc, .slice wa T.W.length wc], bigS (plF ckB) T.Q]) Tk ?_
    refine s_bun ?_
    try simp only [List.cons_append, List.nil_append]
    refine k_blk_n (k_then_n (c_seq (c_plain (.q 0 (.q 1 (.q 2 (.q 3 ((.l 4 [] (.done))))))) (by kernel_rfl) ?_)))
    refine q_load_c (j := 0) rfl rfl rfl rfl Try.isAgg3 Tk Az (by rfl) ?_
    refine q_load_c (j := 0) rfl rfl rfl rfl Try.isAgg66 Tk Az (by rfl) ?_
    refine q_len rfl rfl rfl rfl Try.underlying66 ?_
    refine q_int rfl rfl rfl rfl rfl (b_eql _ _ _ _) ?_
    refine s_eq 107 rfl (v' := .bool true) (by rw [decide_eq_true (by omega)]) ?_
    refine l_store (j := 0) rfl rfl rfl rfl Try.sizeOf4 (us := [_]) rfl rfl rfl Tk Az (by first | decide | (simp; done) | omega) ?_
    simp only [setL, List.set]
    refine ag_nil (r_done (s_keep [4] (e' := [(4, _)]) rfl ?_))
    refine k_then_n (c_ret (rm_ret ?_))
    refine rm_mark (blk := blk_22) Tk ?_
    refine rm_mark (blk := blk_17) Tk ?_
    refine rm_done (us := [_]) rfl ⟨rv_cell1 rfl Try.isAgg4 Tk (j := 0) rfl rfl, trivial⟩ (()) (by first | rfl | (first | rfl | (congr 1; done) | (congr 1 <;> first | rfl | omega | (simp; done) | (simp; omega)))) (by trivial) ?_
    exact Tf
   exact g2.elim
  refine q_skip rfl rfl rfl rfl (q_skip rfl rfl rfl rfl (q_skip rfl rfl rfl rfl (q_skip rfl rfl rfl rfl (q_skip rfl rfl rfl rfl (q_skip rfl rfl rfl rfl (q_skip rfl rfl rfl rfl (q_pick_f rfl rfl rfl rfl rfl (q_pick_f rfl rfl rfl rfl rfl ?_))))))))
  refine r_done (s_keep [4, 6, 7, 8, 86] (e' := [(4, _), (6, _), (7, _), (8, _), (86, _)]) rfl ?_)
  refine k_then_n (c_cond_f rfl ?_)
  refine c_skip (k_then_n (c_seq (c_plain ((.l 0 [] (.done))) (by kernel_rfl) ?_)))
  refine l_store (j := 0) rfl rfl rfl rfl Try.sizeOf3 (us := [_]) rfl rfl rfl Tk Az (by first | decide | (simp; done) | omega) ?_
  simp only [setL, List.set]
  refine ag_nil (r_done (k_then_n (c_seq (c_seq (c_plain (.q 0 (.done)) (by kernel_rfl) ?_)))))
  refine q_move rfl rfl rfl rfl (r_done (k_then_n (c_block (s_heap (fun _ h => Bun.fold ((by (repeat ((with_reducible apply Z2); focus (first | (with_reducible (repeat (first | exact Z0 | apply Z1)); done) | (repeat (first | exact Z0 | apply Z1))))); exact Z3 : Takes _ [cells b2 0 [.pointer (some ⟨b, 0, none⟩)], cells b3 0 [.int .i64 kd, .int .i64 on, .slice so sn sc, .int .i64 th, .int .u64 ck, .slice ko kn kc, .int .u64 ((ep : Nat) : Int), .int .i64 lv], cells b4 0 [.bool false], cells b5 0 [.int .i64 ((plN on : Nat) : Int)], cells b6 0 [.slice ra (nzM m).length rc], own 1 encZ ra rc (nzM m), cells b8 0 [.int .i64 0], cells b 0 [.pointer p0, .pointer p1, .pointer p2, .pointer p3, .pointer p4, .pointer p5, .slice ca T.C.length cc, .slice wa T.W.length wc], bigS (plF ckB) T.Q] _) _ h)) ?_))))
  refine c_rangeF _ rfl Try.call65 (fun lp => over1_spec (σ := Nat) (lM m) qa (lM m).length qc qb (own 1 encU qa qc (lM m)) rfl (rds_own encU_len (fun h => (hp2 h).1) hp3) (by omega) (yv lp) (LoopJ lp _ _ _ _ _) (fun k => Bun [cells b2 0 [.pointer (some ⟨b, 0, none⟩)], cells b3 0 [.int .i64 kd, .int .i64 on, .slice so sn sc, .int .i64 th, .int .u64 ck, .slice ko kn kc, .int .u64 ((ep : Nat) : Int), .int .i64 lv], cells b4 0 [.bool false], cells b5 0 [.int .i64 ((plN on : Nat) : Int)], cells b6 0 [.slice ra (nzM m).length rc], own 1 encZ ra rc (nzM m), cells b8 0 [.int .i64 ((k : Nat) : Int)], cells b 0 [.pointer p0, .pointer p1, .pointer p2, .pointer p3, .pointer p4, .pointer p5, .slice ca T.C.length cc, .slice wa T.W.length wc], bigS (plF ckB) T.Q]) (fun i k => k = (nz (lM m) i).length ∧ True) (fun k c => False) (fun i x k hxi hxz hI => callF_yield rfl (by decide) (by decide) (fun Γ w0 => ?_)) (fun i k hxi hI => ⟨by rw [nz_skip hxi]; exact hI.1, hI.2⟩) 0 (⟨rfl, trivial⟩)) Ts ?_
  ·
   try simp only [zipE, List.cons_append, List.nil_append]
   obtain ⟨rfl, hI2⟩ := hI
   have hki : (nzM m)[(nz (lM m) i).length]? = some ((i : Nat) : Int) := nz_at hxi hxz
   have hkl := (List.getElem?_eq_some_iff.1 hki).1
   have hil := (List.getElem?_eq_some_iff.1 hxi).1
   have hgx := gM_at hxi
   have hnx := nz_more hxi hxz
   have hnl : (nz (lM m) (i + 1)).length = (nz (lM m) i).length + 1 := by rw [hnx, List.length_append]; rfl
   obtain ⟨k, hk⟩ : ∃ k, k = (nz (lM m) i).length := ⟨_, rfl⟩
   rw [← hk] at hki hkl hnl ⊢
   try rw [← hk] at hI2
   refine s_take (A := Bun [cells b2 0 [.pointer (some ⟨b, 0, none⟩)], cells b3 0 [.int .i64 kd, .int .i64 on, .slice so sn sc, .int .i64 th, .int .u64 ck, .slice ko kn kc, .int .u64 ((ep : Nat) : Int), .int .i64 lv], cells b4 0 [.bool false], cells b5 0 [.int .i64 ((plN on : Nat) : Int)], cells b6 0 [.slice ra (nzM m).length rc], own 1 encZ ra rc (nzM m), cells b8 0 [.int .i64 ((k : Nat) : Int)], cells b 0 [.pointer p0, .pointer p1, .pointer p2, .pointer p3, .pointer p4, .pointer p5, .slice ca T.C.length cc, .slice wa T.W.length wc], bigS (plF ckB) T.Q]) Tk ?_
   refine s_bun ?_
   try simp only [List.cons_append, List.nil_append]
   refine c_plain (.q 0 (.done)) (by kernel_rfl) ?_
   refine q_assign rfl rfl rfl rfl (r_done (k_then_n (k_begin Tk ?_)))
   refine c_block (c_seq (c_seq (c_plain (.q 0 (.q 1 (.q 2 (.q 3 (.q 4 (.q 5 (.q 6 (.q 7 (.q 8 (.q 9 (.q 10 (.q 11 (.done))))))))))))) (by kernel_rfl) ?_)))
   refine q_load_c (j := 0) rfl rfl rfl rfl Try.isAgg3 Tk Az (by rfl) ?_
   refine q_load_c (j := 0) rfl rfl rfl rfl Try.isAgg66 Tk Az (by rfl) ?_
   refine q_len rfl rfl rfl rfl Try.underlying66 ?_
   refine q_int rfl rfl rfl rfl rfl (b_geq _ _ _ _) ?_
   refine q_move rfl rfl rfl rfl ?_
   refine s_bool_p 94 rfl (fun hg => by exfalso; omega) (fun hg => ?_)
   refine q_move rfl rfl rfl rfl (q_load_c (j := 0) rfl rfl rfl rfl Try.isAgg66 Tk Az (by rfl) ?_)
   refine q_load_c (j := 0) rfl rfl rfl rfl Try.isAgg3 Tk Az (by rfl) ?_
   refine q_idxO (sz := 0) (k := k) (enc := encZ) (xs := (nzM m)) rfl rfl rfl rfl rfl Try.underlying66 Try.sizeOf3 hki (by first | rfl | omega) (by omega) Tk ?_
   intro ib98 io98 ha98 hl98 hc98
   refine q_load_O (v := (.int .i64 ((i : Nat) : Int))) (j := 0) (k' := k) (enc := encZ) (off := io98) rfl rfl rfl rfl Try.isAgg3 ha98 encZ_len hki Tk (by first | rfl | exact (Nat.add_zero _).symm | omega) (by rfl) ?_
   refine q_int rfl rfl rfl rfl rfl (b_neq _ _ _ _) ?_
   refine s_eq 100 rfl (v' := .bool false) (by simp) ?_
   refine q_pick_f rfl rfl rfl rfl rfl (r_done (s_keep [4, 8, 101] (e' := [(4, _), (8, _), (101, _)]) rfl ?_))
   refine k_then_n (c_cond_f rfl ?_)
   refine c_skip (k_then_n (c_plain (.q 0 (.q 1 ((.l 2 [] (.done))))) (by kernel_rfl) ?_))
   refine q_load_c (j := 0) rfl rfl rfl rfl Try.isAgg3 Tk Az (by rfl) ?_
   refine q_int rfl rfl rfl rfl rfl (b_add' _ (by exact fits_i64 (by omega) (by omega))) ?_
   refine l_store (j := 0) rfl rfl rfl rfl Try.sizeOf3 (us := [_]) rfl rfl rfl Tk Az (by first | decide | (simp; done) | omega) ?_
   simp only [setL, List.set]
   refine ag_nil (r_done (s_keep [] (e' := []) rfl ?_))
   refine k_blk_n (s_heap (fun _ h => Bun.fold ((by (repeat ((with_reducible apply Z2); focus (first | (with_reducible (repeat (first | exact Z0 | apply Z1)); done) | (repeat (first | exact Z0 | apply Z1))))); exact Z3 : Takes _ [cells b2 0 [.pointer (some ⟨b, 0, none⟩)], cells b3 0 [.int .i64 kd, .int .i64 on, .slice so sn sc, .int .i64 th, .int .u64 ck, .slice ko kn kc, .int .u64 ((ep : Nat) : Int), .int .i64 lv], cells b4 0 [.bool false], cells b5 0 [.int .i64 ((plN on : Nat) : Int)], cells b6 0 [.slice ra (nzM m).length rc], own 1 encZ ra rc (nzM m), cells b8 0 [.int .i64 (((k + 1) : Nat) : Int)], cells b 0 [.pointer p0, .pointer p1, .pointer p2, .pointer p3, .pointer p4, .pointer p5, .slice ca T.C.length cc, .slice wa T.W.length wc], bigS (plF ckB) T.Q] _) _ h)) ?_)
   refine rr_n ((k + 1, none)) (by rfl) (by exact ⟨fun _ => ⟨by rw [hnl], trivial⟩, fun c hc => (by cases hc)⟩) Tk ?_
   (try simp only [List.cons_append, List.nil_append]); exact Tf
  rintro ⟨k2, p2⟩ (⟨g1, g2, -⟩ | ⟨c, g1, g2⟩) blk_23
  try simp only [List.cons_append, List.nil_append]
  ·
   simp only at g1 g2
   subst g1
   have hkn2 : k2 = (nzM m).length := g2
   show Le _ _
   try simp only [List.cons_append, List.nil_append]
   refine s_take (A := Bun [cells b2 0 [.pointer (some ⟨b, 0, none⟩)], cells b3 0 [.int .i64 kd, .int .i64 on, .slice so sn sc, .int .i64 th, .int .u64 ck, .slice ko kn kc, .int .u64 ((ep : Nat) : Int), .int .i64 lv], cells b4 0 [.bool false], cells b5 0 [.int .i64 ((plN on : Nat) : Int)], cells b6 0 [.slice ra (nzM m).length rc], own 1 encZ ra rc (nzM m), cells b8 0 [.int .i64 ((k2 : Nat) : Int)], cells b 0 [.pointer p0, .pointer p1, .pointer p2, .pointer p3, .pointer p4, .pointer p5, .slice ca T.C.length cc, .slice wa T.W.length wc], bigS (plF ckB) T.Q]) Tk ?_
   refine s_bun ?_
   try simp only [List.cons_append, List.nil_append]
   refine k_blk_n (k_then_n (c_seq (c_plain (.q 0 (.q 1 (.q 2 (.q 3 ((.l 4 [] (.done))))))) (by kernel_rfl) ?_)))
   refine q_load_c (j := 0) rfl rfl rfl rfl Try.isAgg3 Tk Az (by rfl) ?_
   refine q_load_c (j := 0) rfl rfl rfl rfl Try.isAgg66 Tk Az (by rfl) ?_
   refine q_len rfl rfl rfl rfl Try.underlying66 ?_
   refine q_int rfl rfl rfl rfl rfl (b_eql _ _ _ _) ?_
   refine s_eq 107 rfl (v' := .bool true) (by rw [decide_eq_true (by omega)]) ?_
   refine l_store (j := 0) rfl rfl rfl rfl Try.sizeOf4 (us := [_]) rfl rfl rfl Tk Az (by first | decide | (simp; done) | omega) ?_
   simp only [setL, List.set]
   refine ag_nil (r_done (s_keep [4] (e' := [(4, _)]) rfl ?_))
   refine k_then_n (c_ret (rm_ret ?_))
   refine rm_mark (blk := blk_23) Tk ?_
   refine rm_mark (blk := blk_17) Tk ?_
   refine rm_done (us := [_]) rfl ⟨rv_cell1 rfl Try.isAgg4 Tk (j := 0) rfl rfl, trivial⟩ (()) (by first | rfl | (first | rfl | (congr 1; done) | (congr 1 <;> first | rfl | omega | (simp; done) | (simp; omega)))) (by trivial) ?_
   exact Tf
  exact g2.elim
 refine q_skip rfl rfl rfl rfl (q_skip rfl rfl rfl rfl (q_skip rfl rfl rfl rfl (q_skip rfl rfl rfl rfl (q_pick_f rfl rfl rfl rfl rfl (q_move rfl rfl rfl rfl (q_field (k := 7) rfl rfl rfl rfl Try.underlying68 rfl Try.sizeOf3 rfl ?_))))))
 refine q_load_c (j := 7) rfl rfl rfl rfl Try.isAgg3 Tk Az (by rfl) ?_
 refine q_int rfl rfl rfl rfl rfl (b_gtr _ _ _ _) ?_
 refine q_move rfl rfl rfl rfl ?_
 refine s_bool_p 77 rfl (fun hl2 => ?_) (fun hl2 => ?_)
 ·
  refine q_load_c (j := 0) rfl rfl rfl rfl Try.isAgg3 Tk Az (by rfl) ?_
  refine q_field (k := 7) rfl rfl rfl rfl Try.underlying68 rfl Try.sizeOf3 rfl ?_
  refine q_load_c (j := 7) rfl rfl rfl rfl Try.isAgg3 Tk Az (by rfl) ?_
  refine q_load_c (j := 0) rfl rfl rfl rfl Try.isAgg66 Tk Az (by rfl) ?_
  refine q_len rfl rfl rfl rfl Try.underlying66 ?_
  refine q_min rfl rfl rfl rfl rfl ?_
  refine q_int rfl rfl rfl rfl rfl (b_neq _ _ _ _) ?_
  refine s_eq 84 rfl (v' := .bool false) (by exact congrArg Value.bool (decide_eq_false (fun h => h (by omega)))) ?_
  refine q_pick_t rfl rfl rfl rfl rfl (q_pick_f rfl rfl rfl rfl rfl (r_done (s_keep [4, 6, 7, 8, 86] (e' := [(4, _), (6, _), (7, _), (8, _), (86, _)]) rfl ?_)))
  refine k_then_n (c_cond_f rfl ?_)
  refine c_skip (k_then_n (c_seq (c_plain ((.l 0 [] (.done))) (by kernel_rfl) ?_)))
  refine l_store (j := 0) rfl rfl rfl rfl Try.sizeOf3 (us := [_]) rfl rfl rfl Tk Az (by first | decide | (simp; done) | omega) ?_
  simp only [setL, List.set]
  refine ag_nil (r_done (k_then_n (c_seq (c_seq (c_plain (.q 0 (.done)) (by kernel_rfl) ?_)))))
  refine q_move rfl rfl rfl rfl (r_done (k_then_n (c_block (s_heap (fun _ h => Bun.fold ((by (repeat ((with_reducible apply Z2); focus (first | (with_reducible (repeat (first | exact Z0 | apply Z1)); done) | (repeat (first | exact Z0 | apply Z1))))); exact Z3 : Takes _ [cells b2 0 [.pointer (some ⟨b, 0, none⟩)], cells b3 0 [.int .i64 kd, .int .i64 on, .slice so sn sc, .int .i64 th, .int .u64 ck, .slice ko kn kc, .int .u64 ((ep : Nat) : Int), .int .i64 lv], cells b4 0 [.bool false], cells b5 0 [.int .i64 ((plN on : Nat) : Int)], cells b6 0 [.slice ra (nzM m).length rc], own 1 encZ ra rc (nzM m), cells b8 0 [.int .i64 0], cells b 0 [.pointer p0, .pointer p1, .pointer p2, .pointer p3, .pointer p4, .pointer p5, .slice ca T.C.length cc, .slice wa T.W.length wc], bigS (plF ckB) T.Q] _) _ h)) ?_))))
  refine c_rangeF _ rfl Try.call65 (fun lp => over1_spec (σ := Nat) (lM m) qa (lM m).length qc qb (own 1 encU qa qc (lM m)) rfl (rds_own encU_len (fun h => (hp2 h).1) hp3) (by omega) (yv lp) (LoopJ lp _ _ _ _ _) (fun k => Bun [cells b2 0 [.pointer (some ⟨b, 0, none⟩)], cells b3 0 [.int .i64 kd, .int .i64 on, .slice so sn sc, .int .i64 th, .int .u64 ck, .slice ko kn kc, .int .u64 ((ep : Nat) : Int), .int .i64 lv], cells b4 0 [.bool false], cells b5 0 [.int .i64 ((plN on : Nat) : Int)], cells b6 0 [.slice ra (nzM m).length rc], own 1 encZ ra rc (nzM m), cells b8 0 [.int .i64 ((k : Nat) : Int)], cells b 0 [.pointer p0, .pointer p1, .pointer p2, .pointer p3, .pointer p4, .pointer p5, .slice ca T.C.length cc, .slice wa T.W.length wc], bigS (plF ckB) T.Q]) (fun i k => k = (nz (lM m) i).length ∧ True) (fun k c => False) (fun i x k hxi hxz hI => callF_yield rfl (by decide) (by decide) (fun Γ w0 => ?_)) (fun i k hxi hI => ⟨by rw [nz_skip hxi]; exact hI.1, hI.2⟩) 0 (⟨rfl, trivial⟩)) Ts ?_
  ·
   try simp only [zipE, List.cons_append, List.nil_append]
   obtain ⟨rfl, hI2⟩ := hI
   have hki : (nzM m)[(nz (lM m) i).length]? = some ((i : Nat) : Int) := nz_at hxi hxz
   have hkl := (List.getElem?_eq_some_iff.1 hki).1
   have hil := (List.getElem?_eq_some_iff.1 hxi).1
   have hgx := gM_at hxi
   have hnx := nz_more hxi hxz
   have hnl : (nz (lM m) (i + 1)).length = (nz (lM m) i).length + 1 := by rw [hnx, List.length_append]; rfl
   obtain ⟨k, hk⟩ : ∃ k, k = (nz (lM m) i).length := ⟨_, rfl⟩
   rw [← hk] at hki hkl hnl ⊢
   try rw [← hk] at hI2
   refine s_take (A := Bun [cells b2 0 [.pointer (some ⟨b, 0, none⟩)], cells b3 0 [.int .i64 kd, .int .i64 on, .slice so sn sc, .int .i64 th, .int .u64 ck, .slice ko kn kc, .int .u64 ((ep : Nat) : Int), .int .i64 lv], cells b4 0 [.bool false], cells b5 0 [.int .i64 ((plN on : Nat) : Int)], cells b6 0 [.slice ra (nzM m).length rc], own 1 encZ ra rc (nzM m), cells b8 0 [.int .i64 ((k : Nat) : Int)], cells b 0 [.pointer p0, .pointer p1, .pointer p2, .pointer p3, .pointer p4, .pointer p5, .slice ca T.C.length cc, .slice wa T.W.length wc], bigS (plF ckB) T.Q]) Tk ?_
   refine s_bun ?_
   try simp only [List.cons_append, List.nil_append]
   refine c_plain (.q 0 (.done)) (by kernel_rfl) ?_
   refine q_assign rfl rfl rfl rfl (r_done (k_then_n (k_begin Tk ?_)))
   refine c_block (c_seq (c_seq (c_plain (.q 0 (.q 1 (.q 2 (.q 3 (.q 4 (.q 5 (.q 6 (.q 7 (.q 8 (.q 9 (.q 10 (.q 11 (.done))))))))))))) (by kernel_rfl) ?_)))
   refine q_load_c (j := 0) rfl rfl rfl rfl Try.isAgg3 Tk Az (by rfl) ?_
   refine q_load_c (j := 0) rfl rfl rfl rfl Try.isAgg66 Tk Az (by rfl) ?_
   refine q_len rfl rfl rfl rfl Try.underlying66 ?_
   refine q_int rfl rfl rfl rfl rfl (b_geq _ _ _ _) ?_
   refine q_move rfl rfl rfl rfl ?_
   refine s_bool_p 94 rfl (fun hg => by exfalso; omega) (fun hg => ?_)
   refine q_move rfl rfl rfl rfl (q_load_c (j := 0) rfl rfl rfl rfl Try.isAgg66 Tk Az (by rfl) ?_)
   refine q_load_c (j := 0) rfl rfl rfl rfl Try.isAgg3 Tk Az (by rfl) ?_
   refine q_idxO (sz := 0) (k := k) (enc := encZ) (xs := (nzM m)) rfl rfl rfl rfl rfl Try.underlying66 Try.sizeOf3 hki (by first | rfl | omega) (by omega) Tk ?_
   intro ib98 io98 ha98 hl98 hc98
   refine q_load_O (v := (.int .i64 ((i : Nat) : Int))) (j := 0) (k' := k) (enc := encZ) (off := io98) rfl rfl rfl rfl Try.isAgg3 ha98 encZ_len hki Tk (by first | rfl | exact (Nat.add_zero _).symm | omega) (by rfl) ?_
   refine q_int rfl rfl rfl rfl rfl (b_neq _ _ _ _) ?_
   refine s_eq 100 rfl (v' := .bool false) (by simp) ?_
   refine q_pick_f rfl rfl rfl rfl rfl (r_done (s_keep [4, 8, 101] (e' := [(4, _), (8, _), (101, _)]) rfl ?_))
   refine k_then_n (c_cond_f rfl ?_)
   refine c_skip (k_then_n (c_plain (.q 0 (.q 1 ((.l 2 [] (.done))))) (by kernel_rfl) ?_))
   refine q_load_c (j := 0) rfl rfl rfl rfl Try.isAgg3 Tk Az (by rfl) ?_
   refine q_int rfl rfl rfl rfl rfl (b_add' _ (by exact fits_i64 (by omega) (by omega))) ?_
   refine l_store (j := 0) rfl rfl rfl rfl Try.sizeOf3 (us := [_]) rfl rfl rfl Tk Az (by first | decide | (simp; done) | omega) ?_
   simp only [setL, List.set]
   refine ag_nil (r_done (s_keep [] (e' := []) rfl ?_))
   refine k_blk_n (s_heap (fun _ h => Bun.fold ((by (repeat ((with_reducible apply Z2); focus (first | (with_reducible (repeat (first | exact Z0 | apply Z1)); done) | (repeat (first | exact Z0 | apply Z1))))); exact Z3 : Takes _ [cells b2 0 [.pointer (some ⟨b, 0, none⟩)], cells b3 0 [.int .i64 kd, .int .i64 on, .slice so sn sc, .int .i64 th, .int .u64 ck, .slice ko kn kc, .int .u64 ((ep : Nat) : Int), .int .i64 lv], cells b4 0 [.bool false], cells b5 0 [.int .i64 ((plN on : Nat) : Int)], cells b6 0 [.slice ra (nzM m).length rc], own 1 encZ ra rc (nzM m), cells b8 0 [.int .i64 (((k + 1) : Nat) : Int)], cells b 0 [.pointer p0, .pointer p1, .pointer p2, .pointer p3, .pointer p4, .pointer p5, .slice ca T.C.length cc, .slice wa T.W.length wc], bigS (plF ckB) T.Q] _) _ h)) ?_)
   refine rr_n ((k + 1, none)) (by rfl) (by exact ⟨fun _ => ⟨by rw [hnl], trivial⟩, fun c hc => (by cases hc)⟩) Tk ?_
   (try simp only [List.cons_append, List.nil_append]); exact Tf
  rintro ⟨k2, p2⟩ (⟨g1, g2, -⟩ | ⟨c, g1, g2⟩) blk_24
  try simp only [List.cons_append, List.nil_append]
  ·
   simp only at g1 g2
   subst g1
   have hkn2 : k2 = (nzM m).length := g2
   show Le _ _
   try simp only [List.cons_append, List.nil_append]
   refine s_take (A := Bun [cells b2 0 [.pointer (some ⟨b, 0, none⟩)], cells b3 0 [.int .i64 kd, .int .i64 on, .slice so sn sc, .int .i64 th, .int .u64 ck, .slice ko kn kc, .int .u64 ((ep : Nat) : Int), .int .i64 lv], cells b4 0 [.bool false], cells b5 0 [.int .i64 ((plN on : Nat) : Int)], cells b6 0 [.slice ra (nzM m).length rc], own 1 encZ ra rc (nzM m), cells b8 0 [.int .i64 ((k2 : Nat) : Int)], cells b 0 [.pointer p0, .pointer p1, .pointer p2, .pointer p3, .pointer p4, .pointer p5, .slice ca T.C.length cc, .slice wa T.W.length wc], bigS (plF ckB) T.Q]) Tk ?_
   refine s_bun ?_
   try simp only [List.cons_append, List.nil_append]
   refine k_blk_n (k_then_n (c_seq (c_plain (.q 0 (.q 1 (.q 2 (.q 3 ((.l 4 [] (.done))))))) (by kernel_rfl) ?_)))
   refine q_load_c (j := 0) rfl rfl rfl rfl Try.isAgg3 Tk Az (by rfl) ?_
   refine q_load_c (j := 0) rfl rfl rfl rfl Try.isAgg66 Tk Az (by rfl) ?_
   refine q_len rfl rfl rfl rfl Try.underlying66 ?_
   refine q_int rfl rfl rfl rfl rfl (b_eql _ _ _ _) ?_
   refine s_eq 107 rfl (v' := .bool true) (by rw [decide_eq_true (by omega)]) ?_
   refine l_store (j := 0) rfl rfl rfl rfl Try.sizeOf4 (us := [_]) rfl rfl rfl Tk Az (by first | decide | (simp; done) | omega) ?_
   simp only [setL, List.set]
   refine ag_nil (r_done (s_keep [4] (e' := [(4, _)]) rfl ?_))
   refine k_then_n (c_ret (rm_ret ?_))
   refine rm_mark (blk := blk_24) Tk ?_
   refine rm_mark (blk := blk_17) Tk ?_
   refine rm_done (us := [_]) rfl ⟨rv_cell1 rfl Try.isAgg4 Tk (j := 0) rfl rfl, trivial⟩ (()) (by first | rfl | (first | rfl | (congr 1; done) | (congr 1 <;> first | rfl | omega | (simp; done) | (simp; omega)))) (by trivial) ?_
   exact Tf
  exact g2.elim
 refine q_skip rfl rfl rfl rfl (q_skip rfl rfl rfl rfl (q_skip rfl rfl rfl rfl (q_skip rfl rfl rfl rfl (q_skip rfl rfl rfl rfl (q_skip rfl rfl rfl rfl (q_skip rfl rfl rfl rfl (q_pick_f rfl rfl rfl rfl rfl (q_pick_f rfl rfl rfl rfl rfl ?_))))))))
 refine r_done (s_keep [4, 6, 7, 8, 86] (e' := [(4, _), (6, _), (7, _), (8, _), (86, _)]) rfl ?_)
 refine k_then_n (c_cond_f rfl ?_)
 refine c_skip (k_then_n (c_seq (c_plain ((.l 0 [] (.done))) (by kernel_rfl) ?_)))
 refine l_store (j := 0) rfl rfl rfl rfl Try.sizeOf3 (us := [_]) rfl rfl rfl Tk Az (by first | decide | (simp; done) | omega) ?_
 simp only [setL, List.set]
 refine ag_nil (r_done (k_then_n (c_seq (c_seq (c_plain (.q 0 (.done)) (by kernel_rfl) ?_)))))
 refine q_move rfl rfl rfl rfl (r_done (k_then_n (c_block (s_heap (fun _ h => Bun.fold ((by (repeat ((with_reducible apply Z2); focus (first | (with_reducible (repeat (first | exact Z0 | apply Z1)); done) | (repeat (first | exact Z0 | apply Z1))))); exact Z3 : Takes _ [cells b2 0 [.pointer (some ⟨b, 0, none⟩)], cells b3 0 [.int .i64 kd, .int .i64 on, .slice so sn sc, .int .i64 th, .int .u64 ck, .slice ko kn kc, .int .u64 ((ep : Nat) : Int), .int .i64 lv], cells b4 0 [.bool false], cells b5 0 [.int .i64 ((plN on : Nat) : Int)], cells b6 0 [.slice ra (nzM m).length rc], own 1 encZ ra rc (nzM m), cells b8 0 [.int .i64 0], cells b 0 [.pointer p0, .pointer p1, .pointer p2, .pointer p3, .pointer p4, .pointer p5, .slice ca T.C.length cc, .slice wa T.W.length wc], bigS (plF ckB) T.Q] _) _ h)) ?_))))
 refine c_rangeF _ rfl Try.call65 (fun lp => over1_spec (σ := Nat) (lM m) qa (lM m).length qc qb (own 1 encU qa qc (lM m)) rfl (rds_own encU_len (fun h => (hp2 h).1) hp3) (by omega) (yv lp) (LoopJ lp _ _ _ _ _) (fun k => Bun [cells b2 0 [.pointer (some ⟨b, 0, none⟩)], cells b3 0 [.int .i64 kd, .int .i64 on, .slice so sn sc, .int .i64 th, .int .u64 ck, .slice ko kn kc, .int .u64 ((ep : Nat) : Int), .int .i64 lv], cells b4 0 [.bool false], cells b5 0 [.int .i64 ((plN on : Nat) : Int)], cells b6 0 [.slice ra (nzM m).length rc], own 1 encZ ra rc (nzM m), cells b8 0 [.int .i64 ((k : Nat) : Int)], cells b 0 [.pointer p0, .pointer p1, .pointer p2, .pointer p3, .pointer p4, .pointer p5, .slice ca T.C.length cc, .slice wa T.W.length wc], bigS (plF ckB) T.Q]) (fun i k => k = (nz (lM m) i).length ∧ True) (fun k c => False) (fun i x k hxi hxz hI => callF_yield rfl (by decide) (by decide) (fun Γ w0 => ?_)) (fun i k hxi hI => ⟨by rw [nz_skip hxi]; exact hI.1, hI.2⟩) 0 (⟨rfl, trivial⟩)) Ts ?_
 ·
  try simp only [zipE, List.cons_append, List.nil_append]
  obtain ⟨rfl, hI2⟩ := hI
  have hki : (nzM m)[(nz (lM m) i).length]? = some ((i : Nat) : Int) := nz_at hxi hxz
  have hkl := (List.getElem?_eq_some_iff.1 hki).1
  have hil := (List.getElem?_eq_some_iff.1 hxi).1
  have hgx := gM_at hxi
  have hnx := nz_more hxi hxz
  have hnl : (nz (lM m) (i + 1)).length = (nz (lM m) i).length + 1 := by rw [hnx, List.length_append]; rfl
  obtain ⟨k, hk⟩ : ∃ k, k = (nz (lM m) i).length := ⟨_, rfl⟩
  rw [← hk] at hki hkl hnl ⊢
  try rw [← hk] at hI2
  refine s_take (A := Bun [cells b2 0 [.pointer (some ⟨b, 0, none⟩)], cells b3 0 [.int .i64 kd, .int .i64 on, .slice so sn sc, .int .i64 th, .int .u64 ck, .slice ko kn kc, .int .u64 ((ep : Nat) : Int), .int .i64 lv], cells b4 0 [.bool false], cells b5 0 [.int .i64 ((plN on : Nat) : Int)], cells b6 0 [.slice ra (nzM m).length rc], own 1 encZ ra rc (nzM m), cells b8 0 [.int .i64 ((k : Nat) : Int)], cells b 0 [.pointer p0, .pointer p1, .pointer p2, .pointer p3, .pointer p4, .pointer p5, .slice ca T.C.length cc, .slice wa T.W.length wc], bigS (plF ckB) T.Q]) Tk ?_
  refine s_bun ?_
  try simp only [List.cons_append, List.nil_append]
  refine c_plain (.q 0 (.done)) (by kernel_rfl) ?_
  refine q_assign rfl rfl rfl rfl (r_done (k_then_n (k_begin Tk ?_)))
  refine c_block (c_seq (c_seq (c_plain (.q 0 (.q 1 (.q 2 (.q 3 (.q 4 (.q 5 (.q 6 (.q 7 (.q 8 (.q 9 (.q 10 (.q 11 (.done))))))))))))) (by kernel_rfl) ?_)))
  refine q_load_c (j := 0) rfl rfl rfl rfl Try.isAgg3 Tk Az (by rfl) ?_
  refine q_load_c (j := 0) rfl rfl rfl rfl Try.isAgg66 Tk Az (by rfl) ?_
  refine q_len rfl rfl rfl rfl Try.underlying66 ?_
  refine q_int rfl rfl rfl rfl rfl (b_geq _ _ _ _) ?_
  refine q_move rfl rfl rfl rfl ?_
  refine s_bool_p 94 rfl (fun hg => by exfalso; omega) (fun hg => ?_)
  refine q_move rfl rfl rfl rfl (q_load_c (j := 0) rfl rfl rfl rfl Try.isAgg66 Tk Az (by rfl) ?_)
  refine q_load_c (j := 0) rfl rfl rfl rfl Try.isAgg3 Tk Az (by rfl) ?_
  refine q_idxO (sz := 0) (k := k) (enc := encZ) (xs := (nzM m)) rfl rfl rfl rfl rfl Try.underlying66 Try.sizeOf3 hki (by first | rfl | omega) (by omega) Tk ?_
  intro ib98 io98 ha98 hl98 hc98
  refine q_load_O (v := (.int .i64 ((i : Nat) : Int))) (j := 0) (k' := k) (enc := encZ) (off := io98) rfl rfl rfl rfl Try.isAgg3 ha98 encZ_len hki Tk (by first | rfl | exact (Nat.add_zero _).symm | omega) (by rfl) ?_
  refine q_int rfl rfl rfl rfl rfl (b_neq _ _ _ _) ?_
  refine s_eq 100 rfl (v' := .bool false) (by simp) ?_
  refine q_pick_f rfl rfl rfl rfl rfl (r_done (s_keep [4, 8, 101] (e' := [(4, _), (8, _), (101, _)]) rfl ?_))
  refine k_then_n (c_cond_f rfl ?_)
  refine c_skip (k_then_n (c_plain (.q 0 (.q 1 ((.l 2 [] (.done))))) (by kernel_rfl) ?_))
  refine q_load_c (j := 0) rfl rfl rfl rfl Try.isAgg3 Tk Az (by rfl) ?_
  refine q_int rfl rfl rfl rfl rfl (b_add' _ (by exact fits_i64 (by omega) (by omega))) ?_
  refine l_store (j := 0) rfl rfl rfl rfl Try.sizeOf3 (us := [_]) rfl rfl rfl Tk Az (by first | decide | (simp; done) | omega) ?_
  simp only [setL, List.set]
  refine ag_nil (r_done (s_keep [] (e' := []) rfl ?_))
  refine k_blk_n (s_heap (fun _ h => Bun.fold ((by (repeat ((with_reducible apply Z2); focus (first | (with_reducible (repeat (first | exact Z0 | apply Z1)); done) | (repeat (first | exact Z0 | apply Z1))))); exact Z3 : Takes _ [cells b2 0 [.pointer (some ⟨b, 0, none⟩)], cells b3 0 [.int .i64 kd, .int .i64 on, .slice so sn sc, .int .i64 th, .int .u64 ck, .slice ko kn kc, .int .u64 ((ep : Nat) : Int), .int .i64 lv], cells b4 0 [.bool false], cells b5 0 [.int .i64 ((plN on : Nat) : Int)], cells b6 0 [.slice ra (nzM m).length rc], own 1 encZ ra rc (nzM m), cells b8 0 [.int .i64 (((k + 1) : Nat) : Int)], cells b 0 [.pointer p0, .pointer p1, .pointer p2, .pointer p3, .pointer p4, .pointer p5, .slice ca T.C.length cc, .slice wa T.W.length wc], bigS (plF ckB) T.Q] _) _ h)) ?_)
  refine rr_n ((k + 1, none)) (by rfl) (by exact ⟨fun _ => ⟨by rw [hnl], trivial⟩, fun c hc => (by cases hc)⟩) Tk ?_
  (try simp only [List.cons_append, List.nil_append]); exact Tf
 rintro ⟨k2, p2⟩ (⟨g1, g2, -⟩ | ⟨c, g1, g2⟩) blk_25
 try simp only [List.cons_append, List.nil_append]
 ·
  simp only at g1 g2
  subst g1
  have hkn2 : k2 = (nzM m).length := g2
  show Le _ _
  try simp only [List.cons_append, List.nil_append]
  refine s_take (A := Bun [cells b2 0 [.pointer (some ⟨b, 0, none⟩)], cells b3 0 [.int .i64 kd, .int .i64 on, .slice so sn sc, .int .i64 th, .int .u64 ck, .slice ko kn kc, .int .u64 ((ep : Nat) : Int), .int .i64 lv], cells b4 0 [.bool false], cells b5 0 [.int .i64 ((plN on : Nat) : Int)], cells b6 0 [.slice ra (nzM m).length rc], own 1 encZ ra rc (nzM m), cells b8 0 [.int .i64 ((k2 : Nat) : Int)], cells b 0 [.pointer p0, .pointer p1, .pointer p2, .pointer p3, .pointer p4, .pointer p5, .slice ca T.C.length cc, .slice wa T.W.length wc], bigS (plF ckB) T.Q]) Tk ?_
  refine s_bun ?_
  try simp only [List.cons_append, List.nil_append]
  refine k_blk_n (k_then_n (c_seq (c_plain (.q 0 (.q 1 (.q 2 (.q 3 ((.l 4 [] (.done))))))) (by kernel_rfl) ?_)))
  refine q_load_c (j := 0) rfl rfl rfl rfl Try.isAgg3 Tk Az (by rfl) ?_
  refine q_load_c (j := 0) rfl rfl rfl rfl Try.isAgg66 Tk Az (by rfl) ?_
  refine q_len rfl rfl rfl rfl Try.underlying66 ?_
  refine q_int rfl rfl rfl rfl rfl (b_eql _ _ _ _) ?_
  refine s_eq 107 rfl (v' := .bool true) (by rw [decide_eq_true (by omega)]) ?_
  refine l_store (j := 0) rfl rfl rfl rfl Try.sizeOf4 (us := [_]) rfl rfl rfl Tk Az (by first | decide | (simp; done) | omega) ?_
  simp only [setL, List.set]
  refine ag_nil (r_done (s_keep [4] (e' := [(4, _)]) rfl ?_))
  refine k_then_n (c_ret (rm_ret ?_))
  refine rm_mark (blk := blk_25) Tk ?_
  refine rm_mark (blk := blk_17) Tk ?_
  refine rm_done (us := [_]) rfl ⟨rv_cell1 rfl Try.isAgg4 Tk (j := 0) rfl rfl, trivial⟩ (()) (by first | rfl | (first | rfl | (congr 1; done) | (congr 1 <;> first | rfl | omega | (simp; done) | (simp; omega)))) (by trivial) ?_
  exact Tf
 exact g2.elim
end Go.Ab.Vp
