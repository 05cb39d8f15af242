/- What the threads know of one another. -/
import Derived.Test.YtkoclbjiaofkhaaEngR
import Derived.Test.YtkoclbjiaofkhaaFe4
import Derived.Test.YtkoclbjiaofkhaaVc6
set_option linter.unusedVariables false
set_option linter.unusedSimpArgs false
set_option maxRecDepth 100000
namespace Go.Ab.Dj
open Go Go.Proofs Go.Ab Go.Ab.Fe Go.Ab.Vc
abbrev evA (a : Option Addr) : Value := .pointer a
abbrev evH (x : Option Addr × Int) : Value := .agg #[.pointer x.1, .int .i64 x.2]
/-- A vector behind a pointer. -/
def vecA (a : Option Addr) (l : List Int) : HProp := fun h => ∃ b ao cap, a = some ⟨b, 0, none⟩ ∧ Sat [cells b 0 [.slice ao l.length cap], own 1 encU ao cap l] h
/-- A vector or nil. -/
def optA (a : Option Addr) : Option (List Int) → HProp
  | none => fun _ => a = none
  | some l => vecA a l
def heldA (v : Option Addr × Int) (t : List Int × Int) : HProp := fun h => v.2 = t.2 ∧ vecA v.1 t.1 h
theorem sat_free {A : HProp} {Γ : List HProp} {h : Hp} (a : A (fun _ => none)) (s : Sat Γ h) : Sat (A :: Γ) h := ⟨fun _ => none, fun _ _ x => by simp at x, a, s.mono fun _ _ x => Hmin_some.2 ⟨rfl, x⟩⟩
section
variable {w0 : World} {ds : List Deferred} {n : Nat} {e : Env} {Γ Γ' : List HProp} {X : Act → World → Prop} {a : Option Addr} {l : List Int}
theorem s_vec (tk : Take Γ (vecA a l) Γ') (k : ∀ b ao cap, a = some ⟨b, 0, none⟩ → Le (St w0 ds n e (cells b 0 [.slice ao l.length cap] :: own 1 encU ao cap l :: Γ')) X) : Le (St w0 ds n e Γ) X := fun x w s => by
  obtain ⟨h1, l1, ⟨b, ao, cap, ha, a1⟩, s1⟩ := tk _ s.heap
  exact k b ao cap ha x w ⟨s.defers, s.size, s.env, Bun.unfold ⟨h1, l1, a1, s1⟩, s.amb⟩
theorem s_vecF (b : Nat) (ao : Option Addr) (cap : Nat) (l : List Int) (tk : Takes Γ [cells b 0 [.slice ao l.length cap], own 1 encU ao cap l] Γ') (k : Le (St w0 ds n e (vecA (some ⟨b, 0, none⟩) l :: Γ')) X) : Le (St w0 ds n e Γ) X := s_heap (fun h s => by
  obtain ⟨h1, l1, a1, s1⟩ := Bun.fold (tk h s)
  exact ⟨h1, l1, ⟨b, ao, cap, rfl, a1⟩, s1⟩) k
theorem s_opt {m : Option (List Int)} (tk : Take Γ (optA a m) Γ') (ha : a ≠ none) (k : ∀ b ao cap l, m = some l → a = some ⟨b, 0, none⟩ → Le (St w0 ds n e (cells b 0 [.slice ao l.length cap] :: own 1 encU ao cap l :: Γ')) X) : Le (St w0 ds n e Γ) X := fun x w s => by
  obtain ⟨h1, l1, a1, s1⟩ := tk _ s.heap
  cases m with
  | none => exact absurd a1 ha
  | some l =>
    obtain ⟨b, ao, cap, hb, a1⟩ := a1
    exact k b ao cap l rfl hb x w ⟨s.defers, s.size, s.env, Bun.unfold ⟨h1, l1, a1, s1⟩, s.amb⟩
theorem s_opt_nil {m : Option (List Int)} (tk : Take Γ (optA a m) Γ') (ha : a = none) (k : m = none → Le (St w0 ds n e (optA a m :: Γ')) X) : Le (St w0 ds n e Γ) X := fun x w s => by
  have s2 := tk _ s.heap
  obtain ⟨h1, l1, a1, s1⟩ := s2
  cases m with
  | none => exact k rfl x w ⟨s.defers, s.size, s.env, ⟨h1, l1, a1, s1⟩, s.amb⟩
  | some l => obtain ⟨b, ao, cap, hb, -⟩ := a1; rw [ha] at hb; cases hb
theorem s_optF {l : List Int} (tk : Take Γ (vecA a l) Γ') (k : Le (St w0 ds n e (optA a (some l) :: Γ')) X) : Le (St w0 ds n e Γ) X := s_heap tk k
variable {κ : Type} [DecidableEq κ] {F : κ → Option (Option Addr)} {T : κ → Option (List Int)} {S : List κ}
theorem s_rest_opt (k : κ) (tk : Take Γ (rest vecA F T S) Γ') (hk : k ∉ S) (k1 : (T k).isSome = (F k).isSome → Le (St w0 ds n e (optA ((F k).getD none) (T k) :: rest vecA F T (k :: S) :: Γ')) X) : Le (St w0 ds n e Γ) X := fun x w s => by
  cases hT : T k with
  | none =>
    obtain ⟨hv, h1, l1, a1, s1⟩ := rest_miss hk hT (tk _ s.heap)
    rw [hT] at k1
    exact k1 (by rw [hv]; rfl) x w ⟨s.defers, s.size, s.env, sat_free (show optA ((F k).getD none) none _ by rw [hv]; rfl) ⟨h1, l1, a1, s1⟩, s.amb⟩
  | some l =>
    obtain ⟨v, hv, s1⟩ := rest_take hk hT (tk _ s.heap)
    rw [hT] at k1
    exact k1 (by rw [hv]; rfl) x w ⟨s.defers, s.size, s.env, by rw [hv]; exact s1, s.amb⟩
theorem rest_back {k : κ} {h : Hp} (hk : k ∉ S) (hs : (T k).isSome = (F k).isSome) (s : Sat (optA ((F k).getD none) (T k) :: rest vecA F T (k :: S) :: Γ) h) : Sat (rest vecA F T S :: Γ) h := by
  cases hT : T k with
  | none =>
    have hF : F k = none := by rw [hT] at hs; simpa using hs.symm
    obtain ⟨h1, l1, -, s1⟩ := s
    exact rest_none hF (fun _ _ _ => rfl) hT (fun _ _ _ => rfl) (s1.mono (Hmin_le _ _))
  | some l =>
    rw [hT] at s hs
    cases hF : F k with
    | none => rw [hF] at hs; simp at hs
    | some v =>
      rw [hF] at s
      exact rest_put hk hF (fun _ _ _ => rfl) hT (fun _ _ _ => rfl) s
theorem s_opt_back (k : κ) (tk : Takes Γ [optA ((F k).getD none) (T k), rest vecA F T (k :: S)] Γ') (hk : k ∉ S) (hs : (T k).isSome = (F k).isSome) (k1 : Le (St w0 ds n e (rest vecA F T S :: Γ')) X) : Le (St w0 ds n e Γ) X := s_heap (fun h s => rest_back hk hs (tk h s)) k1
variable {G : κ → Option (Option Addr × Int)} {U : κ → Option (List Int × Int)}
theorem s_rest_optH (k : κ) (tk : Take Γ (rest heldA G U S) Γ') (hk : k ∉ S) (k1 : Le (St w0 ds n e (optA ((G k).getD (none, 0)).1 ((U k).map (·.1)) :: rest heldA G U (k :: S) :: Γ')) X) : Le (St w0 ds n e Γ) X := fun x w s => by
  cases hT : U k with
  | none =>
    obtain ⟨hv, s1⟩ := rest_miss hk hT (tk _ s.heap)
    rw [hT] at k1
    exact k1 x w ⟨s.defers, s.size, s.env, sat_free (show optA ((G k).getD (none, 0)).1 none _ by rw [hv]; rfl) s1, s.amb⟩
  | some p =>
    obtain ⟨v, hv, s1⟩ := rest_take hk hT (tk _ s.heap)
    rw [hT] at k1
    obtain ⟨h1, l1, ⟨a1, a2⟩, s2⟩ := s1
    exact k1 x w ⟨s.defers, s.size, s.env, ⟨h1, l1, by rw [hv]; exact a2, s2⟩, s.amb⟩
theorem s_held {v : Option Addr × Int} {t : List Int × Int} (tk : Take Γ (heldA v t) Γ') (k : v.2 = t.2 → Le (St w0 ds n e (vecA v.1 t.1 :: Γ')) X) : Le (St w0 ds n e Γ) X := fun x w s => by
  obtain ⟨h1, l1, ⟨a1, a2⟩, s1⟩ := tk _ s.heap
  exact k a1 x w ⟨s.defers, s.size, s.env, ⟨h1, l1, a2, s1⟩, s.amb⟩
theorem s_heldF (v : Option Addr × Int) (t : List Int × Int) (tk : Take Γ (vecA v.1 t.1) Γ') (hv : v.2 = t.2) (k : Le (St w0 ds n e (heldA v t :: Γ')) X) : Le (St w0 ds n e Γ) X := s_heap (fun h s => by
  obtain ⟨h1, l1, a2, s1⟩ := tk h s
  exact ⟨h1, l1, ⟨hv, a2⟩, s1⟩) k
end
/-- What the threads know: the checker, the threads' vectors, the locks', the volatiles', the rounds' and how many have not left them. -/
structure VS where
  ck : CS
  th : Int → Option (List Int)
  lk : Int → Option (List Int)
  vo : Int → Option (List Int)
  rd : Int × Int → Option (List Int × Int)
def mgF (m : Option (List Int)) (l : List Int) : List Int := match m with | some q => jn l q | none => l
def thF (x : VS) (t : Int) : List Int := (x.th t).getD []
def rdK (x : VS) (t o : Int) : Int × Int := (o, (stF x.ck t).2.2)
def rdF (x : VS) (r : Int × Int) : List Int × Int := (x.rd r).getD ([], 0)
def vnF (x : VS) (k t o : Int) : VS :=
  if k = 5 then ⟨nxF x.ck k t o, upd x.th t (some (mgF (x.lk o) (thF x t))), x.lk, x.vo, x.rd⟩
  else if k = 3 then ⟨nxF x.ck k t o, upd x.th t (some (mgF (x.vo o) (thF x t))), x.lk, x.vo, x.rd⟩
  else if k = 8 then ⟨nxF x.ck k t o, upd x.th t (some (mgF (x.th o) (thF x t))), x.lk, x.vo, x.rd⟩
  else if k = 10 then ⟨nxF x.ck k t o, upd x.th t (some (jn (thF x t) (rdF x (rdK x t o)).1)), x.lk, x.vo, upd x.rd (rdK x t o) (if (rdF x (rdK x t o)).2 - 1 ≤ 0 then none else some ((rdF x (rdK x t o)).1, (rdF x (rdK x t o)).2 - 1))⟩
  else if k = 6 then ⟨nxF x.ck k t o, upd x.th t (some (icL (thF x t) t.toNat)), upd x.lk o (some (thF x t)), x.vo, x.rd⟩
  else if k = 4 then ⟨nxF x.ck k t o, upd x.th t (some (icL (thF x t) t.toNat)), x.lk, upd x.vo o (some (mgF (x.vo o) (thF x t))), x.rd⟩
  else if k = 9 then ⟨nxF x.ck k t o, upd x.th t (some (icL (thF x t) t.toNat)), x.lk, x.vo, upd x.rd (o, (opF x.ck o).1) (some (mgF ((x.rd (o, (opF x.ck o).1)).map (·.1)) (thF x t), x.ck.pa.getD o.toNat 0))⟩
  else if k = 7 then ⟨nxF x.ck k t o, upd (upd x.th o (some (stL (thF x t) o.toNat 1))) t (some (icL (thF x t) t.toNat)), x.lk, x.vo, x.rd⟩
  else ⟨nxF x.ck k t o, x.th, x.lk, x.vo, x.rd⟩
def relK (k : Int) : Prop := k = 6 ∨ k = 4 ∨ k = 7 ∨ k = 9
instance (k : Int) : Decidable (relK k) := by unfold relK; infer_instance
/-- May an event be next, by the clocks too? -/
def vcanF (x : VS) (k t o : Int) : Prop := canF x.ck k t o ∧ (relK k → (thF x t).getD t.toNat 0 < maxC)
instance (x : VS) (k t o : Int) : Decidable (vcanF x k t o) := by unfold vcanF; infer_instance
/-- How many threads wait in a round of a barrier. -/
def wtN (c : CS) (b r : Int) : Nat := c.T.countP (fun s => decide (s = (2, b, r)))
structure VInv (x : VS) : Prop where
  ck : CInv x.ck
  th : ∀ t, (x.th t).isSome = true ↔ (stF x.ck t).1 ≠ 0
  thc : ∀ t l, x.th t = some l → CV l
  lkc : ∀ t l, x.lk t = some l → CV l
  voc : ∀ t l, x.vo t = some l → CV l
  rdc : ∀ r p, x.rd r = some p → CV p.1
  rds : ∀ r p, x.rd r = some p → 0 ≤ p.2 ∧ p.2 ≤ 65535
  wt : ∀ b r, ((wtN x.ck b r : Nat) : Int) ≤ (rdF x (b, r)).2
  wo : ∀ b : Int, 0 ≤ b → b < x.ck.B.length → ((wtN x.ck b (opF x.ck b).1 : Nat) : Int) ≤ (opF x.ck b).2
def vsR (pa : Option Addr) (pc : Nat) (po : Option Addr) (poc b : Nat) (x : VS) : HProp := fun h => ∃ cb m1 m2 m3 m4 F1 F2 F3 F4, Sat [cells b 0 [.pointer (some ⟨cb, 0, none⟩), .slice po x.ck.pa.length poc, .map (some m1), .map (some m2), .map (some m3), .map (some m4)], ck pa pc cb x.ck,
  mapO ekZ evA m1 F1, rest vecA F1 x.th [], mapO ekZ evA m2 F2, rest vecA F2 x.lk [], mapO ekZ evA m3 F3, rest vecA F3 x.vo [], mapO ek2 evH m4 F4, rest heldA F4 x.rd []] h
section
variable {w0 : World} {ds : List Deferred} {n : Nat} {e : Env} {Γ : List HProp} {X : Act → World → Prop}
theorem vs_open {pa : Option Addr} {pc : Nat} {po : Option Addr} {poc b : Nat} {x : VS} (k : ∀ cb m1 m2 m3 m4 F1 F2 F3 F4, Le (St w0 ds n e (cells b 0 [.pointer (some ⟨cb, 0, none⟩), .slice po x.ck.pa.length poc, .map (some m1), .map (some m2), .map (some m3), .map (some m4)] :: ck pa pc cb x.ck ::
    mapO ekZ evA m1 F1 :: rest vecA F1 x.th [] :: mapO ekZ evA m2 F2 :: rest vecA F2 x.lk [] :: mapO ekZ evA m3 F3 :: rest vecA F3 x.vo [] :: mapO ek2 evH m4 F4 :: rest heldA F4 x.rd [] :: Γ)) X) : Le (St w0 ds n e (vsR pa pc po poc b x :: Γ)) X := fun a w s => by
  obtain ⟨h1, l1, ⟨cb, m1, m2, m3, m4, F1, F2, F3, F4, a1⟩, s1⟩ := s.heap
  exact k cb m1 m2 m3 m4 F1 F2 F3 F4 a w ⟨s.defers, s.size, s.env, Bun.unfold ⟨h1, l1, a1, s1⟩, s.amb⟩
theorem vs_fold {Γ' : List HProp} {b : Nat} (x : VS) {pa : Option Addr} {pc : Nat} {po : Option Addr} {poc pn cb m1 m2 m3 m4 : Nat} {F1 F2 F3 : Int → Option (Option Addr)} {F4 : Int × Int → Option (Option Addr × Int)} {c : CS} {T1 T2 T3 : Int → Option (List Int)} {T4 : Int × Int → Option (List Int × Int)}
    (tk : Takes Γ [cells b 0 [.pointer (some ⟨cb, 0, none⟩), .slice po pn poc, .map (some m1), .map (some m2), .map (some m3), .map (some m4)], ck pa pc cb c,
      mapO ekZ evA m1 F1, rest vecA F1 T1 [], mapO ekZ evA m2 F2, rest vecA F2 T2 [], mapO ekZ evA m3 F3, rest vecA F3 T3 [], mapO ek2 evH m4 F4, rest heldA F4 T4 []] Γ') (hx : x = ⟨c, T1, T2, T3, T4⟩) (h1 : pn = c.pa.length)
    (k : Le (St w0 ds n e (vsR pa pc po poc b x :: Γ')) X) : Le (St w0 ds n e Γ) X := s_heap (fun h s => by
  subst h1 hx
  obtain ⟨h1, l1, a1, s1⟩ := Bun.fold (tk h s)
  exact ⟨h1, l1, ⟨cb, m1, m2, m3, m4, F1, F2, F3, F4, a1⟩, s1⟩) k
end
theorem get_z (b : Nat) (l : List Int) (ao : Option Addr) (n cap : Nat) (hn : l.length = n) (t : Int) (h0 : 0 ≤ t) : Spec Try.prog 66 [.pointer (some ⟨b, 0, none⟩), .int .i64 t] [cells b 0 [.slice ao n cap], own 1 encU ao cap l] (fun (_ : Unit) => .int .u64 (l.getD t.toNat 0)) (fun _ => True) (fun _ => [cells b 0 [.slice ao n cap], own 1 encU ao cap l]) := by
  obtain ⟨i, rfl⟩ := Int.eq_ofNat_of_zero_le h0
  exact Vc.get_spec b l ao n cap hn i
theorem set_z (b : Nat) (l : List Int) (ao : Option Addr) (n cap : Nat) (hn : l.length = n) (hl : CV l) (t : Int) (h0 : 0 ≤ t) (hi : t < 65535) (v : Int) (hv0 : 0 ≤ v) (hv1 : v ≤ maxC) : Spec Try.prog 47 [.pointer (some ⟨b, 0, none⟩), .int .i64 t, .int .u64 v] [cells b 0 [.slice ao n cap], own 1 encU ao cap l] (fun (r : Option Addr × Nat) => .int .i64 0) (fun r => True) (fun r => [cells b 0 [.slice r.1 (stL l t.toNat v).length r.2], own 1 encU r.1 r.2 (stL l t.toNat v)]) := by
  obtain ⟨i, rfl⟩ := Int.eq_ofNat_of_zero_le h0
  exact Vc.set_spec b l ao n cap hn hl i (by omega) v hv0 hv1
theorem inc_z (b : Nat) (l : List Int) (ao : Option Addr) (n cap : Nat) (hn : l.length = n) (hl : CV l) (t : Int) (h0 : 0 ≤ t) (hi : t < 65535) (hlt : l.getD t.toNat 0 < maxC) : Spec Try.prog 70 [.pointer (some ⟨b, 0, none⟩), .int .i64 t] [cells b 0 [.slice ao n cap], own 1 encU ao cap l] (fun (r : Option Addr × Nat) => .tuple #[.int .u64 (l.getD t.toNat 0 + 1), .int .i64 0]) (fun r => True) (fun r => [cells b 0 [.slice r.1 (icL l t.toNat).length r.2], own 1 encU r.1 r.2 (icL l t.toNat)]) := by
  obtain ⟨i, rfl⟩ := Int.eq_ofNat_of_zero_le h0
  exact Vc.inc_spec b l ao n cap hn hl i (by omega) hlt
theorem merged_spec (ka : Option Addr) (km : Option (List Int)) (hkc : ∀ q, km = some q → CV q) (b : Nat) (l : List Int) (ao : Option Addr) (cap : Nat) (hl : CV l) : Spec Try.prog 67 [.pointer ka, .pointer (some ⟨b, 0, none⟩)] [optA ka km, cells b 0 [.slice ao l.length cap], own 1 encU ao cap l] (fun (r : Nat × Option Addr × Nat) => .pointer (some ⟨r.1, 0, none⟩)) (fun r => True) (fun r => [optA ka km, cells b 0 [.slice ao l.length cap], own 1 encU ao cap l, cells r.1 0 [.slice r.2.1 (mgF km l).length r.2.2], own 1 encU r.2.1 r.2.2 (mgF km l)]) := by
 refine spec_mk (n := 15) Try.func67 rfl rfl rfl ?_
 intro Γ w0
 simp only [argE, List.cons_append, List.nil_append, Nat.zero_add, Nat.reduceAdd]
 have hll := hl.len
 refine c_seq ?_
 refine c_plain (.q 0 (.done)) (by kernel_rfl) ?_
 refine q_assign rfl rfl rfl rfl ?_
 refine r_done ?_
 refine k_then_n ?_
 refine c_seq ?_
 refine c_plain (.q 0 ((.l 1 [] (.q 2 (.done))))) (by kernel_rfl) ?_
 refine q_move rfl rfl rfl rfl ?_
 have sp_1 := Vc.copy_spec b l ao l.length cap (by first | rfl | assumption | omega | (simp; done) | (simp; omega)) (by omega)
 refine l_call rfl rfl rfl rfl rfl rfl Try.call69 (sp_1) (by (repeat ((with_reducible apply Z2); focus (first | (with_reducible (repeat (first | exact Z0 | apply Z1)); done) | (repeat (first | exact Z0 | apply Z1))))); exact Z3) ?_
 rintro ⟨mb, ma, mc⟩ -
 try simp only [List.cons_append, List.nil_append]
 refine ag_nil ?_
 refine q_assign rfl rfl rfl rfl ?_
 refine r_done ?_
 refine s_keep [0, 5] (e' := [(0, _), (5, _)]) rfl ?_
 refine k_then_n ?_
 refine c_seq ?_
 refine c_seq ?_
 refine c_plain (.q 0 (.q 1 (.done))) (by kernel_rfl) ?_
 refine q_move rfl rfl rfl rfl ?_
 refine q_ne_nil rfl rfl rfl rfl Try.underlying82 ?_
 refine r_done ?_
 refine k_then_n ?_
 refine c_cond rfl (fun hk => ?_) (fun hk => ?_)
 ·
  have hk2 : ka ≠ none := by intro h; rw [h] at hk; cases hk
  refine s_opt (a := ka) (m := km) (by with_reducible (repeat (first | exact Z0 | apply Z1))) hk2 fun kb kao kcap kl hkm hka => ?_
  subst hkm
  subst hka
  try simp only [List.cons_append, List.nil_append]
  refine c_plain (.q 0 (.q 1 ((.l 2 [] ((.l 3 [] (.done))))))) (by kernel_rfl) ?_
  refine q_move rfl rfl rfl rfl ?_
  refine q_move rfl rfl rfl rfl ?_
  refine l_buildSlice rfl rfl rfl rfl (run_build1 (us := [_]) Try.underlying150 Try.sizeOf82 rfl Try.zeroValue82 rfl rfl rfl) ?_
  intro b12
  refine ag_nil ?_
  refine s_big_nil (f := kf) ?_
  refine s_heap (fun _ h => Bun.fold ((by (repeat ((with_reducible apply Z2); focus (first | (with_reducible (repeat (first | exact Z0 | apply Z1)); done) | (repeat (first | exact Z0 | apply Z1))))); exact Z3 : Takes _ [cells kb 0 [.slice kao kl.length kcap], own 1 encU kao kcap kl] _) _ h)) ?_
  refine s_big_push (f := kf) (L := []) (x := (kb, kao, kcap, kl)) (by (repeat ((with_reducible apply Z2); focus (first | (with_reducible (repeat (first | exact Z0 | apply Z1)); done) | (repeat (first | exact Z0 | apply Z1))))); exact Z3) ?_
  simp only [List.nil_append]
  have sp_2 := Vc.join_spec mb l ma l.length mc (by first | rfl | assumption | omega | (simp; done) | (simp; omega)) hl [(kb, kao, kcap, kl)] [(kb, kao, kcap, kl)] (fun x hx => hx) (by intro x hx; simp at hx; subst hx; exact (hkc _ rfl)) (some ⟨b12, 0, none⟩) 1 1 (cells b12 0 [.pointer (some ⟨kb, 0, none⟩)]) (rds_some rdn_cells) rfl (by decide)
  refine l_call rfl rfl rfl rfl rfl rfl Try.call78 (sp_2) (by (repeat ((with_reducible apply Z2); focus (first | (with_reducible (repeat (first | exact Z0 | apply Z1)); done) | (repeat (first | exact Z0 | apply Z1))))); exact Z3) ?_
  rintro ⟨ja, jc⟩ -
  try simp only [List.cons_append, List.nil_append]
  refine s_big_take (f := kf) (L := [(kb, kao, kcap, kl)]) (i := 0) (x := (kb, kao, kcap, kl)) (by with_reducible (repeat (first | exact Z0 | apply Z1))) rfl ?_
  refine s_bun ?_
  try simp only [List.cons_append, List.nil_append, List.eraseIdx_cons_zero]
  rw [show jnA l [(kb, kao, kcap, kl)] = jn l kl from rfl]
  try simp only [List.cons_append, List.nil_append]
  refine ag_nil ?_
  refine r_done ?_
  refine s_keep [5] (e' := [(5, _)]) rfl ?_
  refine k_then_n ?_
  refine c_seq ?_
  refine c_plain (.q 0 (.q 1 (.done))) (by kernel_rfl) ?_
  refine q_move rfl rfl rfl rfl ?_
  refine q_assign rfl rfl rfl rfl ?_
  refine r_done ?_
  refine k_then_n ?_
  refine c_ret ?_
  refine s_vecF kb kao kcap kl (by (repeat ((with_reducible apply Z2); focus (first | (with_reducible (repeat (first | exact Z0 | apply Z1)); done) | (repeat (first | exact Z0 | apply Z1))))); exact Z3) ?_
  refine s_optF (by first | (with_reducible (repeat (first | exact Z0 | apply Z1)); done) | (repeat (first | exact Z0 | apply Z1))) ?_
  rw [show mgF (some kl) l = jn l kl from rfl]
  refine ret1 rfl rfl ((mb, ja, jc)) (by first | rfl | (first | rfl | (congr 1; done) | (congr 1 <;> first | rfl | omega | (simp; done) | (simp; omega)))) (by trivial) ?_
  (repeat ((with_reducible apply Z2); focus (first | (with_reducible (repeat (first | exact Z0 | apply Z1)); done) | (repeat (first | exact Z0 | apply Z1))))); (repeat (first | exact Z3 | exact Takes.self | refine takes_drop2 ?_))
 ·
  have hk2 : ka = none := by
    cases ka with
    | none => rfl
    | some _ => simp at hk
  refine s_opt_nil (a := ka) (m := km) (by with_reducible (repeat (first | exact Z0 | apply Z1))) hk2 fun hkm => ?_
  refine c_skip ?_
  refine k_then_n ?_
  refine c_seq ?_
  refine c_plain (.q 0 (.q 1 (.done))) (by kernel_rfl) ?_
  refine q_move rfl rfl rfl rfl ?_
  refine q_assign rfl rfl rfl rfl ?_
  refine r_done ?_
  refine s_keep [4] (e' := [(4, _)]) rfl ?_
  refine k_then_n ?_
  refine c_ret ?_
  rw [show mgF km l = l from by rw [hkm]; rfl]
  refine ret1 rfl rfl ((mb, ma, mc)) (by first | rfl | (first | rfl | (congr 1; done) | (congr 1 <;> first | rfl | omega | (simp; done) | (simp; omega)))) (by trivial) ?_
  (repeat ((with_reducible apply Z2); focus (first | (with_reducible (repeat (first | exact Z0 | apply Z1)); done) | (repeat (first | exact Z0 | apply Z1))))); (repeat (first | exact Z3 | exact Takes.self | refine takes_drop2 ?_))
end Go.Ab.Dj
